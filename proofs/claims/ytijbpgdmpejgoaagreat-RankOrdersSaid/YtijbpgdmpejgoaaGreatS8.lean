import Derived.Test.YtijbpgdmpejgoaaGreatS5
import Derived.Test.YtijbpgdmpejgoaaGreatS7
set_option linter.all false
noncomputable section
namespace Go.Gl
open Go.Proofs
attribute [local irreducible] Be BQ BH Ae AR BC Af Ag AT A7 AZ Ad Bk Bx Sat Au Bs BI W
def pick (ls:List (List Int)):Option Int:=(ls.find? fun l=>match l with| []=>false|x::_=>free ls x).bind List.head?
def total (ls:List (List Int)):Nat:=(ls.map List.length).sum
def DX:Nat→List (List Int)→List Int→List Int×Bool
 | 0,ls,out=>(out,ls.all List.isEmpty)
 | n+1,ls,out=>match pick ls with
   | none=>(out,ls.all List.isEmpty)
   | some x=>DX n (ls.map fun l=>l.filter (· != x)) (out++[x])
def CX (ls:List (List Int)):List Int×Bool:=DX (total ls) ls []
theorem IZ {ls:List (List Int)} {x:Int} (h:pick ls=some x):total (ls.map fun l=>l.filter (· != x))<total ls:=by
 unfold pick at h;rw[Option.bind_eq_some_iff]at h;obtain⟨l,h1,h2⟩:=h;have hm:=List.mem_of_find?_eq_some h1;clear h1;cases l with
 | nil=>cases h2
 | cons y r=>
   simp only[List.head?_cons,J2]at h2;subst h2
   have hle: ∀ls:List (List Int),total (ls.map fun l=>l.filter (· != y))≤total ls:=fun ls=>by
    induction ls with
    | nil=>simp[total]
    | cons a bs ih=>
      have:=TU (· != y) a;simp only[total,Fa,List.sum_cons]at *;omega
   induction ls with
   | nil=>cases hm
   | cons a bs ih=>
     rcases IC.1 hm with rfl|hm
     ·have h1:=hle bs
      have h2:=TU (· != y) r;simp only[total,Fa,List.sum_cons]at *;have:((y::r).filter (· != y)).length≤r.length:=by simpa using h2
      simp only[OB];omega
     ·have h1:=ih hm
      have h2:=TU (· != y) a;simp only[total,Fa,List.sum_cons]at *;omega
def MS (ls:List (List Int)):Prop:=ls.length≤1000000∧ ∀l∈ls,l.length≤Ai∧ ∀x∈l,0≤x
theorem MS.filter {ls:List (List Int)} (h:MS ls) (x:Int):MS (ls.map fun l=>l.filter (· != x)):=by
 refine⟨by rw[Bz];exact h.1,fun l hl=>?_⟩;obtain⟨l',hl',rfl⟩:=Ob.1 hl;obtain⟨h1,h2⟩:=h.2 l' hl';exact⟨Nat.le_trans (TU _ _) h1,fun y hy=>h2 y (Rr.1 hy).1⟩
def EC (ls:List (List Int)) (k:Nat):Int:=((((ls.take k).find? fun l=>match l with| []=>false|x::_=>free ls x).bind List.head?).getD (-1))
theorem VP: ∀(n:Nat) (ls:List (List Int)) (out:List Int),total ls≤n→DX n ls out=DX (total ls) ls out:=by
 intro n
 induction n using Nat.strongRecOn with
 | _ n ih=>
   intro ls out hn;by_cases he:total ls=n
   ·rw[he]
   ·cases n with
    | zero=>omega
    | succ n=>
      cases hp:pick ls with
      | none=>
        cases ht:total ls with
        | zero=>simp[DX,hp]
        | succ m=>simp[DX,hp]
      | some x=>
        have h1:=IZ hp;cases ht:total ls with
        | zero=>omega
        | succ m=>
          simp only[DX,hp];rw[ih n (by omega) _ _ (by omega),ih m (by omega) _ _ (by omega)]
theorem Ng {ls:List (List Int)} {x:Int} {out:List Int} (hp:pick ls=some x):DX (total ls) ls out=DX (total (ls.map fun l=>l.filter (· != x))) (ls.map fun l=>l.filter (· != x)) (out++[x]):=by
 have h1:=IZ hp;cases ht:total ls with
 | zero=>omega
 | succ m=>
   simp only[DX,hp];exact VP m _ _ (by omega)
theorem Pv {ls:List (List Int)} {out:List Int} (hp:pick ls=none):DX (total ls) ls out=(out,ls.all List.isEmpty):=by
 cases ht:total ls with
 | zero=>rfl
 | succ m=>simp only[DX,hp]
def FI (ls:List (List Int)) (l:List Int):Bool:=match l with| []=>false|x::_=>free ls x
theorem H2 (ls:List (List Int)) (k:Nat):EC ls k=(((ls.take k).find? (FI ls)).bind List.head?).getD (-1):=rfl
theorem Ib {ls:List (List Int)} (hok:MS ls) {k:Nat} (h:EC ls k<0):(ls.take k).find? (FI ls)=none:=by
 rw[H2]at h;cases hf:(ls.take k).find? (FI ls)with
 | none=>rfl
 | some l=>
   rw[hf]at h;have hm:=List.mem_of_mem_take (List.mem_of_find?_eq_some hf);have hg:=List.find?_some hf;cases l with
   | nil=>cases hg
   | cons x r=>
     have:=(hok.2 _ hm).2 x (.head _);simp at h;omega
theorem VN {ls:List (List Int)} (hok:MS ls) {k:Nat} (hk:k<ls.length) (h:EC ls k<0):EC ls (k+1)=if FI ls ls[k]then(ls[k].head?).getD (-1)else -1:=by
 rw[H2,List.take_succ_eq_append_getElem hk,List.find?_append,Ib hok h];by_cases hg:FI ls ls[k]=true
 ·simp[hg]
 ·simp[hg]
theorem Po {ls:List (List Int)} {k:Nat} (h:0≤EC ls k):pick ls=some (EC ls k):=by
 rw[H2]at *;show((ls.find? (FI ls)).bind List.head?)=_;cases hf:(ls.take k).find? (FI ls)with
 | none=>rw[hf]at h;simp at h
 | some l=>
   have h1:ls.find? (FI ls)=some l:=by
    have:=List.take_append_drop k ls;rw[←this,List.find?_append,this,hf];rfl
   rw[h1];rw[hf]at h;cases l with
   | nil=>simp at h
   | cons x r=>simp
theorem JZ {ls:List (List Int)} (hok:MS ls) {k:Nat} {l:List Int} (hl:ls[k]? =some l) (h:EC ls k<0):EC ls (k+1)=if FI ls l then(l.head?).getD (-1)else -1:=by
 obtain⟨hk,rfl⟩:=Nu.1 hl;exact VN hok hk h
theorem Y5 {ls:List (List Int)} {l:List Int} (h:l∈ls):l.length≤total ls:=by
 induction ls with
 | nil=>cases h
 | cons a r ih=>
   simp only[total,Fa,List.sum_cons]at *;rcases IC.1 h with rfl|h
   ·omega
   ·have:=ih h;omega
theorem de (ls:List (List Int)) (f:Bool) (hok:MS ls) (ht:total ls<Ai):Pure Tryz.prog 195 [.l (Ev ls) f] (.t [.l (iL (CX ls).1) false,.b (CX ls).2]):=by
 have hM:=Mx;refine xd nb ?_
 conv=>whnf
 repeat((first|(refine Ao ?_;intro K U)|(refine AV ?_;intro I C G F)|(apply G;clear F C G I)|refine BT ?_|refine Cs ?_|(apply U;clear U K)|fail);conv=>whnf)
 refine Ke (fun(x:List (List Int)×Bool×V×List Int)=>total x.1) (fun x=>[(0,.l (Ev x.1) x.2.1),(4,x.2.2.1)]) (fun x=>[.own x.2.2.1 1 (iL x.2.2.2)])
  (fun x=>MS x.1∧x.2.2.2.length+total x.1≤total ls∧DX (total x.1) x.1 x.2.2.2=CX ls) (ls,f,.l [] true,[]) rfl ⟨hok,by simp,rfl⟩ (HI Sat.nil 1) ?_
 rintro⟨ls',f',v,out⟩ σ ⟨hok',hlen,hm⟩ hs;dsimp only at hok' hlen hm hs;have hlm:ls'.length≤Ai:=by have:=hok'.1;omega
 conv=>whnf
 repeat((first|(refine Ao ?_;intro K U)|(refine AV ?_;intro I C G F)|(apply G;clear F C G I)|refine BT ?_|refine Cs ?_|(apply U;clear U K)|fail);conv=>whnf)
 have hJ :=Ql U (fun(y:Int×Bool)=>[(5,.i .i64 y.1),(6,.b y.2)]) (fun _=>[.own v 1 (iL out)]) (fun y=>(0≤y.1∧pick ls'=some y.1)∨(y.1<0∧pick ls'=none∧y.2=ls'.any fun l=> !l.isEmpty))
  [(0,.l (Ev ls') f'),(4,v),(5,.pn),(6,.pn)] (by
  rintro⟨nx,lf⟩ σ hor hs;dsimp only at hor
  conv=>whnf
  repeat((first|refine⟨rfl,?_⟩|(refine Ao ?_;intro K U)|(refine AV ?_;intro I C G F)|(apply G;clear F C G I)|refine Bn ?_|(apply U;clear U K)|fail);conv=>whnf)
  refine fork (fun hneg=>?_) (fun hneg=>?_)
  ·conv=>whnf
   repeat((first|(refine Ao ?_;intro K U)|(refine AV ?_;intro I C G F)|(apply G;clear F C G I)|refine DI ?_|(apply U;clear U K)|(clear U K));conv=>whnf)
   rcases hor with⟨h0,_⟩|⟨_,hp,rfl⟩
   ·omega
   ·rw[Pv hp]at hm
    refine B0 ?_;rw[←hm];refine .t (.cons (hs.I6 0 rfl) (.cons ?_ .nil));have:(!ls'.any fun l=> !l.isEmpty)=ls'.all List.isEmpty:=by simp[List.all_eq_not_any_not]
    rw[←this];exact .refl _
  ·conv=>whnf
   repeat((first|(refine Ao ?_;intro K U)|(refine AV ?_;intro I C G F)|refine Bu ?_|(apply U;clear U K)|fail);conv=>whnf)
   rcases hor with⟨_,hp⟩|⟨h0,_⟩
   ·have hlt:=IZ hp
    refine GB hs 0 (x:=nx) rfl (by omega) DC fun v' σ hs=>?_
    conv=>whnf
    repeat((first|(refine Ao ?_;intro K U)|(refine AV ?_;intro I C G F)|(apply G;clear F C G I)|refine BT ?_|refine Cs ?_|(apply U;clear U K)|fail);conv=>whnf)
    refine Cn ls'.length (fun k u=>[(8,u),(9,eI (BJ k))]) (fun k u=>[.own v' 1 (iL (out++[nx])),.own u 1 (Ev ((ls'.take k).map fun l=>l.filter (· != nx)))]) (fun _ _=>True) (.l [] true) rfl trivial (HI hs 1) ?_;rintro k u σ hk - hs
    conv=>whnf
    repeat((first|refine⟨rfl,?_⟩|refine D8 ?_|(refine Ao ?_;intro K U)|(refine AV ?_;intro I C G F)|(apply G;clear F C G I)|refine Bn ?_|(apply U;clear U K)|fail);conv=>whnf)
    refine GZ hk hlm (fun l hl hlt'=>?_) fun hk=>?_
    ·conv=>whnf
     repeat((first|(refine Ao ?_;intro K U)|(refine AV ?_;intro I C G F)|refine Bu ?_|refine BT ?_|(apply U;clear U K)|fail);conv=>whnf)
     refine JH hl hlm rfl ?_
     conv=>whnf
     repeat((first|refine Bm ?_|fail);conv=>whnf)
     refine(Pe _ _ _ (hok'.2 _ (DM hl)).1).use ?_
     conv=>whnf
     refine GB hs 1 (x:=l.filter (· != nx)) rfl (by have:=hok'.1;simp;omega) Dk fun u' σ' hs'=>?_
     conv=>whnf
     repeat((first|refine⟨rfl,?_⟩|(refine AV ?_;intro I C G F)|(apply G;clear F C G I)|(apply U;clear U K)|(clear U K));conv=>whnf)
     refine⟨hlt',u',rfl,trivial,?_⟩;rw[AO hl,TR];exact hs'
    ·rw[A2 hk]at hs
     conv=>whnf
     repeat((first|(refine AV ?_;intro I C G F)|refine Ct ?_|(apply U;clear U K)|(clear U K));conv=>whnf)
     refine tX hs 1 rfl fun σ' hs'=>?_
     conv=>whnf
     repeat((first|(apply G;clear F C G I)|fail);conv=>whnf)
     refine⟨(ls'.map fun l=>l.filter (· != nx),false,v',out++[nx]),hlt,rfl,⟨hok'.filter nx,by simp;omega,?_⟩,hs'⟩;rw[←Ng hp];exact hm
   ·omega)
 clear U
 ·refine Cn ls'.length (fun k (_:Unit)=>[(5,.i .i64 (EC ls' k)),(6,.b ((ls'.take k).any fun l=> !l.isEmpty)),(7,eI (BJ k))]) (fun _ _=>[.own v 1 (iL out)]) (fun _ _=>True) () rfl trivial hs ?_
  rintro k - σ hk - hs
  conv=>whnf
  repeat((first|refine⟨rfl,?_⟩|refine D8 ?_|(refine Ao ?_;intro K U)|(refine AV ?_;intro I C G F)|fail);conv=>whnf)
  refine⟨fun h=>?_,fun h=>?_⟩<;>(try rw[h])
  ·have hlt:=of_decide_eq_true h
   rw[AP (by have:=hok'.1;omega)]at hlt;have hlt:=bw hlt;have hl:=FD hlt;have hb:=hok'.2 _ (List.getElem_mem hlt);generalize ls'[k]=l at *
   conv=>whnf
   repeat((first|refine⟨rfl,?_⟩|refine Ga ?_|(apply G;clear F C G I)|refine Bn ?_|(apply U;clear U K)|fail);conv=>whnf)
   refine fork (fun hneg=>?_) (fun hneg=>?_)
   ·conv=>whnf
    repeat((first|(refine Ao ?_;intro K U)|(refine AV ?_;intro I C G F)|refine Bu ?_|refine BT ?_|(apply U;clear U K)|fail);conv=>whnf)
    refine JH hl hlm rfl ?_
    conv=>whnf
    repeat((first|refine⟨rfl,?_⟩|refine Bm ?_|refine D8 ?_|(apply G;clear F C G I)|refine Bn ?_|(apply U;clear U K)|fail);conv=>whnf)
    refine fork (fun hp=>?_) (fun hp=>?_)
    ·simp only[Bz]at hp
     obtain⟨x,r,rfl⟩: ∃x r,l=x::r:=by cases l with
      | nil=>simp at hp
      | cons x r=>exact⟨x,r,rfl⟩
     have hany:((ls'.take (k+1)).any fun l=> !l.isEmpty)=true:=by
      rw[AO hl];simp
     conv=>whnf
     repeat((first|(refine Ao ?_;intro K U)|(refine AV ?_;intro I C G F)|(apply G;clear F C G I)|(apply U;clear U K)|fail);conv=>whnf)
     refine JH hl hlm rfl ?_
     conv=>whnf
     repeat((first|refine Bm ?_|fail);conv=>whnf)
     refine Tu 0 rfl rfl rfl ?_
     conv=>whnf
     repeat((first|refine Bm ?_|fail);conv=>whnf)
     refine(lh _ _ _ hlm fun l hl=>(hok'.2 l hl).1).use ?_
     conv=>whnf
     repeat((first|(apply G;clear F C G I)|refine Bn ?_|(apply U;clear U K)|fail);conv=>whnf)
     refine⟨fun hf=>?_,fun hf=>?_⟩
     ·conv=>whnf
      repeat((first|(refine AV ?_;intro I C G F)|fail);conv=>whnf)
      refine JH hl hlm rfl ?_
      conv=>whnf
      repeat((first|refine Bm ?_|fail);conv=>whnf)
      refine Tu 0 rfl rfl rfl ?_
      conv=>whnf
      repeat((first|refine⟨rfl,?_⟩|refine Bm ?_|(refine AV ?_;intro I C G F)|(apply G;clear F C G I)|(apply U;clear U K)|fail);conv=>whnf)
      refine⟨hlt,(),?_,trivial,hs⟩;have:EC ls' (k+1)=x:=by rw[JZ hok' hl hneg];simp[FI,hf]
      dsimp only;rw[this,hany];rfl
     ·conv=>whnf
      repeat((first|refine⟨rfl,?_⟩|(refine AV ?_;intro I C G F)|(apply G;clear F C G I)|refine Bu ?_|(apply U;clear U K)|fail);conv=>whnf)
      refine⟨hlt,(),?_,trivial,hs⟩;have:EC ls' (k+1)=EC ls' k:=by rw[JZ hok' hl hneg,H2 ls' k,Ib hok' hneg];simp[FI,hf]
      dsimp only;rw[this,hany];rfl
    ·simp only[Bz]at hp
     obtain rfl:l= []:=aK.1 (by omega)
     conv=>whnf
     repeat((first|refine⟨rfl,?_⟩|(refine AV ?_;intro I C G F)|(apply G;clear F C G I)|refine Bu ?_|(apply U;clear U K)|fail);conv=>whnf)
     refine⟨hlt,(),?_,trivial,hs⟩;have:EC ls' (k+1)=EC ls' k:=by rw[JZ hok' hl hneg,H2 ls' k,Ib hok' hneg];simp[FI]
     have hany:((ls'.take (k+1)).any fun l=> !l.isEmpty)=((ls'.take k).any fun l=> !l.isEmpty):=by
      rw[AO hl,List.any_append];simp
     dsimp only;rw[this,hany];rfl
   ·conv=>whnf
    repeat((first|refine Ct ?_|(clear U K));conv=>whnf)
    refine hJ (EC ls' k,(ls'.take k).any fun l=> !l.isEmpty) _ _ rfl (.inl ⟨by omega,?_⟩) hs;exact Po (by omega)
  ·have hlt:=of_decide_eq_false h
   rw[AP (by have:=hok'.1;omega)]at hlt;have hke:=YM hk hlt
   conv=>whnf
   repeat((first|refine IP ?_|(apply G;clear F C G I)|refine Bn ?_|refine Ct ?_|(apply U;clear U K)|(clear U K));conv=>whnf)
   refine hJ (EC ls' k,(ls'.take k).any fun l=> !l.isEmpty) _ _ rfl ?_ hs;rw[A2 hke];by_cases h0:0≤EC ls' k
   ·exact .inl ⟨h0,Po h0⟩
   ·refine .inr ⟨by omega,?_,rfl⟩
    have:=Ib hok' (k:=k) (by omega);rw[A2 hke]at this;show((ls'.find? (FI ls')).bind List.head?)=none;rw[this];rfl
def EP (g os:List (List Int)) (c:Int):List Int:=
 match Ed g os c with
 | none=>[]
 | some l=>if(CX l).2 then [c]++(CX l).1++[0]else []
def Bp (g:List (List Int)):Nat→List (List Int)
 | 0=>[[0]]
 | k+1=>Bp g k++[EP g (Bp g k) ((k:Int)+1)]
def CJ (g:List (List Int)):List (List Int):=Bp g (2+g.length)
def Is (g:List (List Int)):Prop:=g.length≤16∧ ∀(i:Nat) (l:List Int),g[i]? =some l→l.length≤3∧l.Nodup∧ ∀c∈l,(3:Int)≤c∧c<3+(i:Int)
theorem Cu (g:List (List Int)): ∀k,(Bp g k).length=k+1
 | 0=>rfl
 | k+1=>by simp[Bp,Cu g k]
theorem Ic: ∀(n:Nat) (ls:List (List Int)) (out:List Int),(DX n ls out).1.length≤out.length+n
 | 0,ls,out=>by simp[DX]
 | n + 1,ls,out=>by
   simp only[DX];split
   ·simp
   ·rename_i x _
    have:=Ic n (ls.map fun l=>l.filter (· != x)) (out++[x]);simp only[QJ,List.length_singleton]at this;refine Nat.le_trans this ?_;omega
theorem VM {ls:List (List Int)} (h: ∀l∈ls,∀x∈l,(0:Int)≤x) {x:Int} (hp:pick ls=some x):0≤x:=by
 unfold pick at hp;rw[Option.bind_eq_some_iff]at hp;obtain⟨l,h1,h2⟩:=hp;have hm:=List.mem_of_find?_eq_some h1;cases l with
 | nil=>cases h2
 | cons y r=>cases h2;exact h _ hm _ (.head _)
theorem KT: ∀(n:Nat) (ls:List (List Int)) (out:List Int),(∀l∈ls,∀x∈l,(0:Int)≤x)→(∀x∈out,(0:Int)≤x)→ ∀x∈(DX n ls out).1,(0:Int)≤x
 | 0,ls,out,_,h2=>h2
 | n + 1,ls,out,h1,h2=>by
   simp only[DX];split
   ·exact h2
   ·rename_i y hy
    refine KT n _ _ (fun l hl x hx=>?_) fun x hx=>?_
    ·obtain⟨l',hl',rfl⟩:=Ob.1 hl
     exact h1 _ hl' _ (Rr.1 hx).1
    ·rcases F8.1 hx with hx|hx
     ·exact h2 x hx
     ·rw[OZ.1 hx];exact VM h1 hy
theorem Ds {g:List (List Int)} (hg:Is g) {c p:Int} (hp:p∈A0 g c):3≤p∧p<c:=by
 unfold A0 at hp;split at hp
 ·cases hp
 ·rename_i hc
  rw[FM]at hp;cases hq:g[(c - 3).toNat]? with
  | none=>rw[hq]at hp;cases hp
  | some l=>
    rw[hq]at hp;obtain⟨_,_,h⟩:=hg.2 _ _ hq;have:=h p hp;omega
theorem DK {g:List (List Int)} (hg:Is g) (c:Int):(A0 g c).length≤3:=by
 unfold A0;split
 ·simp
 ·rw[FM]
  cases hq:g[(c - 3).toNat]? with
  | none=>simp
  | some l=>exact(hg.2 _ _ hq).1
theorem HC {g os:List (List Int)} {c:Int} {ls:List (List Int)} (h:Ed g os c=some ls):ls=(A0 g c).map (fun p=>(os.getD p.toNat []).filter (· != 0))++[A0 g c]:=by
 unfold Ed at h;split at h
 ·cases h
 ·exact(Option.some.inj h).symm
theorem Uq {os:List (List Int)} {B:Nat} (h: ∀o∈os,o.length≤B) (n:Nat):(os.getD n []).length≤B:=by
 rw[FM];cases hq:os[n]? with
 | none=>simp
 | some l=>exact h _ (DM hq)
theorem PQ {os:List (List Int)} {Q:Int→Prop} (h: ∀o∈os,∀x∈o,Q x) (n:Nat): ∀x∈os.getD n [],Q x:=by
 rw[FM];cases hq:os[n]? with
 | none=>simp
 | some l=>exact h _ (DM hq)
theorem Fg {g os:List (List Int)} {c:Int} {ls:List (List Int)} (h:Ed g os c=some ls) {B:Nat} (Z: ∀o∈os,o.length≤B):total ls≤(A0 g c).length*(B+1):=by
 rw[HC h];simp only[total,TR,List.map_map,List.sum_append,Fa,List.map_nil,List.sum_cons,List.sum_nil,Nat.add_zero]
 have: ∀ps:List Int,(ps.map (List.length∘fun p=>(os.getD p.toNat []).filter (· != 0))).sum≤ps.length*B:=fun ps=>by
  induction ps with
  | nil=>simp
  | cons p r ih=>
    simp only[Fa,List.sum_cons,Function.comp,OB,Nat.succ_mul];have h1:=TU (· != 0) (os.getD p.toNat []);have h2:=Uq Z p.toNat;simp only[Function.comp_def]at *;omega
 have:=this (A0 g c);rw[Nat.mul_add,Nat.mul_one];simp only[Function.comp_def]at *;omega
theorem VO {g os:List (List Int)} {c:Int} {B:Nat} (Z: ∀o∈os,o.length≤B):(EP g os c).length≤(A0 g c).length*(B+1)+2:=by
 unfold EP;split
 ·simp
 ·rename_i ls h
  have h1:=Fg h Z;have h2:=Ic (total ls) ls [];simp only[List.length_nil,HV]at h2;split
  ·simp only[QJ,List.length_singleton,CX]
   omega
  ·simp
theorem QG {g os:List (List Int)} {c:Int} (hg:Is g) (hc:0≤c) (h: ∀o∈os,∀x∈o,(0:Int)≤x): ∀x∈EP g os c,0≤x:=by
 unfold EP;split
 ·simp
 ·rename_i ls hl
  split
  ·intro x hx
   have hls: ∀l∈ls,∀x∈l,(0:Int)≤x:=by
    rw[HC hl];intro l hl x hx;rcases F8.1 hl with hl|hl
    ·obtain⟨p,_,rfl⟩:=Ob.1 hl
     exact PQ h p.toNat x (Rr.1 hx).1
    ·rw[OZ.1 hl]at hx
     have:=Ds hg hx;omega
   simp only[F8,OZ]at hx;rcases hx with(rfl|hx)|rfl
   ·exact hc
   ·exact KT _ _ _ hls (by simp) x hx
   ·exact Int.le_refl _
  ·simp
def JG (k:Nat):Nat:=5*3 ^ (k - 3) - 3
theorem tv (n:Nat):1≤3 ^ n:=Nat.one_le_pow _ _ (by omega)
theorem Im {g:List (List Int)} (hg:Is g): ∀(k:Nat),∀o∈Bp g k,o.length≤JG k∧ ∀x∈o,(0:Int)≤x
 | 0,o,ho=>by
   simp only[Bp,OZ]at ho;subst ho;simp[JG]
 | k + 1,o,ho=>by
   have ih:=Im hg k
   have hmono:JG k≤JG (k+1):=by
    unfold JG;have:3 ^ (k - 3)≤3 ^ (k+1 - 3):=Nat.pow_le_pow_right (by omega) (by omega);omega
   simp only[Bp,F8,OZ]at ho;rcases ho with ho|rfl
   ·exact⟨Nat.le_trans (ih o ho).1 hmono,(ih o ho).2⟩
   ·refine⟨?_,QG hg (by omega) fun o ho=>(ih o ho).2⟩
    have h1:=VO (g:=g) (c:=(k:Int)+1) fun o ho=>(ih o ho).1
    by_cases hk:k<3
    ·have:A0 g ((k:Int)+1)= []:=by
      apply List.eq_nil_iff_forall_not_mem.2;intro p hp;have:=Ds hg hp;omega
     rw[this]at h1
     have:JG (k+1)=2:=by
      have:k+1 - 3=0:=by omega
      simp[JG,this]
     simpa[this]using h1
    ·have h2:=DK hg ((k:Int)+1)
     have h3:(A0 g ((k:Int)+1)).length*(JG k+1)≤3*(JG k+1):=TS _ h2;have:k+1 - 3=(k - 3)+1:=by omega
     unfold JG at *;rw[this,Nat.pow_succ];have:=tv (k - 3);omega
theorem YU {k:Nat} (h:k≤18):JG k≤71744535:=by
 unfold JG;have:3 ^ (k - 3)≤3 ^ 15:=Nat.pow_le_pow_right (by omega) (by omega);have e:(3:Nat) ^ 15=14348907:=by decide
 omega
theorem FB {g:List (List Int)}: ∀ {k j:Nat},j≤k→(Bp g k)[j]? =(Bp g j)[j]?
 | 0,j,h=>by(obtain rfl:j=0:=by omega);rfl
 | k+1,j,h=>by
   by_cases e:j=k+1
   ·subst e;rfl
   ·rw[←FB (k:=k) (by omega),Bp,tC (by rw[Cu];omega)]
theorem Wm {g os:List (List Int)} {c:Int} {ls:List (List Int)} (hg:Is g) (h:Ed g os c=some ls) {B:Nat} (Z: ∀o∈os,o.length≤B∧ ∀x∈o,(0:Int)≤x) (hb:B≤100000000):MS ls∧total ls<Ai:=by
 have h3:=DK hg c;have ht:=Fg h fun o ho=>(Z o ho).1
 have:(A0 g c).length*(B+1)≤3*(B+1):=TS _ h3;have htl:total ls<Ai:=by simp only[Ai];omega
 refine⟨⟨?_,fun l hl=>⟨?_,?_⟩⟩,htl⟩
 ·rw[HC h]
  simp only[QJ,Bz,List.length_singleton,Ai];omega
 ·have:=Y5 hl
  simp only[Ai]at *;omega
 ·intro x hx
  rw[HC h]at hl;rcases F8.1 hl with hl|hl
  ·obtain⟨p,_,rfl⟩:=Ob.1 hl
   exact PQ (fun o ho=>(Z o ho).2) p.toNat x (Rr.1 hx).1
  ·rw[OZ.1 hl]at hx
   have:=Ds hg hx;omega
theorem ZM (g:List (List Int)) (f:Bool) (hg:Is g):Pure Tryz.prog 155 [.l (Ev g) f] (.l (Ev (CJ g)) false):=by
 refine yC nb ?_
 conv=>whnf
 repeat((first|(refine Ao ?_;intro K U)|(refine AV ?_;intro I C G F)|(apply G;clear F C G I)|(apply U;clear U K)|fail);conv=>whnf)
 have hg16:=hg.1;have hgm:g.length≤Ai:=by simp only[Ai];omega
 refine⟨.l (Ev [[0]]) true,emp,fun _ _ h=>h,.l (fun _=>rfl) (.cons (.cons (.l (fun h=>(by cases h)) (.refl _ _ _)) .nil) .nil),?_⟩
 conv=>whnf
 repeat((first|(refine Ao ?_;intro K U)|(refine AV ?_;intro I C G F)|(apply G;clear F C G I)|refine BT ?_|refine Cs ?_|(apply U;clear U K)|fail);conv=>whnf)
 refine Cn (2+g.length) (fun k v=>[(3,v),(4,eI (LM 1 k))]) (fun k v=>[.own v 1 (Ev (Bp g k))]) (fun _ _=>True) (.l (Ev [[0]]) true) rfl trivial (fU Sat.nil (by simp)) ?_;rintro k v σ hk - hs;have hc1:LM 1 k=(k:Int)+1:=by rw[OV (by omega) (by omega)];omega
 have hw:IntKind.i64.wrap (3+((Ev g).length:Nat))=3+(g.length:Int):=by rw[Bz,wrap64 (by omega) (by omega)]
 conv=>whnf
 repeat((first|refine⟨rfl,?_⟩|refine D8 ?_|(refine Ao ?_;intro K U)|(refine AV ?_;intro I C G F)|(apply G;clear F C G I)|refine Bn ?_|(apply U;clear U K)|fail);conv=>whnf)
 rw[hc1];rw[hw];refine fork (fun hlt=>?_) (fun hlt=>?_)
 ·have hlt':k<2+g.length:=by omega
  have Z:=Im hg k;have hb18:JG k≤71744535:=YU (by omega);have hc2:LM 1 (k+1)=IntKind.i64.wrap ((k:Int)+1+1):=by rw[LM,hc1]
  conv=>whnf
  repeat((first|(refine Ao ?_;intro K U)|(refine AV ?_;intro I C G F)|refine Bu ?_|refine BT ?_|(apply U;clear U K)|fail);conv=>whnf)
  refine⟨.l (iL []) false,σ,fun _ _ h=>h,.l (fun h=>(by cases h)) (.refl _ _ _),?_⟩
  conv=>whnf
  repeat((first|(refine Ao ?_;intro K U)|(refine AV ?_;intro I C G F)|(apply G;clear F C G I)|(apply U;clear U K)|fail);conv=>whnf)
  refine(di g (Bp g k) f v ((k:Int)+1) (by omega) hgm (fun o ho=>by have:=(Z o ho).1;simp only[Ai];omega) (by have:=DK hg ((k:Int)+1);omega)
   (fun p hp=>by have:=Ds hg hp;rw[Cu];omega)).use (rest:=[]) hs ?_
  rintro r post σ' ⟨rfl,rfl⟩ hs;cases hl:Ed g (Bp g k) ((k:Int)+1)with
  | none=>
    conv=>whnf
    repeat((first|refine IP ?_|(refine Ao ?_;intro K U)|(refine AV ?_;intro I C G F)|(apply G;clear F C G I)|refine Bn ?_|refine Bu ?_|(apply U;clear U K)|fail);conv=>whnf)
    refine GB hs 0 (x:=[]) rfl (by rw[Cu];simp only[Ai];omega) Dk fun v' σ' hs'=>?_
    conv=>whnf
    refine⟨v',σ',fun _ _ h=>h,.refl _,?_⟩
    conv=>whnf
    repeat((first|refine⟨rfl,?_⟩|(refine AV ?_;intro I C G F)|(apply G;clear F C G I)|(apply U;clear U K)|(clear U K));conv=>whnf)
    refine⟨hlt',v',?_,trivial,?_⟩
    ·skip
     rw[hc2];rfl
    ·have:EP g (Bp g k) ((k:Int)+1)= []:=by simp[EP,hl,]
     rw[Bp,this];exact hs'
  | some ls=>
    obtain⟨hok,htot⟩:=Wm hg hl Z (by omega)
    conv=>whnf
    repeat((first|refine Ga ?_|(refine Ao ?_;intro K U)|(refine AV ?_;intro I C G F)|(apply G;clear F C G I)|refine Bn ?_|(apply U;clear U K)|fail);conv=>whnf)
    refine(de ls false hok htot).use ?_;have hml:=Ic (total ls) ls [];simp only[List.length_nil,HV]at hml
    conv=>whnf
    repeat((first|(refine Ao ?_;intro K U)|(refine AV ?_;intro I C G F)|(apply G;clear F C G I)|refine Bn ?_|(apply U;clear U K)|fail);conv=>whnf)
    refine⟨fun h=>?_,fun h=>?_⟩<;>(try rw[h])
    ·conv=>whnf
     repeat((first|(refine AV ?_;intro I C G F)|fail);conv=>whnf)
     refine LR (fU hs (by simp)) 1 (xs:=[(k:Int)+1]) rfl (by simp[CX];have:=Fg hl fun o ho=>(Z o ho).1;have h3:=DK hg ((k:Int)+1);have:(A0 g ((k:Int)+1)).length*(JG k+1)≤3*(JG k+1):=TS _ h3;simp only[Ai]at *;omega) DC fun u σ1 hs=>?_
     conv=>whnf
     refine GB hs 1 (x:=0) rfl (by simp[CX];have:=Fg hl fun o ho=>(Z o ho).1;have h3:=DK hg ((k:Int)+1);have:(A0 g ((k:Int)+1)).length*(JG k+1)≤3*(JG k+1):=TS _ h3;simp only[Ai]at *;omega) DC fun u σ1 hs=>?_
     conv=>whnf
     refine tX hs 1 rfl fun σ' hs=>?_
     conv=>whnf
     repeat((first|(refine AV ?_;intro I C G F)|(apply G;clear F C G I)|(apply U;clear U K)|fail);conv=>whnf)
     refine GB hs 0 (x:=([(k:Int)+1]++(CX ls).1++[0])) rfl (by rw[Cu];simp only[Ai];omega) Dk fun v' σ' hs'=>?_
     conv=>whnf
     refine⟨v',σ',fun _ _ h=>h,.refl _,?_⟩
     conv=>whnf
     repeat((first|refine⟨rfl,?_⟩|(refine AV ?_;intro I C G F)|(apply G;clear F C G I)|(apply U;clear U K)|(clear U K));conv=>whnf)
     refine⟨hlt',v',?_,trivial,?_⟩
     ·skip
      rw[hc2];rfl
     ·have:EP g (Bp g k) ((k:Int)+1)=([(k:Int)+1]++(CX ls).1++[0]):=by simp[EP,hl,h]
      rw[Bp,this];exact hs'
    ·conv=>whnf
     repeat((first|(refine AV ?_;intro I C G F)|refine Bu ?_|(apply U;clear U K)|fail);conv=>whnf)
     refine GB hs 0 (x:=[]) rfl (by rw[Cu];simp only[Ai];omega) Dk fun v' σ' hs'=>?_
     conv=>whnf
     refine⟨v',σ',fun _ _ h=>h,.refl _,?_⟩
     conv=>whnf
     repeat((first|refine⟨rfl,?_⟩|(refine AV ?_;intro I C G F)|(apply G;clear F C G I)|(apply U;clear U K)|(clear U K));conv=>whnf)
     refine⟨hlt',v',?_,trivial,?_⟩
     ·skip
      rw[hc2];rfl
     ·have:EP g (Bp g k) ((k:Int)+1)= []:=by simp[EP,hl,h]
      rw[Bp,this];exact hs'
 ·conv=>whnf
  repeat((first|(refine Ao ?_;intro K U)|(refine AV ?_;intro I C G F)|(apply G;clear F C G I)|refine Ct ?_|refine DI ?_|(apply U;clear U K)|(clear U K));conv=>whnf)
  have hke:k=2+g.length:=by omega
  subst hke;exact Eb hs 0 rfl rfl
end Go.Gl
namespace Go.Gl
def par (ps:List (List Int)) (c:Nat):List Int:=if c<3 then []else ps.getD (c - 3) []
def ordered (ps:List (List Int)):Prop:= ∀c p,p∈par ps c→3≤p∧p<(c:Int)
def aS (ps:List (List Int)):Nat→Nat→Nat→Bool
 | 0,c,b=>c==b
 | f+1,c,b=>c==b||(par ps c).any fun p=>aS ps f p.toNat b
def KA (ps:List (List Int)) (c b:Nat):Bool:=aS ps c c b
theorem Kw {ps:List (List Int)} (ho:ordered ps): ∀(f c b:Nat),c≤f→aS ps f c b=KA ps c b
 | 0,c,b,h=>by(obtain rfl:c=0:=by omega);rfl
 | f + 1,c,b,h=>by
   cases c with
   | zero=>
     have:par ps 0= []:=rfl;simp[KA,aS,this]
   | succ c=>
     simp only[KA,aS];congr 1
     have key: ∀l:List Int,(∀p∈l,p∈par ps (c+1))→(l.any fun p=>aS ps f p.toNat b)=l.any fun p=>aS ps c p.toNat b:=by
      intro l hl
      induction l with
      | nil=>rfl
      | cons p r ih=>
        have hp:=ho (c+1) p (hl p (.head _));simp only[Qe];rw[ih fun q hq=>hl q (.tail _ hq),Kw ho f p.toNat b (by omega),Kw ho c p.toNat b (by omega)]
     exact key _ fun p hp=>hp
theorem GY {ps:List (List Int)} (ho:ordered ps) (c b:Nat):KA ps c b=(c==b||(par ps c).any fun p=>KA ps p.toNat b):=by
 cases c with
 | zero=>simp[KA,aS,par]
 | succ c=>
   simp only[KA,aS];congr 1
   have key: ∀l:List Int,(∀p∈l,p∈par ps (c+1))→(l.any fun p=>aS ps c p.toNat b)=l.any fun p=>aS ps p.toNat p.toNat b:=by
    intro l hl
    induction l with
    | nil=>rfl
    | cons p r ih=>
      have hp:=ho (c+1) p (hl p (.head _));simp only[Qe];rw[ih fun q hq=>hl q (.tail _ hq),Kw ho c p.toNat b (by omega)];rfl
   exact key _ fun p hp=>hp
theorem Hn {ps:List (List Int)} (ho:ordered ps) (c:Nat):KA ps c c=true:=by rw[GY ho];simp
theorem bU {ps:List (List Int)} (ho:ordered ps): ∀(c b:Nat),KA ps c b=true→b≤c:=by
 intro c
 induction c using Nat.strongRecOn with
 | _ c ih=>
   intro b h;rw[GY ho]at h;simp only[HW,FL,Nt]at h;rcases h with rfl|⟨p,hp,h⟩
   ·omega
   ·have:=ho c p hp
    have:=ih p.toNat (by omega) b h;omega
theorem Mr {ps:List (List Int)} (ho:ordered ps): ∀(a b c:Nat),KA ps a b=true→KA ps b c=true→KA ps a c=true:=by
 intro a
 induction a using Nat.strongRecOn with
 | _ a ih=>
   intro b c h k;rw[GY ho]at h ⊢;simp only[HW,FL,Nt]at h ⊢;rcases h with rfl|⟨p,hp,h⟩
   ·rw[GY ho]at k
    simpa using k
   ·have:=ho a p hp
    exact .inr ⟨p,hp,ih p.toNat (by omega) b c h k⟩
def Fp (bs:List Bool) (i:Nat):List Int→List Bool
 | []=>bs
 | p::r=>Fp (bs.set p.toNat (bs.getD p.toNat false||bs.getD i false)) i r
theorem ME (i:Nat): ∀(a b:List Int) (bs:List Bool),Fp bs i (a++b)=Fp (Fp bs i a) i b
 | [],b,bs=>rfl
 | p::r,b,bs=>by simp only[List.cons_append,Fp];exact ME i r b _
theorem M0 (i:Nat): ∀(l:List Int) (bs:List Bool),(Fp bs i l).length=bs.length
 | [],bs=>rfl
 | p::r,bs=>by simp only[Fp];rw[M0 i r];simp
def HY (ps:List (List Int)) (n c:Nat):Nat→List Bool
 | 0=>(List.replicate n false).set c true
 | k+1=>Fp (HY ps n c k) (c - k) (par ps (c - k))
theorem Lb (ps:List (List Int)) (n c:Nat): ∀k,(HY ps n c k).length=n
 | 0=>by simp[HY]
 | k+1=>by simp only[HY];rw[M0,Lb ps n c k]
theorem Gc {bs:List Bool} {j:Nat} {x:Bool} (hj:j<bs.length) (b:Nat):(bs.set j x).getD b false=if b=j then x else bs.getD b false:=by
 simp only[FM,List.getElem?_set];by_cases h:j=b
 ·subst h;simp[hj]
 ·rw[if_neg h,if_neg (fun e=>h e.symm)]
theorem M3 {i:Nat}: ∀(l:List Int) (bs:List Bool),(∀p∈l,0≤p∧p.toNat<bs.length∧p.toNat<i)→ ∀b,(Fp bs i l).getD b false=(bs.getD b false||(bs.getD i false&&l.contains (b:Int)))
 | [],bs,_,b=>by simp[Fp]
 | p ::r,bs,h,b=>by
   obtain⟨h1,h2,h3⟩:=h p (.head _);simp only[Fp];have hi:i≠p.toNat:=by omega
   rw[M3 r _ (fun q hq=>by have:=h q (.tail _ hq);simpa using this),Gc h2,Gc h2,if_neg hi];by_cases hb:b=p.toNat
   ·subst hb
    have:((p.toNat:Nat):Int)=p:=by omega
    simp only[if_true,this,List.contains_cons,beq_self_eq_true,Bool.true_or,Bool.and_true];cases bs.getD p.toNat false<;>cases bs.getD i false<;>simp
   ·rw[if_neg hb]
    have:((b:Int)==p)=false:=by simp;omega
    simp only[List.contains_cons,this,Bool.false_or]
theorem UO {ps:List (List Int)} (ho:ordered ps) {n c:Nat} (hc:c<n): ∀k,k≤c - 2→(∀b,(HY ps n c k).getD b false=true→KA ps c b=true)∧(HY ps n c k).getD c false=true∧
 (∀j p,c - k<j→(HY ps n c k).getD j false=true→p∈par ps j→(HY ps n c k).getD p.toNat false=true)
 | 0,_=>by
   have hg: ∀b,(HY ps n c 0).getD b false=decide (b=c):=fun b=>by
    simp only[HY];rw[Gc (by simpa using hc)];by_cases h:b=c
    ·simp[h]
    ·rw[if_neg h]
     simp[h,FM,List.getElem?_replicate];split<;>rfl
   refine⟨fun b hb=>?_,by rw[hg];simp,fun j p hj hb hp=>?_⟩
   ·rw[hg]at hb
    simp only[D4]at hb;subst hb;exact Hn ho _
   ·rw[hg]at hb
    simp only[D4]at hb;omega
 | k + 1,hk=>by
   obtain⟨h1,h2,h3⟩:=UO ho hc k (by omega)
   have hpar: ∀p∈par ps (c - k),0≤p∧p.toNat<(HY ps n c k).length∧p.toNat<c - k:=fun p hp=>by
    have:=ho _ p hp;rw[Lb];omega
   have hg: ∀b,(HY ps n c (k+1)).getD b false=((HY ps n c k).getD b false||((HY ps n c k).getD (c - k) false&&(par ps (c - k)).contains (b:Int))):=fun b=>by
    simp only[HY];exact M3 _ _ hpar b
   refine⟨fun b hb=>?_,by rw[hg,h2];rfl,fun j p hj hb hp=>?_⟩
   ·rw[hg]at hb
    simp only[HW,Bj,List.contains_iff_mem]at hb;rcases hb with hb|⟨hb,hm⟩
    ·exact h1 b hb
    ·refine Mr ho c (c - k) b (h1 _ hb) ?_
     rw[GY ho];simp only[HW,Nt];exact .inr ⟨b,hm,by simpa using Hn ho b⟩
   ·have hjp:=ho j p hp
    have hb':(HY ps n c k).getD j false=true:=by
     rw[hg]at hb;simp only[HW,Bj,List.contains_iff_mem]at hb;rcases hb with hb|⟨_,hm⟩
     ·exact hb
     ·have:=ho _ _ hm
      omega
    rw[hg];by_cases e:j=c - k
    ·subst e
     rw[hb'];have:((p.toNat:Nat):Int)=p:=by omega
     simp only[this,I7,HW,List.contains_iff_mem];exact .inr hp
    ·rw[h3 j p (by omega) hb' hp]
     rfl
theorem Xf {ps:List (List Int)} (ho:ordered ps) {n c:Nat} (hc:c<n) (b:Nat):(HY ps n c (c - 2)).getD b false=KA ps c b:=by
 obtain⟨h1,h2,h3⟩:=UO ho hc (c - 2) (J1 _)
 have key: ∀a,(HY ps n c (c - 2)).getD a false=true→ ∀b,KA ps a b=true→(HY ps n c (c - 2)).getD b false=true:=by
  intro a
  induction a using Nat.strongRecOn with
  | _ a ih=>
    intro ha b hb;rw[GY ho]at hb;simp only[HW,FL,Nt]at hb;rcases hb with rfl|⟨p,hp,hb⟩
    ·exact ha
    ·have:=ho a p hp
     exact ih p.toNat (by omega) (h3 a p (by omega) ha hp) b hb
 cases hb:KA ps c b with
 | true=>exact key c h2 b hb
 | false=>
   cases hq:(HY ps n c (c - 2)).getD b false with
   | false=>rfl
   | true=>rw[h1 b hq]at hb;cases hb
end Go.Gl
namespace Go.Gl
open Go.Proofs
attribute [local irreducible] Be BQ BH Ae AR BC Af Ag AT A7 AZ Ad Bk Bx Sat Au Bs BI W
theorem ud (g:List (List Int)) (f:Bool) (c:Int) (hg:Is g) (h0:0≤c) (h1:c<3+g.length):Pure Tryz.prog 124 [.l (Ev g) f,eI c] (.t [.l (iL ((CJ g).getD c.toNat [])) false,.b (!((CJ g).getD c.toNat []).isEmpty)]):=by
 refine yY nb ?_
 conv=>whnf
 repeat((first|(refine Ao ?_;intro K U)|(refine AV ?_;intro I C G F)|(apply G;clear F C G I)|(apply U;clear U K)|fail);conv=>whnf)
 refine(ZM g f hg).use ?_
 conv=>whnf
 have hlen:=Cu g (2+g.length);have hlt:c.toNat<(CJ g).length:=by unfold CJ;omega
 have hq:=FD hlt;refine Tu c.toNat hq (by omega) rfl ?_
 conv=>whnf
 repeat((first|refine⟨rfl,?_⟩|refine Bm ?_|refine D8 ?_|(refine Ao ?_;intro K U)|(refine AV ?_;intro I C G F)|(apply G;clear F C G I)|refine DI ?_|(apply U;clear U K)|fail);conv=>whnf)
 refine AJ ?_;rw[FM,hq,Option.getD_some];cases(CJ g)[c.toNat]with
 | nil=>rfl
 | cons _ _=>simp
def wFit (w:AM):Prop:=w.parents.length≤1000∧(∀l∈w.parents,l.length≤Ai)∧w.owner.length≤Ai
theorem bc {ps:List (List Int)} {c:Nat} (h3:3≤c) (hc:c<3+ps.length):ps[c - 3]? =some (par ps c):=by
 unfold par;rw[if_neg (by omega),FM,FD (by omega)];rfl
theorem Xb {bs:List Bool} {j:Nat} (h:j<bs.length):(bL bs)[j]? =some [.b (bs.getD j false)]:=by
 rw[Qf,FM,FD h];rfl
theorem WK (bs:List Bool) (j:Nat) (x:Bool):(bL bs).set j [.b x]=bL (bs.set j x):=by
 simp[bL,List.map_set]
theorem AAe (w:AM) (c:Nat) (hw:wFit w) (ho:ordered w.parents) (hc:c<3+w.parents.length):Pure Tryz.prog 153 [.a (BR w),eI c] (.l (bL (HY w.parents (3+w.parents.length) c (c - 2))) false):=by
 obtain⟨hw1,hw2,hw3⟩:=hw;have hmL:3+w.parents.length≤Ai:=by simp only[Ai];omega
 refine yE nb ?_
 conv=>whnf
 repeat((first|refine⟨rfl,?_⟩|refine Bm ?_|refine D8 ?_|(refine Ao ?_;intro K U)|(refine AV ?_;intro I C G F)|(apply G;clear F C G I)|(apply U;clear U K)|fail);conv=>whnf)
 rw[show IntKind.i64.wrap (3+((Ev w.parents).length:Nat))=((3+w.parents.length:Nat):Int) by rw[Bz,wrap64 (by omega) (by omega)];omega];refine hMk Sat.nil (by omega) fun v σ hs hv=>?_
 obtain⟨id,rfl⟩:=hv
 conv=>whnf
 repeat((first|(refine Ao ?_;intro K U)|(refine AV ?_;intro I C G F)|(apply G;clear F C G I)|(apply U;clear U K)|fail);conv=>whnf)
 refine fH hs 0 c rfl rfl (by simpa using hc) ?_
 conv=>whnf
 refine L2 hs 0 rfl (e:=[.b false]) (by simp[hc]) rfl rfl rfl rfl rfl fun σ hs=>?_
 have e0:(List.replicate (3+w.parents.length) [V.b false]).set c [V.b true]=bL (HY w.parents (3+w.parents.length) c 0):=by
  simp only[HY];rw[←WK];simp[bL]
 conv=>whnf
 repeat((first|(refine Ao ?_;intro K U)|(refine AV ?_;intro I C G F)|(apply G;clear F C G I)|refine BT ?_|refine Cs ?_|(apply U;clear U K)|fail);conv=>whnf)
 refine Cn (c - 2) (fun k (_:Unit)=>[(6,eI (N2 c k))]) (fun k _=>[.own (.sl id (3+w.parents.length) (3+w.parents.length)) 1 (bL (HY w.parents (3+w.parents.length) c k))]) (fun _ _=>True) () rfl trivial (e0 ▸ hs) ?_;rintro k - σ hk - hs;have hd:N2 c k=(c:Int) - k:=TA (by omega) (by omega);have hul:=Lb w.parents (3+w.parents.length) c k
 conv=>whnf
 repeat((first|refine⟨rfl,?_⟩|(refine Ao ?_;intro K U)|(refine AV ?_;intro I C G F)|(apply G;clear F C G I)|refine Bn ?_|(apply U;clear U K)|fail);conv=>whnf)
 refine fork (fun hlt=>?_) (fun hlt=>?_)
 ·rw [hd]at hlt
  have h3:3≤c - k:=by omega
  have hpar:=bc (ps:=w.parents) h3 (by omega);have hpl:=hw2 _ (DM hpar)
  conv=>whnf
  repeat((first|refine⟨rfl,?_⟩|refine Bm ?_|(refine Ao ?_;intro K U)|(refine AV ?_;intro I C G F)|refine Bu ?_|refine BT ?_|(apply U;clear U K)|fail);conv=>whnf)
  refine Tu (c - k - 3) hpar (by rw[hd,wrap64 (by omega) (by omega)];omega) rfl ?_
  conv=>whnf
  repeat((first|refine Bm ?_|refine D8 ?_|(apply G;clear F C G I)|refine BT ?_|refine Cs ?_|(apply U;clear U K)|fail);conv=>whnf)
  refine Cn (par w.parents (c - k)).length (fun j (_:Unit)=>[(29,eI (BJ j))]) (fun j _=>[.own (.sl id (3+w.parents.length) (3+w.parents.length)) 1 (bL (Fp (HY w.parents (3+w.parents.length) c k) (c - k) ((par w.parents (c - k)).take j)))]) (fun _ _=>True) () rfl trivial hs ?_;rintro j - σ hj - hs;have hml:=M0 (c - k) ((par w.parents (c - k)).take j) (HY w.parents (3+w.parents.length) c k)
  conv=>whnf
  repeat((first|refine⟨rfl,?_⟩|(refine Ao ?_;intro K U)|(refine AV ?_;intro I C G F)|(apply G;clear F C G I)|refine Bn ?_|(apply U;clear U K)|fail);conv=>whnf)
  refine GZ hj hpl (fun p hp hjlt=>?_) fun hj=>?_
  ·have hpp:=ho _ p (DM hp)
   have hm:(Fp (HY w.parents (3+w.parents.length) c k) (c - k) ((par w.parents (c - k)).take (j+1)))=(Fp (HY w.parents (3+w.parents.length) c k) (c - k) ((par w.parents (c - k)).take j)).set p.toNat
    ((Fp (HY w.parents (3+w.parents.length) c k) (c - k) ((par w.parents (c - k)).take j)).getD p.toNat false||(Fp (HY w.parents (3+w.parents.length) c k) (c - k) ((par w.parents (c - k)).take j)).getD (c - k) false):=by
    rw[AO hp,ME];rfl
   generalize hbs:Fp (HY w.parents (3+w.parents.length) c k) (c - k) ((par w.parents (c - k)).take j)=bs at *;have hlp:p.toNat<bs.length:=by omega
   have hlc:c - k<bs.length:=by omega
   conv=>whnf
   repeat((first|(refine Ao ?_;intro K U)|(refine AV ?_;intro I C G F)|refine Bu ?_|refine BT ?_|(apply U;clear U K)|fail);conv=>whnf)
   refine JH hp hpl rfl ?_
   conv=>whnf
   repeat((first|refine Bm ?_|(refine AV ?_;intro I C G F)|(apply G;clear F C G I)|(apply U;clear U K)|fail);conv=>whnf)
   refine fH hs 0 p.toNat rfl (by omega) (by simpa using hlp) ?_
   conv=>whnf
   refine IT hs 0 rfl (Xb hlp) ?_
   conv=>whnf
   cases hb:bs.getD p.toNat false with
   | true=>
     rw[hb]at hm
     conv=>whnf
     repeat((first|refine IW ?_|fail);conv=>whnf)
     refine fH hs 0 p.toNat rfl (by omega) (by simpa using hlp) ?_
     conv=>whnf
     refine L2 hs 0 rfl (Xb hlp) rfl rfl rfl rfl rfl fun σ hs=>?_
     conv=>whnf
     repeat((first|refine⟨rfl,?_⟩|(refine AV ?_;intro I C G F)|(apply G;clear F C G I)|(apply U;clear U K)|(clear U K));conv=>whnf)
     refine⟨hjlt,(),rfl,trivial,?_⟩;rw[hm,←WK];exact hs
   | false=>
     rw[hb]at hm
     conv=>whnf
     repeat((first|refine G8 ?_|fail);conv=>whnf)
     refine fH hs 0 (c - k) rfl (by rw[hd];omega) (by simpa using hlc) ?_
     conv=>whnf
     repeat((first|refine G8 ?_|fail);conv=>whnf)
     refine IT hs 0 rfl (Xb hlc) ?_
     conv=>whnf
     refine fH hs 0 p.toNat rfl (by omega) (by simpa using hlp) ?_
     conv=>whnf
     refine L2 hs 0 rfl (Xb hlp) rfl rfl rfl rfl rfl fun σ hs=>?_
     conv=>whnf
     repeat((first|refine⟨rfl,?_⟩|(refine AV ?_;intro I C G F)|(apply G;clear F C G I)|(apply U;clear U K)|(clear U K));conv=>whnf)
     refine⟨hjlt,(),rfl,trivial,?_⟩;rw[hm,←WK];exact hs
  ·rw[A2 hj]at hs
   conv=>whnf
   repeat((first|refine⟨rfl,?_⟩|(refine AV ?_;intro I C G F)|(apply G;clear F C G I)|refine Ct ?_|(apply U;clear U K)|(clear U K));conv=>whnf)
   refine⟨by omega,(),rfl,trivial,hs⟩
 ·rw[hd]at hlt
  conv=>whnf
  repeat((first|(refine Ao ?_;intro K U)|(refine AV ?_;intro I C G F)|(apply G;clear F C G I)|refine Ct ?_|refine DI ?_|(apply U;clear U K)|(clear U K));conv=>whnf)
  have:k=c - 2:=by omega
  subst this;exact Eb hs 0 rfl rfl
end Go.Gl
namespace Go.Gl
variable {P:Program} {σ σ':AH}
mutual
def FG:V→Prop
 | .i k n=>k.min≤n∧n≤k.max
 | .rp cs=>II cs
 | .l es _=>es.length≤Ai∧Tk es
 | .f _ a b=>II a∧II b
 | .FE _ v=>FG v
 | .a cs=>II cs
 | .t vs=>II vs
 | _=>True
def II:List V→Prop
 | []=>True
 | v::r=>FG v∧II r
def Tk:List (List V)→Prop
 | []=>True
 | e::r=>II e∧Tk r
end
mutual
theorem qo {H:Nat→Nat→Option Value}: ∀(v:V) (c:Value),Ac H v c→FG v
 | .b _,_,_| .s _,_,_| .pn,_,_| .p _ _,_,_| .sl _ _ _,_,_| .sv _ _ _ _,_,_| .pe _ _ _ _,_,_| .m _,_,_| .mn,_,_| .Hc,_,_| .Du,_,_| .any,_,_=>by simp only[FG]
 | .i k n,_,h=>by
   simp only[Ac]at h;simp only[FG];exact h.2
 | .rp cs,_,h=>by
   simp only[Ac]at h;obtain⟨b,o,rfl,h⟩:=h;simp only[FG];exact JS cs o h
 | .l es full,_,h=>by
   simp only[Ac]at h;obtain⟨a,cap,h1,h2,h3,h4,h5,h6⟩:=h;simp only[FG];refine⟨h4,?_⟩;cases es with
   | nil=>exact trivial
   | cons e es=>
     obtain⟨b,o,sz,h7,h8⟩:=h6 (by simp);exact cG (e::es) o h8
 | .f fn first cap,_,h=>by
   simp only[Ac]at h;obtain⟨f',c',h1,h2,h3,h4,h5⟩:=h;simp only[FG];exact⟨JS first 0 h3,JS cap 0 h5⟩
 | .FE t v,_,h=>by
   simp only[Ac]at h;obtain⟨c',h1,h2⟩:=h;simp only[FG];exact qo v c' h2
 | .a cs,_,h=>by
   simp only[Ac]at h;obtain⟨c',h1,h2,h3⟩:=h;simp only[FG];exact JS cs 0 h3
 | .t cs,_,h=>by
   simp only[Ac]at h;obtain⟨c',h1,h2,h3⟩:=h;simp only[FG];exact JS cs 0 h3
theorem JS {H:Nat→Nat→Option Value} {g:Nat→Option Value}: ∀(vs:List V) (o:Nat),Bl H g o vs→II vs
 | [],_,_=>trivial
 | v::vs,o,h=>by
   simp only[Bl]at h;obtain⟨⟨c,h1,h2⟩,h3⟩:=h;exact⟨qo v c h2,JS vs (o+1) h3⟩
theorem cG {H:Nat→Nat→Option Value} {g:Nat→Option Value} {sz:Nat}: ∀(es:List (List V)) (o:Nat),BS H g sz o es→Tk es
 | [],_,_=>trivial
 | e::es,o,h=>by
   simp only[BS]at h;obtain⟨h1,h2,h3⟩:=h;exact⟨JS e o h2,cG es (o+sz) h3⟩
end
theorem Be.fit {f:FuncId} {args:List V} {Q:R→AH→Prop} (hok:okF P f=true) (h:II args→Be P f args σ Q):Be P f args σ Q:=
 ⟨hok,fun Λ w cs G hv=>(h (JS args 0 hv.2)).2 Λ w cs G hv⟩
theorem Pure.fit {f:FuncId} {args:List V} {v:V} (hok:okF P f=true) (h:II args→Pure P f args v):Pure P f args v:=Be.fit hok h
theorem B9.fit {f:FuncId} {args:List V} {pre:List At} {Φ:R→List At→Prop} (hok:okF P f=true) (h:II args→B9 P f args pre Φ):B9 P f args pre Φ:=fun σ hs=>Be.fit hok fun hf=>h hf σ hs
theorem dx {es:List (List V)}:Tk es↔ ∀e∈es,II e:=by
 induction es with
 | nil=>simp[Tk]
 | cons e r ih=>simp[Tk,ih]
theorem JX {α:Type} {enc:α→List V} {xs:List α}:Tk (xs.map enc)↔ ∀x∈xs,II (enc x):=by
 rw[dx];simp
theorem HN {es:List (List V)} {f:Bool}:FG (.l es f)↔es.length≤Ai∧Tk es:=Iff.rfl
theorem HO {cs:List V}:FG (.a cs)↔II cs:=Iff.rfl
theorem S7 {cs:List V}:FG (.rp cs)↔II cs:=Iff.rfl
theorem Dr {v:V} {r:List V}:II (v::r)↔FG v∧II r:=Iff.rfl
theorem drop_cons {α:Type} {xs:List α} {k:Nat} {x:α} (h:xs[k]? =some x):xs.drop k=x::xs.drop (k+1):=by
 obtain⟨hk,rfl⟩:=Nu.1 h;exact List.drop_eq_getElem_cons hk
theorem As {α:Type} {xs:List α} {k:Nat} (h:k=xs.length):xs.drop k= []:=List.drop_of_length_le (by omega)
end Go.Gl
namespace Go.Gl
variable {P:Program} {σ:AH} {env:Env}
class Td (AD:Prop) (G':outParam Prop):Prop where
 h:G'→AD
theorem st {AD G':Prop} [i:Td AD G'] (h:G'):AD:=i.h h
theorem sq {l:List Nat} {a b:AI} {Q:Ah→Env→AH→Prop} (h: ∀K:Env→AH→Prop,(∀env σ,(pk l env fun E=>W P b Q E σ)→K env σ)→W P a (Ah.andThen K Q) env σ):W P (.seq l a b) Q env σ:=Ao h
class Sti (AD:Prop) (G':outParam Prop):Prop where
 h:G'→AD
theorem si {AD G':Prop} [i:Sti AD G'] (h:G'):AD:=i.h h
instance {ops:List AU} {Q:Ah→Env→AH→Prop}:Sti (W P (.Ak ops) Q env σ) (∀(I:Env→AH→Prop) (C:Env→V→AH→Prop),(∀env σ,Q .normal env σ→I env σ)→(∀env v σ,Q (.By v) env σ→C env v σ)→WT P ops I C env σ):=⟨AV⟩
instance {l:List Nat} {ops:List Ce} {Q:Ah→Env→AH→Prop}:Sti (W P (.A5 l ops) Q env σ) (∀(I:Env→AH→Prop) (C:V→AH→Prop),(∀env σ,(pk l env fun E=>Q .normal E σ)→I env σ)→(∀v σ,(∀σ',Sub σ σ'→Q (.By v) [] σ')→C v σ)→WD P ops I C env σ):=⟨Jo⟩
instance {c:B1} {a b:AI} {Q:Ah→Env→AH→Prop}:Td (W P (.cond c a b) Q env σ) (match ev env c with
 | some (.b t)=>(t=true→W P a Q env σ)∧(t=false→W P b Q env σ)
 | _=>False):=⟨Bn⟩
instance {id:Nat} {a:AI} {Q:Ah→Env→AH→Prop}:Td (W P (.block id a) Q env σ) (W P a (Ah.inBlock id Q) env σ):=⟨BT⟩
instance {l:List Nat} {a:AI} {Q:Ah→Env→AH→Prop}:Td (W P (.loop l a) Q env σ) (pk l env fun E=>BI l a (W P a) Q E σ):=⟨Cs⟩
instance {id:Nat} {Q:Ah→Env→AH→Prop}:Td (W P (.exit id) Q env σ) (Q (.exit id) env σ):=⟨Ct⟩
instance {Q:Ah→Env→AH→Prop}:Td (W P .ret Q env σ) (Q .ret env σ):=⟨DI⟩
instance {Q:Ah→Env→AH→Prop}:Td (W P .skip Q env σ) (Q .normal env σ):=⟨Bu⟩
instance {a:AI} {Q:Ah→Env→AH→Prop}:Td (W P (.scope a) Q env σ) (W P a Q env σ):=⟨Hv⟩
instance {l:List Nat} {g:B1} {ps:List Nat} {a b:AI} {Q:Ah→Env→AH→Prop}:Td (W P (.C7 l g ps a b) Q env σ) (match ev env g with
 | some (.f (.func gf) [] cap)=>pk l env fun E=> ∀L,σ L=none→Be P gf (.f (.yield L) [] []::cap) (BE σ L (.loop .ready E (CI P ps a b))) (Ku L Q env)
 | _=>False):=⟨Hw⟩
instance {A B:Prop}:Td ((true=true→A)∧(true=false→B)) A:=⟨Ga⟩
instance {A B:Prop}:Td ((false=true→A)∧(false=false→B)) B:=⟨IP⟩
instance {A B:Prop}:Td ((false=false→A)∧(false=true→B)) A:=⟨G8⟩
instance {A B:Prop}:Td ((true=false→A)∧(true=true→B)) B:=⟨IW⟩
instance {A B:Prop} {b:Bool}:Td ((b=true→A)∧(b= !true→B)) ((b=true→A)∧(b=false→B)):=⟨id⟩
instance {A B:Prop} {b:Bool}:Td ((b=false→A)∧(b= !false→B)) ((b=false→A)∧(b=true→B)):=⟨id⟩
instance {agg:Option Nat} {cs:List V} {K:V→Prop}:Td (Au σ agg (.rp cs) K) (cut agg cs 0 K):=⟨fun h=>h⟩
instance {es:List (List V)} {f:Bool} {K:V→Prop}:Td (Bs (.l es f) K) (K (.i .i64 es.length)):=⟨D8⟩
theorem kc {K A:Env→AH→Prop} (h:A env σ) (hk: ∀env σ,A env σ→K env σ:=by assumption):K env σ:=hk _ _ h
theorem kp {K A:Env→V→AH→Prop} {v:V} (h:A env v σ) (hk: ∀env v σ,A env v σ→K env v σ:=by assumption):K env v σ:=hk _ _ _ h
theorem rk {x:AU} {r:List AU} {A:Prop} (h1:Hl P x env σ) (h2:Ek P r env σ∧A):Ek P (x::r) env σ∧A:=⟨⟨h1,h2.1⟩,h2.2⟩
theorem dr {A:Prop} (h:A):Ek P [] env σ∧A:=⟨trivial,h⟩
class BP (b v:Bool) (p:outParam Prop):Prop where
 h:b=v→p
theorem bp {b v:Bool} {p:Prop} [i:BP b v p] (h:b=v):p:=i.h h
instance (priority:=low) {b v:Bool}:BP b v (b=v):=⟨id⟩
instance (priority:=mid) {p:Prop} [Decidable p]:BP (decide p) true p:=⟨of_decide_eq_true⟩
instance (priority:=mid) {p:Prop} [Decidable p]:BP (decide p) false (¬p):=⟨of_decide_eq_false⟩
instance {a b:Int}:BP (decide (a<b)) false (b≤a):=⟨fun h=>Int.not_lt.1 (of_decide_eq_false h)⟩
instance {a b:Int}:BP (decide (a≤b)) false (b<a):=⟨fun h=>Int.not_le.1 (of_decide_eq_false h)⟩
instance {a b:Int}:BP (a==b) true (a=b):=⟨fun h=>by simpa using h⟩
instance {a b:Int}:BP (a==b) false (a≠b):=⟨fun h=>by simpa using h⟩
instance {a b:Int}:BP (a != b) true (a≠b):=⟨fun h=>by simpa using h⟩
instance {a b:Int}:BP (a != b) false (a=b):=⟨fun h=>by simpa using h⟩
instance {b:Bool} {p:Prop} [i:BP b false p]:BP (!b) true p:=⟨fun h=>i.h (by simpa using h)⟩
instance {b:Bool} {p:Prop} [i:BP b true p]:BP (!b) false p:=⟨fun h=>i.h (by simpa using h)⟩
instance {b x v:Bool} {p:Prop} [i:BP b v p]:BP (bif false then x else b) v p:=⟨i.h⟩
instance {b x v:Bool} {p:Prop} [i:BP b v p]:BP (bif true then b else x) v p:=⟨i.h⟩
theorem fc {α:Type} {enc:α→List V} {xs:List α} {k:Nat} {A B:Prop} (h1: ∀x,xs[k]? =some x→k<xs.length→decide (BJ k<((xs.map enc).length:Nat))=true→A) (h2:k=xs.length→decide (BJ k<((xs.map enc).length:Nat))=false→B) (hk:k≤xs.length:=by assumption) (hm:xs.length≤Ai:=by first|assumption|omega|simp[Ai]<;>omega) :
 (decide (BJ k<((xs.map enc).length:Nat))=true→A)∧(decide (BJ k<((xs.map enc).length:Nat))=false→B):=
 ⟨fun h=>(GZ (enc:=enc) (A:=A) (B:=True) hk hm (fun x hx hlt=>h1 x hx hlt h) fun _=>trivial).1 h,fun h=>(GZ (enc:=enc) (A:=True) (B:=B) hk hm (fun _ _ _=>trivial) fun he=>h2 he h).2 h⟩
theorem ix {α:Type} {enc:α→List V} {xs:List α} {f:Bool} {sz:Nat} {K:V→Prop} {ki:IntKind} {k:Nat} {x:α} (h:K (.rp (enc x))) (hx:xs[k]? =some x:=by assumption) (hm:xs.length≤Ai:=by first|assumption|omega|simp[Ai]<;>omega) (hs:(enc x).length=sz:=by first|rfl|simp) :
 Ae sz none (.l (xs.map enc) f) (.i ki (BJ k)) K:=JH hx hm hs h
theorem iq {α:Type} {enc:α→List V} {xs:List α} {f:Bool} {sz:Nat} {K:V→Prop} {ki:IntKind} {j:Int} (h: ∀x,xs[j.toNat]? =some x→K (.rp (enc x))) (h0:0≤j:=by omega) (h1:j<xs.length:=by omega) (hs: ∀x,(enc x).length=sz:=by intro x;first|rfl|simp|(rw[Bq];rfl)) :
 Ae sz none (.l (xs.map enc) f) (.i ki j) K:=by
 have hlt:j.toNat<xs.length:=by omega
 exact Tu j.toNat (FD hlt) (by omega) (hs _) (h _ (FD hlt))
theorem sk1 {α:Type} {enc:α→List V} {xs:List α} {f:Bool} {sz:Nat} {ki:IntKind} {k:Nat} {K:V→AH→Prop} (h:K (.l ((xs.take k).map enc) (f&&decide ((k:Int)=((xs.map enc).length:Nat)))) σ) (hl:k≤xs.length:=by first|assumption|omega) (hm:xs.length≤Ai:=by first|assumption|omega) (hs: ∀x,(enc x).length=sz:=by intro x;first|rfl|simp|(rw[Bq];rfl)) :
 Af σ sz (.l (xs.map enc) f) none (some (.i ki (BJ k))) none K:=by
 rw[AP (by omega)];refine⟨fun e he=>?_,?_⟩
 ·obtain⟨x,_,rfl⟩:=Ob.1 he
  exact hs x
 ·simp only[QL,Bz]
  refine⟨by omega,by omega,by omega,?_⟩;rw[LG];simpa[List.map_take]using h
theorem Ru {xs:List Fact} {f:Bool} {K:V→Prop} {ki:IntKind} {k:Nat} {x:Fact} (h:K (.rp (xF x))) (hx:xs[k]? =some x:=by assumption) (hm:xs.length≤Ai:=by first|assumption|omega):Ae 6 none (.l (xs.map Gz) f) (.i ki (BJ k)) K:=by
 refine JH hx hm (by rw[Bq];rfl) ?_;rw[Bq];exact h
theorem R0 {a0:At} {l:List At}:(a0::l)[0]? =some a0:=rfl
theorem Rz {a0 a1:At} {l:List At}:(a0::a1::l)[1]? =some a1:=rfl
theorem Ry {a0 a1 a2:At} {l:List At}:(a0::a1::a2::l)[2]? =some a2:=rfl
theorem Rx {a0 a1 a2 a3:At} {l:List At}:(a0::a1::a2::a3::l)[3]? =some a3:=rfl
theorem Rw {a0 a1 a2 a3 a4:At} {l:List At}:(a0::a1::a2::a3::a4::l)[4]? =some a4:=rfl
theorem Rv {a0 a1 a2 a3 a4 a5:At} {l:List At}:(a0::a1::a2::a3::a4::a5::l)[5]? =some a5:=rfl
theorem ld {l:List At} {i n off:Nat} {agg:Option Nat} {vs:List V} {K:V→Prop} (hk:cut agg vs off K) (h:Sat σ l:=by assumption)
 (hi:l[i]? =some (.box n vs):=by first|exact R0|exact Rz|exact Ry|exact Rx|exact Rw|exact Rv):Au σ agg (.p n off) K:=XX h i hi hk
theorem s1 {l:List At} {i n off:Nat} {vs:List V} {x:V} {K:AH→Prop} (hk: ∀σ',Sat σ' (l.set i (.box n (vs.set off x)))→K σ') (h:Sat σ l:=by assumption)
 (hi:l[i]? =some (.box n vs):=by first|exact R0|exact Rz|exact Ry|exact Rx|exact Rw|exact Rv)
 (h1:CY x=true:=by first|rfl|exact JB (by assumption) 0 rfl|exact JB (by assumption) 1 rfl|exact JB (by assumption) 2 rfl|exact JB (by assumption) 3 rfl|simp) (ho:off+1≤vs.length:=by exact Nat.le_of_ble_eq_true rfl):Ag σ 1 (.p n off) x K:=
 Lf h i hi h1 ho hk
theorem sn {l:List At} {i n off sz:Nat} {vs vc:List V} {x:V} {K:AH→Prop} (hk: ∀σ',Sat σ' (l.set i (.box n (putAt vs off vc)))→K σ') (h:Sat σ l:=by assumption)
 (hi:l[i]? =some (.box n vs):=by first|exact R0|exact Rz|exact Ry|exact Rx|exact Rw|exact Rv)
 (hc:cellsOf x=some vc:=by rfl) (hl:vc.length=sz:=by rfl) (h1:vc.all CY=true:=by first|rfl|simp) (ho:off+sz≤vs.length:=by exact Nat.le_of_ble_eq_true rfl):Ag σ sz (.p n off) x K:=
 O6 h i hi hc hl h1 ho hk
theorem Mg:GC (fun f:Fact=>Gz f) 6:=fun f=>by
 simp only[Bq];refine⟨rfl,fun v hv=>?_⟩;simp only[IC,List.not_mem_nil,or_false]at hv;rcases hv with rfl|rfl|rfl|rfl|rfl|rfl<;>rfl
theorem OS:GC (fun l:List Fact=>[V.l (facts l) false]) 1:=fun x=>⟨rfl,fun v hv=>by simp at hv;subst hv;rfl⟩
theorem al {l:List At} {o:O} {n:Nat} {K:Prop} {σ':AH} (e:BE σ n o=σ') (hk:Sat σ' (l++[.obj n o])→K) (hn:σ n=none:=by assumption) (h:Sat σ l:=by assumption):K:=hk (e ▸ an h hn)
theorem oi {l:List At} {i:Nat} {v:V} {sz:Nat} {es:List (List V)} {ki:IntKind} {j:Int} {K:V→Prop} (hk:K (GW v sz j.toNat)) (h:Sat σ l:=by assumption)
 (hi:l[i]? =some (.own v sz es):=by first|exact R0|exact Rz|exact Ry|exact Rx|exact Rw|exact Rv) (h0:0≤j:=by omega) (h1:j<es.length:=by first|omega|(simp only[Bz]at *;omega)):Ae sz none v (.i ki j) K:=
 fH h i j.toNat hi (by omega) (by omega) hk
theorem oc {l:List At} {i:Nat} {v:V} {sz k:Nat} {es:List (List V)} {ki:IntKind} {K:V→Prop} (hk:K (GW v sz k)) (h:Sat σ l:=by assumption)
 (hi:l[i]? =some (.own v sz es):=by first|exact R0|exact Rz|exact Ry|exact Rx|exact Rw|exact Rv) (h1:k<es.length:=by first|omega|(simp only[Bz]at *;omega)) (hm:k≤Ai:=by first|omega|(simp only[Ai];omega)):Ae sz none v (.i ki (BJ k)) K:=
 fH h i k hi (AP (by omega)) h1 hk
theorem ol {α:Type} {enc:α→List V} {xs:List α} {l:List At} {i:Nat} {v:V} {sz k:Nat} {agg:Option Nat} {K:V→Prop} (hk: ∀x,xs[k]? =some x→cut agg (enc x) 0 K) (h:Sat σ l:=by assumption)
 (hi:l[i]? =some (.own v sz (xs.map enc)):=by first|exact R0|exact Rz|exact Ry|exact Rx|exact Rw|exact Rv) (h1:k<xs.length:=by first|omega|(simp only[Bz]at *;omega)):Au σ agg (GW v sz k) K:=
 IT h i hi (by rw[Qf,FD h1];rfl) (hk _ (FD h1))
theorem oset {α:Type} {enc:α→List V} {xs:List α} {y:α} {l:List At} {i:Nat} {v x:V} {sz k:Nat} {vc:List V} {K:AH→Prop} (hk: ∀σ',Sat σ' (l.set i (.own v sz ((xs.set k y).map enc)))→K σ') (h:Sat σ l:=by assumption)
 (hi:l[i]? =some (.own v sz (xs.map enc)):=by first|exact R0|exact Rz|exact Ry|exact Rx|exact Rw|exact Rv) (hc:cellsOf x=some vc:=by rfl) (he:vc=enc y:=by rfl) (hg:GC enc sz:=by first|exact DC|exact Dk|exact S4|exact Mg|exact OS)
 (hv:(Eg v).isSome=true:=by assumption) (h1:k<xs.length:=by first|omega|(simp only[Bz]at *;omega)):Ag σ sz (GW v sz k) x K:=by
 subst he;refine L2 h i hi (by rw[Qf,FD h1];rfl) hc (hg y).1 (I0.2 fun v hv=>(hg y).2 v hv) (hg _).1 hv fun σ' hs=>hk σ' ?_
 rw[List.map_set];exact hs
theorem Gh {b sz:Nat} {v:V} {e:List V} {f:Bool} {K:V→AH→Prop} (h:AR b σ sz v (.l [e] f) fun v' σ'=>(Eg v').isSome=true→K v' σ'):AR b σ sz v (.l [e] f) K:=by
 obtain⟨h1,h2,h3⟩:=h;refine⟨h1,h2,?_⟩;cases v with
 | l es full=>exact⟨h3.1,h3.2.1,fun e=>(by cases e),fun e=>⟨(h3.2.2.2 e).1,fun n cap hn hc=>(h3.2.2.2 e).2 n cap hn hc rfl⟩⟩
 | sl n len cap=>
   simp only at h3 ⊢;split at h3
   ·exact⟨h3.1,h3.2.1,h3.2.2.1,h3.2.2.2.1,fun n' cap' hn hc=>h3.2.2.2.2 n' cap' hn hc rfl⟩
   ·exact h3.elim
 | _=>exact h3.elim
theorem aq {l:List At} {i:Nat} {α:Type} {enc:α→List V} {sz:Nat} {xs:List α} {x:α} {v:V} {f:Bool} {e:List V} {K:V→AH→Prop} (hk: ∀v' σ',Sat σ' (l.set i (.own v' sz ((xs++[x]).map enc)))→(Eg v').isSome=true→K v' σ') (h:Sat σ l:=by assumption)
 (hi:l[i]? =some (.own v sz (xs.map enc)):=by first|exact R0|exact Rz|exact Ry|exact Rx|exact Rw|exact Rv)
 (he:e=enc x:=by rfl) (hg:GC enc sz:=by first|exact DC|exact Dk|exact S4|exact Mg|exact OS)
 {b:Nat} (hl:xs.length<Ai∧(xs.length+1)*b≤140737488355328:=by first|assumption|omega|(simp only[QJ,Bz,OB,List.length_nil,QI,zqZ,List.length_replicate,Ai]at *;omega)):AR b σ sz v (.l [e] f) K:=
 Gh (GB h i hi hl hg hk he)
end Go.Gl
namespace Go.Gl
open Go.Proofs
attribute [local irreducible] Be BQ BH Ae AR BC Af Ag AT A7 AZ Ad Bk Bx Sat Au Bs BI W
theorem T4 {w:AM} (h:FG (.a (BR w))):w.parents.length≤Ai∧(∀l∈w.parents,l.length≤Ai)∧w.owner.length≤Ai:=by
 simp only[BR,HO,Dr,HN,JX,Bz]at h;exact⟨h.1.1,fun l hl=>(h.1.2 l hl).1.1,h.2.1.1⟩
theorem LU {xs:List Int} {g:Bool} (h:FG (.l (iL xs) g)):xs.length≤Ai:=by
 simp only[HN,Bz]at h;exact h.1
theorem KM {f:Fact} (h:FG (.a (xF f))):f.kids.length≤Ai∧f.path.length≤Ai∧ ∀k∈f.kids,FG (.a (xF k)):=by
 simp only[HO,Dr,HN,JX,Bz]at h;exact⟨h.2.2.2.2.2.1.1,h.2.2.1.1,fun k hk=>by have:=h.2.2.2.2.2.1.2 k hk;rw[Bq]at this;exact this⟩
def QS (w:AM) (c:Int):Bool:=decide (0≤c)&&decide (c<3+w.parents.length)
theorem eP (w:AM) (c:Int):Pure Tryz.prog 157 [.a (BR w),eI c] (.b (QS w c)):=by
 refine Pure.fit (by kernel_rfl) fun hf=>?_
 have⟨h1,h2,h3⟩:=T4 hf.1;have hM:=Mx;refine yA nb ?_
 conv=>whnf
 repeat'((first|apply st|(apply sq;intro K U)|(apply si;intro A B Y Z)|(apply Y;clear Z B Y A)|(apply U;clear U K)|refine⟨rfl,?_⟩|(constructor<;>intro hc<;>(try rw[hc])<;>(replace hc:=bp hc))|fail)<;>conv=>whnf)
 ·exact AJ (by rw[Bz,wrap64 (by omega) (by omega)];simp[QS,hc])
 ·exact AJ (by simp[QS,hc];intros;omega)
def JK (w:AM) (s:Int):Bool:=decide (0≤s)&&decide (s<w.owner.length)
def Fl (w:AM) (p:List Int):Bool:=p.all (JK w)&&decide (p.length≤2)
theorem gX (w:AM) (p:List Int) (g:Bool):Pure Tryz.prog 158 [.a (BR w),.l (iL p) g] (.b (Fl w p)):=by
 refine Pure.fit (by kernel_rfl) fun hf=>?_
 have⟨h1,h2,h3⟩:=T4 hf.1;have h4:=LU hf.2.1;have hM:=Mx;refine x9 nb ?_
 conv=>whnf
 repeat'((first|apply st|(apply sq;intro K U)|(apply si;intro A B Y Z)|(apply Y;clear Z B Y A)|(apply U;clear U K)|fail)<;>conv=>whnf)
 refine Cn p.length (fun k (_:Unit)=>[(9,eI (BJ k))]) (fun _ _=>[]) (fun k _=>p.all (JK w)=(p.drop k).all (JK w)) () rfl rfl Sat.nil ?_;rintro k - σ hk hn hs
 conv=>whnf
 repeat'((first|apply st|(apply sq;intro K U)|(apply si;intro A B Y Z)|(apply Y;clear Z B Y A)|(apply U;clear U K)|refine⟨rfl,?_⟩|refine ix ?_|(refine fc (fun x hx hlt hc=>?_) (fun hk hc=>?_)<;>(try rw[hc])<;>clear hc)|(constructor<;>intro hc<;>(try rw[hc])<;>(replace hc:=bp hc)<;>(try simp(disch:=omega) only[Bz,wrap64,AP]at hc))|clear U K)<;>conv=>whnf)
 ·exact AJ (by rw[Fl,hn,drop_cons hx];simp[JK,hc];intros;omega)
 ·exact⟨hlt,(),rfl,by rw[hn,drop_cons hx];simp[JK, *],hs⟩
 ·exact AJ (by rw[Fl,hn,drop_cons hx];simp[JK,hc];intros;omega)
 ·exact AJ (by rw[Fl,hn,As hk];simp;omega)
def CO (f:Fact):Bool:=f.op==2||f.op==3||f.op==4
theorem X4 (f:Fact):Pure Tryz.prog 129 [.a (xF f)] (.b (CO f)):=by
 refine yT nb ?_
 conv=>whnf
 repeat'((first|apply st|(apply sq;intro K U)|(apply si;intro A B Y Z)|(apply Y;clear Z B Y A)|(apply U;clear U K)|refine⟨rfl,?_⟩|(constructor<;>intro hc<;>(try rw[hc])<;>(replace hc:=bp hc))|fail)<;>conv=>whnf)
 all_goals exact AJ (by simp[CO, *])
def Dv:List (Int→Int)→Int→Int→Int
 | [],n,_=>n
 | k::r,n,most=>if n≤most then Dv r (n+k (most - n)) most else n
def Ci (f:Fact):Int→Int:=f.I5 fun _ l most=>Dv l 1 most
theorem Ju (f:Fact) (most:Int):Ci f most=Dv (f.kids.map Ci) 1 most:=by
 rw[Ci,Fact.Ee];rfl
theorem Pr {most:Int}: ∀(l:List (Int→Int)) (n:Int),(∀g∈l,∀m,0≤m→1≤g m∧g m≤m+1)→1≤n→n≤most+1→1≤Dv l n most∧Dv l n most≤most+1
 | [],n,_,h1,h2=>⟨h1,h2⟩
 | g ::r,n,h,h1,h2=>by
   rw[Dv];split
   ·have:=h g (List.mem_cons_self ..) (most - n) (by omega)
    exact Pr r _ (fun g hg=>h g (List.mem_cons_of_mem _ hg)) (by omega) (by omega)
   ·exact⟨h1,h2⟩
theorem K5 (f:Fact): ∀m,0≤m→1≤Ci f m∧Ci f m≤m+1:=by
 induction f using Fact.ind with
 | h f ih=>
   intro m hm;rw[Ju];refine Pr _ _ (fun g hg=>?_) (by omega) (by omega);obtain⟨k,hk,rfl⟩:=Ob.1 hg;exact ih k hk
theorem dY (f:Fact): ∀most:Int,0≤most→most≤1000→Pure Tryz.prog 156 [.a (xF f),eI most] (eI (Ci f most)):=by
 induction f using Fact.ind with
 | h f ih=>
   intro most h0 h1;refine Pure.fit (by kernel_rfl) fun hf=>?_
   have⟨h2,h3,h4⟩:=KM hf.1;have hM:=Mx;refine yB nb ?_
   conv=>whnf
   repeat'((first|apply st|(apply sq;intro K U)|(apply si;intro A B Y Z)|(apply Y;clear Z B Y A)|(apply U;clear U K)|fail)<;>conv=>whnf)
   refine Cn f.kids.length (fun k (n:Int)=>[(5,eI n),(6,eI (BJ k))]) (fun _ _=>[]) (fun k n=>1≤n∧n≤most+1∧Ci f most=Dv ((f.kids.drop k).map Ci) n most) 1 rfl ⟨by omega,by omega,by rw[List.drop_zero];exact Ju f most⟩ Sat.nil ?_;rintro k n σ hk ⟨hn1,hn2,hn⟩ hs
   conv=>whnf
   repeat'((first|apply st|(apply sq;intro K U)|(apply si;intro A B Y Z)|(apply Y;clear Z B Y A)|(apply U;clear U K)|refine⟨rfl,?_⟩|refine⟨nb,?_⟩|refine Ru ?_|(refine fc (fun x hx hlt hc=>?_) (fun hk hc=>?_)<;>(try rw[hc])<;>clear hc)|(constructor<;>intro hc<;>(try rw[hc])<;>(replace hc:=bp hc))|clear U K)<;>conv=>whnf)
   ·rw[wrap64 (by omega) (by omega)]
    have hb:=K5 x (most - n) (by omega);refine(ih x (DM hx) (most - n) (by omega) (by omega)).use ?_
    conv=>whnf
    repeat'((first|(apply si;intro A B Y Z)|(apply Y;clear Z B Y A)|(apply U;clear U K)|refine⟨rfl,?_⟩|clear U K)<;>conv=>whnf)
    rw[wrap64 (by omega) (by omega)];exact⟨hlt,_,rfl,⟨by omega,by omega,by rw[hn,drop_cons hx,Fa,Dv,if_pos hc]⟩,hs⟩
   ·exact AJ (by rw[hn,drop_cons hx,Fa,Dv,if_neg (by omega)])
   ·exact AJ (by rw[hn,As hk];rfl)
theorem dZ (f:Fact):Pure Tryz.prog 126 [.a (xF f)] (eI (Ci f 24)):=by
 refine yW nb ?_
 conv=>whnf
 repeat'((first|apply st|(apply sq;intro K U)|(apply si;intro A B Y Z)|(apply Y;clear Z B Y A)|(apply U;clear U K)|refine⟨nb,?_⟩|fail)<;>conv=>whnf)
 refine(dY f 24 (by omega) (by omega)).use ?_
 conv=>whnf
 repeat'((first|apply st|(apply Y;clear Z B Y A)|(apply U;clear U K)|fail)<;>conv=>whnf)
 exact AJ rfl
def MP (f:Fact):Nat:=f.I5 fun _ l=>1+l.sum
theorem Kq (f:Fact):MP f=1+(f.kids.map MP).sum:=Fact.Ee _ f
theorem YS {f k:Fact} (h:k∈f.kids):MP k<MP f:=by
 have: ∀l:List Fact,k∈l→MP k≤(l.map MP).sum:=fun l=>by
  induction l with
  | nil=>intro h;cases h
  | cons x r ih=>
    intro h;simp only[Fa,List.sum_cons];rcases IC.1 h with rfl|h
    ·omega
    ·have:=ih h;omega
 have:=this _ h;rw[Kq f];omega
theorem Pq {most:Int}: ∀(l:List Fact) (n:Int),(∀k∈l,∀m,0≤m→Ci k m≤m→Ci k m=MP k)→0≤n→Dv (l.map Ci) n most≤most→Dv (l.map Ci) n most=n+(l.map MP).sum
 | [],n,_,_,_=>by simp[Dv]
 | k :: r, n,h,h0,h1=>by
   simp only[Fa,Dv]at *;split at h1
   ·rename_i hc
    rw[if_pos hc];have hb:=K5 k (most - n) (by omega)
    have hge: ∀(l:List Fact) (a:Int),a≤Dv (l.map Ci) a most:=fun l=>by
     induction l with
     | nil=>intro a;exact Int.le_refl _
     | cons y l ih=>
       intro a;simp only[Fa,Dv];split
       ·have:=K5 y (most - a) (by omega)
        have:=ih (a+Ci y (most - a));omega
       ·exact Int.le_refl _
    have h2:=hge r (n+Ci k (most - n));have h3:=h k (List.mem_cons_self ..) (most - n) (by omega) (by omega);have h4:=Pq r (n+Ci k (most - n)) (fun k' hk'=>h k' (List.mem_cons_of_mem _ hk')) (by omega) h1;simp only[List.sum_cons];omega
   ·rename_i hc
    omega
theorem K4 (f:Fact): ∀m,0≤m→Ci f m≤m→Ci f m=MP f:=by
 induction f using Fact.ind with
 | h f ih=>
   intro m h0 h1;rw[Ju]at *;rw[Pq f.kids 1 ih (by omega) h1,Kq];omega
def J7 (a b:Int):Int:=if a<b then b else a
def EX (f:Fact):Int:=f.I5 fun _ l=>l.foldl J7 0+1
theorem H7 (f:Fact):EX f=(f.kids.map EX).foldl J7 0+1:=Fact.Ee _ f
theorem KW {m:Int}: ∀(l:List Int) (a:Int),(∀x∈l,x≤m)→a≤m→l.foldl J7 a≤m
 | [],_,_,h=>h
 | x::r,a,h,h'=>by
   refine KW r _ (fun y hy=>h y (List.mem_cons_of_mem _ hy)) ?_;have:=h x (List.mem_cons_self ..);unfold J7;split<;>omega
theorem KU: ∀(l:List Int) (a:Int),a≤l.foldl J7 a
 | [],_=>Int.le_refl _
 | x::r,a=>by
   refine Int.le_trans ?_ (KU r _);unfold J7;split<;>omega
theorem XF (f:Fact):1≤EX f∧EX f≤MP f:=by
 induction f using Fact.ind with
 | h f ih=>
   rw[H7];have h1:=KU (f.kids.map EX) 0
   have h2:(f.kids.map EX).foldl J7 0≤(MP f:Int) - 1:=by
    refine KW _ _ (fun x hx=>?_) (by have:=Kq f;omega);obtain⟨k,hk,rfl⟩:=Ob.1 hx;have:=(ih k hk).2;have:=YS hk;omega
   omega
theorem Gf {α:Type} {xs:List α} {k:Nat} {x:α} {β:Type} (g:α→β) (h:β→β→β) (a:β) (hx:xs[k]? =some x):((xs.take (k+1)).map g).foldl h a=h (((xs.take k).map g).foldl h a) (g x):=by
 rw[AO hx,TR,List.foldl_append];rfl
theorem eK (f:Fact):MP f≤Ai→Pure Tryz.prog 127 [.a (xF f)] (eI (EX f)):=by
 induction f using Fact.ind with
 | h f ih=>
   intro hc;refine Pure.fit (by kernel_rfl) fun hf=>?_
   have⟨h2,h3,h4⟩:=KM hf.1;have hM:=Mx;refine yV nb ?_
   conv=>whnf
   repeat'((first|apply st|(apply sq;intro K U)|(apply si;intro A B Y Z)|(apply Y;clear Z B Y A)|(apply U;clear U K)|fail)<;>conv=>whnf)
   refine Cn f.kids.length (fun k (_:Unit)=>[(3,eI (((f.kids.take k).map EX).foldl J7 0)),(9,eI (BJ k))]) (fun _ _=>[]) (fun _ _=>True) () rfl trivial Sat.nil ?_;rintro k - σ hk - hs
   conv=>whnf
   repeat'((first|apply st|(apply sq;intro K U)|(apply si;intro A B Y Z)|(apply Y;clear Z B Y A)|(apply U;clear U K)|refine⟨rfl,?_⟩|refine⟨nb,?_⟩|refine Ru ?_|refine ld ?_|refine sn fun σ hs=>?_|(refine fc (fun x hx hlt hc=>?_) (fun hk hc=>?_)<;>(try rw[hc])<;>clear hc)|(intro nn hnn;generalize hg:BE _ nn _=σ;refine al hg fun hs=>?_;clear hg)|clear U K)<;>conv=>whnf)
   ·refine(ih x (DM hx) (by have:=YS (DM hx);omega)).use ?_
    conv=>whnf
    repeat'((first|(apply si;intro A B Y Z)|(apply Y;clear Z B Y A)|(apply U;clear U K)|refine⟨rfl,?_⟩|clear U K)<;>conv=>whnf)
    exact⟨hlt,(),by rw[Gf _ _ _ hx];rfl,trivial,Sat.nil⟩
   ·have:=XF f
    rw[H7]at this;exact AJ (by rw[A2 hk,wrap64 (by omega) (by omega),←H7])
def HK (f:Fact):Int:=f.I5 fun f l=>l.foldl J7 (if CO f then f.arg+1 else 0)
theorem Js (f:Fact):HK f=(f.kids.map HK).foldl J7 (if CO f then f.arg+1 else 0):=Fact.Ee _ f
def Qo (f:Fact):Bool:=f.I5 fun f l=>decide (0≤f.arg)&&decide (f.arg<3)&&l.all id
theorem PY (f:Fact):Qo f=(decide (0≤f.arg)&&decide (f.arg<3)&&(f.kids.map Qo).all id):=Fact.Ee _ f
theorem dL (f:Fact):Qo f=true→Pure Tryz.prog 95 [.a (xF f)] (eI (HK f)):=by
 induction f using Fact.ind with
 | h f ih=>
   intro ha;refine Pure.fit (by kernel_rfl) fun hf=>?_
   have⟨h2,h3,h4⟩:=KM hf.1;have hM:=Mx;rw[PY]at ha;simp only[Bj,D4,List.all_map,I0]at ha;refine AA5 nb ?_
   conv=>whnf
   repeat'((first|apply st|(apply sq;intro K U)|(apply si;intro A B Y Z)|(apply Y;clear Z B Y A)|(apply U;clear U K)|refine⟨nb,?_⟩|fail)<;>conv=>whnf)
   refine(X4 f).use ?_
   conv=>whnf
   repeat'((first|apply st|(apply sq;intro K U)|(apply si;intro A B Y Z)|(apply Y;clear Z B Y A)|(apply U;clear U K)|refine⟨rfl,?_⟩|(constructor<;>intro hc<;>(try rw[hc])<;>(replace hc:=bp hc))|fail)<;>conv=>whnf)
   ·refine Cn f.kids.length (fun k (_:Unit)=>[(3,eI (((f.kids.take k).map HK).foldl J7 (if CO f then f.arg+1 else 0))),(14,eI (BJ k))]) (fun _ _=>[]) (fun _ _=>True) () (by rw[wrap64 (by omega) (by omega),if_pos hc];rfl) trivial Sat.nil ?_
    rintro k - σ hk - hs
    conv=>whnf
    repeat'((first|apply st|(apply sq;intro K U)|(apply si;intro A B Y Z)|(apply Y;clear Z B Y A)|(apply U;clear U K)|refine⟨rfl,?_⟩|refine⟨nb,?_⟩|refine Ru ?_|refine ld ?_|refine sn fun σ hs=>?_|(refine fc (fun x hx hlt hc=>?_) (fun hk hc=>?_)<;>(try rw[hc])<;>clear hc)|(intro nn hnn;generalize hg:BE _ nn _=σ;refine al hg fun hs=>?_;clear hg)|clear U K)<;>conv=>whnf)
    ·refine(ih x (DM hx) (ha.2 x (DM hx))).use ?_
     conv=>whnf
     repeat'((first|(apply si;intro A B Y Z)|(apply Y;clear Z B Y A)|(apply U;clear U K)|refine⟨rfl,?_⟩|clear U K)<;>conv=>whnf)
     exact⟨hlt,(),by rw[Gf _ _ _ hx];rfl,trivial,Sat.nil⟩
    ·exact AJ (by rw[A2 hk,←Js])
   ·refine Cn f.kids.length (fun k (_:Unit)=>[(3,eI (((f.kids.take k).map HK).foldl J7 (if CO f then f.arg+1 else 0))),(14,eI (BJ k))]) (fun _ _=>[]) (fun _ _=>True) () (by rw[if_neg (c:=CO f=true) (by simp[hc])];rfl) trivial Sat.nil ?_
    rintro k - σ hk - hs
    conv=>whnf
    repeat'((first|apply st|(apply sq;intro K U)|(apply si;intro A B Y Z)|(apply Y;clear Z B Y A)|(apply U;clear U K)|refine⟨rfl,?_⟩|refine⟨nb,?_⟩|refine Ru ?_|refine ld ?_|refine sn fun σ hs=>?_|(refine fc (fun x hx hlt hc=>?_) (fun hk hc=>?_)<;>(try rw[hc])<;>clear hc)|(intro nn hnn;generalize hg:BE _ nn _=σ;refine al hg fun hs=>?_;clear hg)|clear U K)<;>conv=>whnf)
    ·refine(ih x (DM hx) (ha.2 x (DM hx))).use ?_
     conv=>whnf
     repeat'((first|(apply si;intro A B Y Z)|(apply Y;clear Z B Y A)|(apply U;clear U K)|refine⟨rfl,?_⟩|clear U K)<;>conv=>whnf)
     exact⟨hlt,(),by rw[Gf _ _ _ hx];rfl,trivial,Sat.nil⟩
    ·exact AJ (by rw[A2 hk,←Js])
def Cj (op:Int):Nat:=if op=5 then 1 else if op=6∨op=7 then 2 else 0
def Vr (w:AM) (f:Fact):Bool:=
 if f.op=2 then f.n==0&&QS w f.cls else if f.op=3∨f.op=4 then f.cls==0&&(decide (-1000000000≤f.n)&&decide (f.n≤1000000000))else f.op==1||f.op==5||f.op==6||f.op==7
def Dd (w:AM) (f:Fact):Bool:=
 Vr w f&&(f.kids.length==Cj f.op&&(decide (0≤f.arg)&&(decide (f.arg<3)&&(Fl w f.path&&(CO f||(f.arg==0&&(f.path.length==0&&(f.cls==0&&f.n==0))))))))
def CW (w:AM) (f:Fact):Bool:=f.I5 fun f l=>Dd w f&&l.all id
theorem Di (w:AM) (f:Fact):CW w f=(Dd w f&&f.kids.all (CW w)):=by rw[CW,Fact.Ee,List.all_map];rfl
theorem PK {w:AM} {f:Fact} (h:Dd w f=false):CW w f=false:=by rw[Di,h,Bool.false_and]
theorem ABX {f:Fact} (h1:CO f=false) (h2:f.arg=0) (h3:(f.path.length:Int) > 0):true= !(CO f||(f.arg==0&&(f.path.length==0&&(f.cls==0&&f.n==0)))):=by
 have:(f.path.length==0)=false:=by simp;intro e;rw[e]at h3;simp at h3
 rw[this,h1,h2];rfl
theorem gn (w : AM) (f:Fact):Pure Tryz.prog 128 [.a (BR w),.a (xF f)] (.b (CW w f)):=by
 induction f using Fact.ind with
 | h f ih=>
   refine Pure.fit (by kernel_rfl) fun hf=>?_
   have⟨h2,h3,h4⟩:=KM hf.2.1;have⟨w1,w2,w3⟩:=T4 hf.1;have hM:=Mx;refine yU nb ?_
   conv=>whnf
   repeat'((first|apply st|(apply sq;intro K U)|(apply si;intro A B Y Z)|(apply Y;clear Z B Y A)|(apply U;clear U K)|refine⟨rfl,?_⟩|fail)<;>conv=>whnf)
   have hJ :=Ql U (fun(_:Unit)=>[(5,eI (Cj f.op))]) (fun _=>[]) (fun _=>Vr w f=true) [(2,.rp (BR w)),(3,.rp (xF f)),(5,eI 0)] (by
    clear U;rintro - σ ho -
    conv=>whnf
    repeat'((first|apply st|(apply sq;intro K U)|(apply si;intro A B Y Z)|refine⟨rfl,?_⟩|fail)<;>conv=>whnf)
    have hJ :=Ql U (fun(b:Bool)=>[(66,.b b)]) (fun _=>[]) (fun b=>b= !(f.kids.length==Cj f.op&&(decide (0≤f.arg)&&(decide (f.arg<3)&&Fl w f.path)))) [(2,.rp (BR w)),(3,.rp (xF f)),(66,.b false)] (by
     clear U;rintro b σ hb -
     conv=>whnf
     repeat'((first|apply st|fail)<;>conv=>whnf)
     have hJ :=Ql U (fun(_:Unit)=>[]) (fun _=>[]) (fun _=>b=false) [(2,.rp (BR w)),(3,.rp (xF f))] (by
      clear U;rintro - σ hb' -;rw[hb']at hb
      conv=>whnf
      repeat'((first|apply st|(apply sq;intro K U)|(apply si;intro A B Y Z)|refine⟨nb,?_⟩|refine Pure.use (X4 _) ?_|fail)<;>conv=>whnf)
      have hJ:=Ql U (fun(b:Bool)=>[(90,.b b)]) (fun _=>[]) (fun b=>b= !(CO f||(f.arg==0&&(f.path.length==0&&(f.cls==0&&f.n==0))))) [(2,.rp (BR w)),(3,.rp (xF f)),(90,.b false)] (by
       clear U;rintro b σ hb2 -
       conv=>whnf
       repeat'((first|apply st|fail)<;>conv=>whnf)
       have hJ:=Ql U (fun(_:Unit)=>[]) (fun _=>[]) (fun _=>b=false) [(2,.rp (BR w)),(3,.rp (xF f))] (by
        clear U;rintro - σ hb' -;rw[hb']at hb2
        have hh:Dd w f=true:=by
         have hb:(f.kids.length==Cj f.op&&(decide (0≤f.arg)&&(decide (f.arg<3)&&Fl w f.path)))=true:=by rw[←Bool.not_eq_false',←hb]
         have hb2:(CO f||(f.arg==0&&(f.path.length==0&&(f.cls==0&&f.n==0))))=true:=by rw[←Bool.not_eq_false',←hb2]
         simp only[Bj]at hb;simp only[Dd,ho,hb.1,hb.2,hb2,Bool.and_self]
        conv=>whnf
        repeat'((first|apply st|(apply sq;intro K U)|(apply si;intro A B Y Z)|(apply Y;clear Z B Y A)|(apply U;clear U K)|fail)<;>conv=>whnf)
        refine Cn f.kids.length (fun k (_:Unit)=>[(94,eI (BJ k))]) (fun _ _=>[]) (fun k _=>CW w f=(f.kids.drop k).all (CW w)) () rfl (by rw[Di,hh];rfl) Sat.nil ?_;rintro k - σ hk hn hs
        conv=>whnf
        repeat'((first|apply st|(apply sq;intro K U)|(apply si;intro A B Y Z)|(apply Y;clear Z B Y A)|(apply U;clear U K)|refine⟨rfl,?_⟩|refine⟨nb,?_⟩|refine Ru ?_|refine ld ?_|refine sn fun σ hs=>?_|(refine fc (fun x hx hlt hc=>?_) (fun hk hc=>?_)<;>(try rw[hc])<;>clear hc)|(intro nn hnn;generalize hg:BE _ nn _=σ;refine al hg fun hs=>?_;clear hg)|clear U K)<;>conv=>whnf)
        ·have hxm:=DM hx
         refine(ih x hxm).use ?_
         conv=>whnf
         repeat'((first|apply st|(apply sq;intro K U)|(apply si;intro A B Y Z)|(apply Y;clear Z B Y A)|(apply U;clear U K)|refine⟨rfl,?_⟩|(constructor<;>intro hc<;>(try rw[hc])<;>(replace hc:=bp hc))|clear U K)<;>conv=>whnf)
         ·exact AJ (by rw[hn,drop_cons hx];simp[hc])
         ·exact⟨hlt,(),rfl,by rw[hn,drop_cons hx];simp[hc],Sat.nil⟩
        ·exact AJ (by rw[hn,As hk];rfl))
       clear U
       conv=>whnf
       repeat'((first|apply st|(apply sq;intro K U)|(apply si;intro A B Y Z)|(apply Y;clear Z B Y A)|(apply U;clear U K)|(constructor<;>intro hc<;>(try rw[hc])<;>(replace hc:=bp hc))|fail)<;>conv=>whnf)
       ·have hx:(CO f||(f.arg==0&&(f.path.length==0&&(f.cls==0&&f.n==0))))=false:=by rw[←Bool.not_eq_true',←hb2,hc]
        exact AJ (by rw[PK];simp only[Dd,hx,Bool.and_false])
       ·exact hJ () _ _ rfl hc Sat.nil)
      clear U;clear hb
      conv=>whnf
      repeat'((first|apply st|(apply Y;clear Z B Y A)|refine⟨rfl,?_⟩|(constructor<;>intro hc<;>(try rw[hc])<;>(replace hc:=bp hc)<;>(try simp(disch:=omega) only[Bz,wrap64,AP]at hc))|fail)<;>conv=>whnf)
      ·have hp:f.path.length=0:=by omega
       exact hJ _ _ _ rfl (by rw[hp];simp[*,bne]) Sat.nil
      ·exact hJ true _ _ rfl (by simp[*]) Sat.nil
      ·exact hJ true _ _ rfl (ABX (by assumption) (by assumption) hc) Sat.nil
      ·exact hJ true _ _ rfl (by simp[*]) Sat.nil
      ·exact hJ false _ _ rfl (by simp[*]) Sat.nil)
     clear U
     conv=>whnf
     repeat'((first|apply st|(apply sq;intro K U)|(apply si;intro A B Y Z)|(apply Y;clear Z B Y A)|(apply U;clear U K)|(constructor<;>intro hc<;>(try rw[hc])<;>(replace hc:=bp hc))|fail)<;>conv=>whnf)
     ·have hx:(f.kids.length==Cj f.op&&(decide (0≤f.arg)&&(decide (f.arg<3)&&Fl w f.path)))=false:=by rw[←Bool.not_eq_true',←hb,hc]
      exact AJ (by rw[PK];simp only[Dd];simp only[Bool.and_eq_false_iff]at hx ⊢;rcases hx with h|h|h|h<;>simp[h])
     ·exact hJ () _ _ rfl hc Sat.nil)
    clear U
    conv=>whnf
    repeat'((first|apply st|(apply Y;clear Z B Y A)|refine⟨rfl,?_⟩|refine⟨nb,?_⟩|refine Pure.use (gX _ _ _) ?_|(constructor<;>intro hc<;>(try rw[hc])<;>(replace hc:=bp hc)<;>(try simp(disch:=omega) only[Bz,wrap64,AP]at hc))|fail)<;>conv=>whnf)
    all_goals exact hJ _ _ _ rfl (by simp[*]<;>omega) Sat.nil)
   clear U
   conv=>whnf
   repeat'((first|apply st|(apply sq;intro K U)|(apply si;intro A B Y Z)|(apply Y;clear Z B Y A)|(apply U;clear U K)|refine⟨rfl,?_⟩|refine⟨nb,?_⟩|refine Pure.use (eP _ _) ?_|(constructor<;>intro hc<;>(try rw[hc])<;>(replace hc:=bp hc))|fail)<;>conv=>whnf)
   all_goals first
    | exact AJ (by rw[PK];simp only[Dd,Vr];simp[*]<;>omega)
    | exact hJ () _ _ (by simp[Cj, *];rfl) (by simp[Vr, *]<;>omega) Sat.nil
def SC (n:Int):Bool:=decide (-1000000000≤n)&&decide (n≤1000000000)
theorem nB (n:Int):Pure Tryz.prog 125 [eI n] (.b (SC n)):=by
 refine yX nb ?_
 conv=>whnf
 repeat'((first|apply st|(apply sq;intro K U)|(apply si;intro A B Y Z)|(apply Y;clear Z B Y A)|(apply U;clear U K)|refine⟨rfl,?_⟩|(constructor<;>intro hc<;>(try rw[hc])<;>(replace hc:=bp hc))|fail)<;>conv=>whnf)
 all_goals exact AJ (by simp[SC, *]<;>omega)
def KI (k:Int):Bool:=k==1||k==4
theorem uO (k:Int):Pure Tryz.prog 97 [eI k] (.b (KI k)):=by
 refine AA4 nb ?_
 conv=>whnf
 repeat'((first|apply st|(apply sq;intro K U)|(apply si;intro A B Y Z)|(apply Y;clear Z B Y A)|(apply U;clear U K)|refine⟨rfl,?_⟩|(constructor<;>intro hc<;>(try rw[hc])<;>(replace hc:=bp hc))|fail)<;>conv=>whnf)
 all_goals exact AJ (by simp[KI, *])
theorem GD {p:Prog} (h:FG (.a (Bd p))):p.AL.length≤Ai∧p.D6.length≤Ai∧p.methods.length≤Ai∧p.nodes.length≤Ai:=by
 simp only[Bd,HO,Dr,HN,Bz]at h;exact⟨h.1.1,h.2.2.1.1,h.2.2.2.1.1,h.2.2.2.2.1.1⟩
def JL (p:Prog) (x:Node):Int:=
 if x.op=1∨x.op=2∨x.op=3∨x.op=6∨x.op=18 then 0 else
 if x.op=4∨x.op=8∨x.op=17 then 1 else
 if x.op=7∨x.op=9∨x.op=11∨x.op=12∨x.op=13∨x.op=14∨x.op=15∨x.op=16 then 2 else
 if x.op=10 then 3 else
 if x.op=5∧0≤x.n∧x.n<p.D6.length then p.D6.getD x.n.toNat 0 else -1
theorem iD (p:Prog) (x:Node):Pure Tryz.prog 130 [.a (Bd p),.a (JN x)] (eI (JL p x)):=by
 refine Pure.fit (by kernel_rfl) fun hf=>?_
 have⟨p1,p2,p3,p4⟩:=GD hf.1;have hM:=Mx;refine yS nb ?_
 conv=>whnf
 repeat'((first|apply st|(apply sq;intro K U)|(apply si;intro A B Y Z)|(apply Y;clear Z B Y A)|(apply U;clear U K)|refine⟨rfl,?_⟩|refine iq fun x hx=>?_|(constructor<;>intro hc<;>(try rw[hc])<;>(replace hc:=bp hc)<;>(try simp(disch:=omega) only[Bz,wrap64,AP]at hc))|clear U K)<;>conv=>whnf)
 all_goals first
  | (refine AJ ?_;simp[JL, *];done)
  | (refine AJ ?_;simp[JL, *];intros;omega)
  | (have hd:=(Nu.1 hx).2;refine AJ ?_;simp[JL, *];done)
def MT (p:Prog) (x:Node) (size:Int):Bool:=
 if x.op=1 then SC x.n else if x.op=3 then decide (0≤x.n)&&decide (x.n<size)else if x.op=4∨x.op=7 then decide (0≤x.n)&&decide (x.n<p.AK)else
 if x.op=5 then decide (0≤x.n)&&decide (x.n<p.D6.length)else if x.op=6∨x.op=8 then decide (3≤x.n)&&decide (x.n<3+p.AL.length)else x.n==0
theorem ZP (p:Prog) (x:Node) (size:Int):Pure Tryz.prog 131 [.a (Bd p),.a (JN x),eI size] (.b (MT p x size)):=by
 refine Pure.fit (by kernel_rfl) fun hf=>?_
 have⟨p1,p2,p3,p4⟩:=GD hf.1;have hM:=Mx;refine yR nb ?_
 conv=>whnf
 repeat'((first|apply st|(apply sq;intro K U)|(apply si;intro A B Y Z)|(apply Y;clear Z B Y A)|(apply U;clear U K)|refine⟨rfl,?_⟩|refine Pure.use (nB _) ?_|(constructor<;>intro hc<;>(try rw[hc])<;>(replace hc:=bp hc))|clear U K)<;>conv=>whnf)
 all_goals first
  | (refine AJ ?_;simp[MT, *];done)
  | (refine AJ ?_;rw[Bz,wrap64 (by omega) (by omega)];simp[MT, *];done)
  | (refine AJ ?_;simp[MT, *];intros;omega)
def Tt (ps:List (List Int)) (a b:Int):Bool:=a==b||(b==0||(decide (3≤a)&&KA ps a.toNat b.toNat))
theorem eZ (w:AM) (a b:Int) (hl:w.parents.length≤1000) (ho:ordered w.parents) (ha:0≤a) (ha':a<3+w.parents.length) (hb:0≤b) (hb':b<3+w.parents.length):Pure Tryz.prog 120 [.a (BR w),eI a,eI b] (.b (Tt w.parents a b)):=by
 refine Pure.fit (by kernel_rfl) fun hf=>?_
 have⟨w1,w2,w3⟩:=T4 hf.1;have hM:=Mx;refine yb nb ?_
 conv=>whnf
 repeat'((first|apply st|(apply sq;intro K U)|(apply si;intro A B Y Z)|(apply Y;clear Z B Y A)|(apply U;clear U K)|refine⟨rfl,?_⟩|refine⟨nb,?_⟩|(constructor<;>intro hc<;>(try rw[hc])<;>(replace hc:=bp hc))|clear U K)<;>conv=>whnf)
 ·exact AJ (by simp[Tt,hc])
 ·exact AJ (by simp[Tt, *];omega)
 ·have hc':0≤a:=ha
  obtain⟨a,rfl⟩: ∃n:Nat,a=n:=⟨a.toNat,by omega⟩
  refine(AAe w a ⟨hl,w2,w3⟩ ho (by omega)).use ?_;have hul:=Lb w.parents (3+w.parents.length) a (a - 2)
  conv=>whnf
  repeat'((first|apply st|(apply sq;intro K U)|(apply si;intro A B Y Z)|(apply Y;clear Z B Y A)|(apply U;clear U K)|refine iq fun x hx=>?_|fail)<;>conv=>whnf)
  refine AJ ?_;have hu:=Xf ho (n:=3+w.parents.length) (c:=a) (by omega) b.toNat;rw[FM,hx]at hu;simp at hu;have e1:((a:Int)==b)=false:=by simpa using ‹(a:Int)≠b›
  have e2:(b==0)=false:=by simpa using ‹b≠0›
  simp[Tt,e1,e2,hc,hu]
 ·exact AJ (by simp[Tt,hc])
structure mZ (w:AM):Prop where
 len:w.parents.length≤60
 ord:ordered w.parents
 own: ∀c∈w.owner,(3:Int)≤c∧c<3+w.parents.length
 olen:w.owner.length≤40
def EK (w:AM) (s:Int):Int:=w.owner.getD s.toNat 0
def hasB (w:AM) (c s:Int):Bool:=decide (3≤c)&&Tt w.parents c (EK w s)
theorem uu (w:AM) (c s:Int) (hw:mZ w) (hc0:0≤c) (hc1:c<3+w.parents.length) (hs0:0≤s) (hs1:s<w.owner.length):Pure Tryz.prog 122 [.a (BR w),eI c,eI s] (.b (hasB w c s)):=by
 refine Pure.fit (by kernel_rfl) fun hf=>?_
 have⟨w1,w2,w3⟩:=T4 hf.1;have hM:=Mx;have hl:=hw.len;refine ya nb ?_
 conv=>whnf
 repeat'((first|apply st|(apply sq;intro K U)|(apply si;intro A B Y Z)|(apply Y;clear Z B Y A)|(apply U;clear U K)|apply dr|refine⟨rfl,?_⟩|refine⟨nb,?_⟩|refine iq fun x hx=>?_|(constructor<;>intro hc<;>(try rw[hc])<;>(replace hc:=bp hc))|fail)<;>conv=>whnf)
 ·have:=hw.own x (DM hx)
  refine(eZ w c x (by omega) hw.ord hc0 hc1 (by omega) (by omega)).use ?_
  conv=>whnf
  repeat'((first|apply st|(apply Y;clear Z B Y A)|(apply U;clear U K)|apply dr|fail)<;>conv=>whnf)
  exact AJ (by simp[hasB,EK,hx,hc])
 ·exact AJ (by simp[hasB];omega)
end Go.Gl
