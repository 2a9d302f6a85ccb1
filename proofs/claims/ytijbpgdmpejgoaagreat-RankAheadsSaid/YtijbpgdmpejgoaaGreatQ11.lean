import Derived.Test.YtijbpgdmpejgoaaGreatQ8
import Derived.Test.YtijbpgdmpejgoaaGreatQ10
set_option linter.all false
set_option linter.unusedVariables false
set_option linter.unusedSimpArgs false
namespace Go.Gl
open Go.Proofs
attribute [local irreducible] Bj Bf Ba Al Aa BS Ao Aq Ac BO Ah Ap Bz CA Sat A7 B8 Be W
theorem ae (xs:List Int) (f:Bool) (x:Int) (hx:xs.length≤Ak):Pure Tryz.prog 154 [.l (iL xs) f,.i .i64 x] (.b (xs.contains x)):=by
 refine wk nb ?_
 conv=>whnf
 repeat((first|(refine Ar ?_;intro K U)|(refine AX ?_;intro I C G F)|(refine G _ _ ?_;clear F;clear C;clear G;clear I)|refine BT ?_|refine Cs ?_|(refine U _ _ ?_;clear U;clear K)|fail);conv=>whnf)
 refine C5 xs.length (fun k (_:Unit)=>[(5,eI (Bw k))]) (fun _ _=>[]) (fun k _=>x∉xs.take k) () rfl (by simp) Sat.nil ?_;rintro k - σ hk hn -
 conv=>whnf
 repeat((first|refine⟨rfl,?_⟩|refine Dx ?_|(refine Ar ?_;intro K U)|(refine AX ?_;intro I C G F)|(refine G _ _ ?_;clear F;clear C;clear G;clear I)|refine Bm ?_|(refine U _ _ ?_;clear U;clear K)|fail);conv=>whnf)
 refine GD hk hx (fun y hy hlt=>?_) fun hk=>?_
 ·conv=>whnf
  repeat((first|(refine Ar ?_;intro K U)|(refine AX ?_;intro I C G F)|refine Bt ?_|refine BT ?_|(refine U _ _ ?_;clear U;clear K)|fail);conv=>whnf)
  refine Im hy hx rfl ?_
  conv=>whnf
  repeat((first|refine⟨rfl,?_⟩|refine Bl ?_|(refine G _ _ ?_;clear F;clear C;clear G;clear I)|refine Bm ?_|(refine U _ _ ?_;clear U;clear K)|fail);conv=>whnf)
  refine XR (fun he=>?_) (fun he=>?_)
  ·conv=>whnf
   repeat((first|(refine Ar ?_;intro K U)|(refine AX ?_;intro I C G F)|(refine G _ _ ?_;clear F;clear C;clear G;clear I)|refine DI ?_|(refine U _ _ ?_;clear U;clear K)|(clear U;clear K));conv=>whnf)
   refine AM ?_;have:x∈xs:=he ▸ DL hy;simp[this]
  ·conv=>whnf
   repeat((first|refine⟨rfl,?_⟩|(refine AX ?_;intro I C G F)|(refine G _ _ ?_;clear F;clear C;clear G;clear I)|refine Bt ?_|(refine U _ _ ?_;clear U;clear K)|(clear U;clear K));conv=>whnf)
   refine⟨hlt,(),rfl,?_,Sat.nil⟩;rw[AR hy];simp only[Fo,List.mem_singleton,not_or];exact⟨hn,fun e=>he e.symm⟩
 ·conv=>whnf
  repeat((first|(refine Ar ?_;intro K U)|(refine AX ?_;intro I C G F)|(refine G _ _ ?_;clear F;clear C;clear G;clear I)|refine Ct ?_|refine DI ?_|(refine U _ _ ?_;clear U;clear K)|(clear U;clear K));conv=>whnf)
  refine AM ?_;rw[A5 hk]at hn;simp[hn]
theorem Ow (xs:List Int) (f:Bool) (x:Int) (hx:xs.length≤Ak):Pure Tryz.prog 241 [.l (iL xs) f,.i .i64 x] (.l (iL (xs.filter (· != x))) false):=by
 refine vL nb ?_
 conv=>whnf
 repeat((first|(refine Ar ?_;intro K U)|(refine AX ?_;intro I C G F)|(refine G _ _ ?_;clear F;clear C;clear G;clear I)|refine BT ?_|refine Cs ?_|(refine U _ _ ?_;clear U;clear K)|fail);conv=>whnf)
 refine C5 xs.length (fun k v=>[(5,v),(6,eI (Bw k))]) (fun k v=>[.own v 1 (iL ((xs.take k).filter (· != x)))]) (fun _ _=>True) (.l [] true) rfl trivial (Hl Sat.nil 1) ?_;rintro k v σ hk - hs
 conv=>whnf
 repeat((first|refine⟨rfl,?_⟩|refine Dx ?_|(refine Ar ?_;intro K U)|(refine AX ?_;intro I C G F)|(refine G _ _ ?_;clear F;clear C;clear G;clear I)|refine Bm ?_|(refine U _ _ ?_;clear U;clear K)|fail);conv=>whnf)
 refine GD hk hx (fun y hy hlt=>?_) fun hk=>?_
 ·conv=>whnf
  repeat((first|(refine Ar ?_;intro K U)|(refine AX ?_;intro I C G F)|refine Bt ?_|refine BT ?_|(refine U _ _ ?_;clear U;clear K)|fail);conv=>whnf)
  refine Im hy hx rfl ?_
  conv=>whnf
  repeat((first|refine⟨rfl,?_⟩|refine Bl ?_|(refine G _ _ ?_;clear F;clear C;clear G;clear I)|refine Bm ?_|(refine U _ _ ?_;clear U;clear K)|fail);conv=>whnf)
  refine j8 (fun he=>?_) (fun he=>?_)
  ·conv=>whnf
   repeat((first|(refine AX ?_;intro I C G F)|fail);conv=>whnf)
   refine Im hy hx rfl ?_
   conv=>whnf
   repeat((first|refine Bl ?_|fail);conv=>whnf)
   refine Fs hs 0 (x:=y) rfl (by have:=List.length_filter_le (· != x) (xs.take k);simp only[PZ]at this;have hM:=Mx;omega) DC fun v' σ' hs'=>?_
   conv=>whnf
   repeat((first|refine⟨rfl,?_⟩|(refine AX ?_;intro I C G F)|(refine G _ _ ?_;clear F;clear C;clear G;clear I)|(refine U _ _ ?_;clear U;clear K)|(clear U;clear K));conv=>whnf)
   refine⟨hlt,v',rfl,trivial,?_⟩;rw[AR hy,List.filter_append];simpa[he]using hs'
  ·conv=>whnf
   repeat((first|refine⟨rfl,?_⟩|(refine AX ?_;intro I C G F)|(refine G _ _ ?_;clear F;clear C;clear G;clear I)|refine Bt ?_|(refine U _ _ ?_;clear U;clear K)|(clear U;clear K));conv=>whnf)
   refine⟨hlt,v,rfl,trivial,?_⟩;rw[AR hy,List.filter_append];simpa[he]using hs
 ·conv=>whnf
  repeat((first|(refine Ar ?_;intro K U)|(refine AX ?_;intro I C G F)|(refine G _ _ ?_;clear F;clear C;clear G;clear I)|refine Ct ?_|refine DI ?_|(refine U _ _ ?_;clear U;clear K)|(clear U;clear K));conv=>whnf)
  exact ER hs 0 rfl (by rw[A5 hk])
def free (ls:List (List Int)) (x:Int):Bool:=ls.all fun l=> !(l.drop 1).contains x
theorem j6 (ls:List (List Int)) (f:Bool) (x:Int) (hl:ls.length≤Ak) (hls: ∀l∈ls,l.length≤Ak):Pure Tryz.prog 242 [.l (El ls) f,.i .i64 x] (.b (free ls x)):=by
 refine vK nb ?_
 conv=>whnf
 repeat((first|(refine Ar ?_;intro K U)|(refine AX ?_;intro I C G F)|(refine G _ _ ?_;clear F;clear C;clear G;clear I)|refine BT ?_|refine Cs ?_|(refine U _ _ ?_;clear U;clear K)|fail);conv=>whnf)
 refine C5 ls.length (fun k (_:Unit)=>[(5,eI (Bw k))]) (fun _ _=>[]) (fun k _=> ∀l∈ls.take k,x∉l.drop 1) () rfl (by simp) Sat.nil ?_;rintro k - σ hk hn -
 conv=>whnf
 repeat((first|refine⟨rfl,?_⟩|refine Dx ?_|(refine Ar ?_;intro K U)|(refine AX ?_;intro I C G F)|(refine G _ _ ?_;clear F;clear C;clear G;clear I)|refine Bm ?_|(refine U _ _ ?_;clear U;clear K)|fail);conv=>whnf)
 refine GD hk hl (fun y hy hlt=>?_) fun hk=>?_
 ·have hb:=hls _ (DL hy)
  have next:(x∉y.drop 1)→ ∀l∈ls.take (k+1),x∉l.drop 1:=fun hc l hm=>by
   rw[AR hy]at hm;rcases Fo.1 hm with hm|hm
   ·exact hn l hm
   ·rw[List.mem_singleton.1 hm];exact hc
  conv=>whnf
  repeat((first|(refine Ar ?_;intro K U)|(refine AX ?_;intro I C G F)|refine Bt ?_|refine BT ?_|(refine U _ _ ?_;clear U;clear K)|fail);conv=>whnf)
  refine Im hy hl rfl ?_
  conv=>whnf
  repeat((first|refine⟨rfl,?_⟩|refine Bl ?_|refine Dx ?_|fail);conv=>whnf)
  refine⟨fun h=>?_,fun h=>?_⟩<;>(try rw[h])
  ·have hp:=of_decide_eq_true h
   simp only[B2]at hp
   conv=>whnf
   repeat((first|refine GF ?_|fail);conv=>whnf)
   refine Im hy hl rfl ?_
   conv=>whnf
   repeat((first|refine GF ?_|refine Bl ?_|fail);conv=>whnf)
   refine Tf 1 rfl (by omega) (fun _=>rfl) ?_
   conv=>whnf
   repeat((first|refine GF ?_|fail);conv=>whnf)
   refine(ae _ _ _ (by rw[zqZ];omega)).use ?_
   conv=>whnf
   repeat((first|(refine G _ _ ?_;clear F;clear C;clear G;clear I)|refine Bm ?_|(refine U _ _ ?_;clear U;clear K)|fail);conv=>whnf)
   refine⟨fun hc=>?_,fun hc=>?_⟩
   ·conv=>whnf
    repeat((first|(refine Ar ?_;intro K U)|(refine AX ?_;intro I C G F)|(refine G _ _ ?_;clear F;clear C;clear G;clear I)|refine DI ?_|(refine U _ _ ?_;clear U;clear K)|(clear U;clear K));conv=>whnf)
    refine AM ?_
    have:free ls x=false:=by
     simp only[free,List.all_eq_false];exact⟨y,DL hy,by simpa using hc⟩
    rw[this]
   ·conv=>whnf
    repeat((first|refine⟨rfl,?_⟩|(refine AX ?_;intro I C G F)|(refine G _ _ ?_;clear F;clear C;clear G;clear I)|refine Bt ?_|(refine U _ _ ?_;clear U;clear K)|(clear U;clear K));conv=>whnf)
    exact⟨hlt,(),rfl,next (by simpa using hc),Sat.nil⟩
  ·have hp: ¬_:=of_decide_eq_false h
   simp only[B2]at hp
   conv=>whnf
   repeat((first|refine⟨rfl,?_⟩|refine Hs ?_|(refine AX ?_;intro I C G F)|(refine G _ _ ?_;clear F;clear C;clear G;clear I)|refine Bm ?_|refine Bt ?_|(refine U _ _ ?_;clear U;clear K)|(clear U;clear K));conv=>whnf)
   refine⟨hlt,(),rfl,next ?_,Sat.nil⟩;rw[List.drop_eq_nil_of_le (by omega)];simp
 ·conv=>whnf
  repeat((first|(refine Ar ?_;intro K U)|(refine AX ?_;intro I C G F)|(refine G _ _ ?_;clear F;clear C;clear G;clear I)|refine Ct ?_|refine DI ?_|(refine U _ _ ?_;clear U;clear K)|(clear U;clear K));conv=>whnf)
  rw[A5 hk]at hn;refine AM ?_;have:free ls x=true:=by simpa[free]using hn
  rw[this]
def A3 (ls:List (List Int)) (c:Int):List Int:=if c<3 then []else ls.getD (c - 3).toNat []
theorem Vr (ls:List (List Int)) (f:Bool) (c:Int) (hc:c<3+ls.length) (hm:ls.length≤Ak):Pure Tryz.prog 240 [.l (El ls) f,.i .i64 c] (.l (iL (A3 ls c)) false):=by
 refine vM nb ?_
 conv=>whnf
 repeat((first|refine⟨rfl,?_⟩|(refine Ar ?_;intro K U)|(refine AX ?_;intro I C G F)|(refine G _ _ ?_;clear F;clear C;clear G;clear I)|refine Bm ?_|(refine U _ _ ?_;clear U;clear K)|fail);conv=>whnf)
 refine fork (fun h=>?_) (fun h=>?_)
 ·conv=>whnf
  repeat((first|(refine Ar ?_;intro K U)|(refine AX ?_;intro I C G F)|(refine G _ _ ?_;clear F;clear C;clear G;clear I)|refine DI ?_|(refine U _ _ ?_;clear U;clear K)|(clear U;clear K));conv=>whnf)
  refine CD (.l (fun h=>(by cases h)) ?_);rw[A3,if_pos h];exact .nil
 ·conv=>whnf
  repeat((first|refine⟨rfl,?_⟩|(refine Ar ?_;intro K U)|(refine AX ?_;intro I C G F)|refine Bt ?_|(refine U _ _ ?_;clear U;clear K)|fail);conv=>whnf)
  simp only[Ak]at hm;have hlt:(c - 3).toNat<ls.length:=by omega
  refine S6 (c - 3).toNat (E4 hlt) (by rw[wrap64 (by omega) (by omega)];omega) rfl ?_
  conv=>whnf
  repeat((first|refine Bl ?_|(refine G _ _ ?_;clear F;clear C;clear G;clear I)|refine DI ?_|(refine U _ _ ?_;clear U;clear K)|fail);conv=>whnf)
  refine AM ?_;rw[A3,if_neg h,E9,E4 hlt];rfl
def ET (ls os:List (List Int)) (c:Int):Option (List (List Int)):=
 if(A3 ls c).any fun p=>(os.getD p.toNat []).isEmpty then none else some ((A3 ls c).map (fun p=>(os.getD p.toNat []).filter (· != 0))++[A3 ls c])
def zQ (o:Option (List (List Int))):V:=match o with|some l=> .t [.l (El l) false,.b true]|none=> .t [.l [] false,.b false]
theorem cK (ls os:List (List Int)) (f:Bool) (w:V) (c:Int) (hc:c<3+ls.length) (hm:ls.length≤Ak) (hos: ∀o∈os,o.length≤Ak) (hpl:(A3 ls c).length<1000000)
 (hp: ∀p∈A3 ls c,0≤p∧p.toNat<os.length):CL Tryz.prog 194 [.l (El ls) f,w,.i .i64 c] [.own w 1 (El os)] fun r post=>r= .ret (zQ (ET ls os c))∧post= [.own w 1 (El os)]:=by
 have hM:=Mx;intro σ hs;refine wF nb ?_
 conv=>whnf
 repeat((first|(refine Ar ?_;intro K U)|(refine AX ?_;intro I C G F)|(refine G _ _ ?_;clear F;clear C;clear G;clear I)|(refine U _ _ ?_;clear U;clear K)|fail);conv=>whnf)
 refine(Vr _ _ _ hc hm).use ?_
 conv=>whnf
 repeat((first|(refine Ar ?_;intro K U)|(refine AX ?_;intro I C G F)|(refine G _ _ ?_;clear F;clear C;clear G;clear I)|refine BT ?_|refine Cs ?_|(refine U _ _ ?_;clear U;clear K)|fail);conv=>whnf)
 refine C5 (A3 ls c).length (fun k v=>[(8,v),(10,eI (Bw k))]) (fun k v=>[.own w 1 (El os),.own v 1 (El (((A3 ls c).take k).map fun p=>(os.getD p.toNat []).filter (· != 0)))]) (fun k _=> ∀p∈(A3 ls c).take k,(os.getD p.toNat []).isEmpty=false)
  (.l [] true) rfl (by simp) (Hl hs 1) ?_
 rintro k v σ hk hne hs
 conv=>whnf
 repeat((first|refine⟨rfl,?_⟩|refine Dx ?_|(refine Ar ?_;intro K U)|(refine AX ?_;intro I C G F)|(refine G _ _ ?_;clear F;clear C;clear G;clear I)|refine Bm ?_|(refine U _ _ ?_;clear U;clear K)|fail);conv=>whnf)
 refine GD hk (by omega) (fun p hpk hlt=>?_) fun hk=>?_
 ·obtain ⟨hp0,hp1⟩:=hp _ (DL hpk)
  have hq:=E4 hp1
  have hgd:os.getD p.toNat []=os[p.toNat]:=by
   rw[E9,hq];rfl
  have hqm:(El os)[p.toNat]? =some [.l (iL os[p.toNat]) false]:=by rw[Pu,hq];rfl
  conv=>whnf
  repeat((first|(refine Ar ?_;intro K U)|(refine AX ?_;intro I C G F)|refine Bt ?_|refine BT ?_|(refine U _ _ ?_;clear U;clear K)|fail);conv=>whnf)
  refine Im hpk (by omega) rfl ?_
  conv=>whnf
  repeat((first|refine Bl ?_|fail);conv=>whnf)
  refine dX hs 0 p.toNat rfl (by omega) (by simpa using hp1) ?_
  conv=>whnf
  refine Hv hs 0 rfl hqm ?_
  conv=>whnf
  repeat((first|refine⟨rfl,?_⟩|refine Dx ?_|(refine G _ _ ?_;clear F;clear C;clear G;clear I)|refine Bm ?_|(refine U _ _ ?_;clear U;clear K)|fail);conv=>whnf)
  refine XR (fun he=>?_) (fun he=>?_)
  ·conv=>whnf
   repeat((first|(refine Ar ?_;intro K U)|(refine AX ?_;intro I C G F)|(refine G _ _ ?_;clear F;clear C;clear G;clear I)|refine DI ?_|(refine U _ _ ?_;clear U;clear K)|(clear U;clear K));conv=>whnf)
   have hn:ET ls os c=none:=by
    simp only[ET];rw[if_pos];rw[List.any_eq_true];refine⟨p,DL hpk,?_⟩;rw[hgd];have:(os[p.toNat]).length=0:=by simpa using he
    simp[List.length_eq_zero_iff.1 this]
   rw[hn];exact BG (l':=[.own w 1 (El os)]) hs (by simp) (.t (.cons (.l (fun h=>(by cases h)) .nil) (.cons (.refl _) .nil))) fun σ' hs'=>⟨_,⟨rfl,rfl⟩,hs'⟩
  ·conv=>whnf
   repeat((first|(refine AX ?_;intro I C G F)|refine Bt ?_|(refine U _ _ ?_;clear U;clear K)|fail);conv=>whnf)
   refine Im hpk (by omega) rfl ?_
   conv=>whnf
   repeat((first|refine Bl ?_|fail);conv=>whnf)
   refine dX hs 0 p.toNat rfl (by omega) (by simpa using hp1) ?_
   conv=>whnf
   refine Hv hs 0 rfl hqm ?_
   conv=>whnf
   refine(Ow _ _ _ (hos _ (List.getElem_mem hp1))).use ?_
   conv=>whnf
   refine Fs hs 1 (x:=os[p.toNat].filter (· != 0)) rfl (by have hM:=Mx;simp;omega) Dg fun v' σ' hs'=>?_
   conv=>whnf
   repeat((first|refine⟨rfl,?_⟩|(refine AX ?_;intro I C G F)|(refine G _ _ ?_;clear F;clear C;clear G;clear I)|(refine U _ _ ?_;clear U;clear K)|(clear U;clear K));conv=>whnf)
   refine⟨hlt,v',rfl,fun q hm=>?_,?_⟩
   ·rw [AR hpk]at hm
    rcases Fo.1 hm with hm|hm
    ·exact hne q hm
    ·rw[List.mem_singleton.1 hm,hgd]
     have:(os[p.toNat]).length≠0:=by
      intro e;exact he (by simp[e])
     cases hq:os[p.toNat]with
     | nil=>rw[hq]at this;exact absurd rfl this
     | cons _ _=>rfl
   ·rw[AR hpk,List.map_append,List.map_singleton,hgd]
    exact hs'
 ·rw[A5 hk]at hne hs
  conv=>whnf
  repeat((first|(refine Ar ?_;intro K U)|(refine AX ?_;intro I C G F)|refine Ct ?_|(refine U _ _ ?_;clear U;clear K)|(clear U;clear K));conv=>whnf)
  refine Fs hs 1 (x:=A3 ls c) rfl (by have hM:=Mx;simp;omega) Dg fun v' σ' hs'=>?_
  conv=>whnf
  repeat((first|(refine G _ _ ?_;clear F;clear C;clear G;clear I)|refine DI ?_|(refine U _ _ ?_;clear U;clear K)|fail);conv=>whnf)
  have hn:ET ls os c=some ((A3 ls c).map (fun p=>(os.getD p.toNat []).filter (· != 0))++[A3 ls c]):=by
   simp only[ET];rw[if_neg];rw[List.any_eq_true];rintro⟨p,h1,h2⟩;rw[hne p h1]at h2;cases h2
  rw[hn];obtain⟨σ2,h1,h2,h3⟩:=TF hs' 1 rfl;exact H0 h1 (.t (.cons h2 (.cons (.refl _) .nil))) ⟨_,⟨rfl,rfl⟩,h3⟩
def pick (ls:List (List Int)):Option Int:=(ls.find? fun l=>match l with| []=>false|x::_=>free ls x).bind List.head?
def total (ls:List (List Int)):Nat:=(ls.map List.length).sum
def DV:Nat→List (List Int)→List Int→List Int×Bool
 | 0,ls,out=>(out,ls.all List.isEmpty)
 | n+1,ls,out=>match pick ls with
   | none=>(out,ls.all List.isEmpty)
   | some x=>DV n (ls.map fun l=>l.filter (· != x)) (out++[x])
def Ca (ls:List (List Int)):List Int×Bool:=DV (total ls) ls []
theorem H3 {ls:List (List Int)} {x:Int} (h:pick ls=some x):total (ls.map fun l=>l.filter (· != x))<total ls:=by
 unfold pick at h;rw[Option.bind_eq_some_iff]at h;obtain⟨l,h1,h2⟩:=h;have hm:=List.mem_of_find?_eq_some h1;clear h1;cases l with
 | nil=>cases h2
 | cons y r=>
   simp only[List.head?_cons,JX]at h2;subst h2
   have hle: ∀ls:List (List Int),total (ls.map fun l=>l.filter (· != y))≤total ls:=fun ls=>by
    induction ls with
    | nil=>simp[total]
    | cons a bs ih=>
      have:=List.length_filter_le (· != y) a;simp only[total,List.map_cons,List.sum_cons]at *;omega
   induction ls with
   | nil=>cases hm
   | cons a bs ih=>
     rcases IF.1 hm with rfl|hm
     ·have h1:=hle bs
      have h2:=List.length_filter_le (· != y) r;simp only[total,List.map_cons,List.sum_cons]at *;have:((y::r).filter (· != y)).length≤r.length:=by simpa using h2
      simp only[NW];omega
     ·have h1:=ih hm
      have h2:=List.length_filter_le (· != y) a;simp only[total,List.map_cons,List.sum_cons]at *;omega
def Lu (ls:List (List Int)):Prop:=ls.length≤1000000∧ ∀l∈ls,l.length≤Ak∧ ∀x∈l,0≤x
theorem Lu.filter {ls:List (List Int)} (h:Lu ls) (x:Int):Lu (ls.map fun l=>l.filter (· != x)):=by
 refine⟨by rw[B2];exact h.1,fun l hl=>?_⟩;obtain⟨l',hl',rfl⟩:=Nv.1 hl;obtain⟨h1,h2⟩:=h.2 l' hl';exact⟨Nat.le_trans (List.length_filter_le _ _) h1,fun y hy=>h2 y (Qz.1 hy).1⟩
def D1 (ls:List (List Int)) (k:Nat):Int:=((((ls.take k).find? fun l=>match l with| []=>false|x::_=>free ls x).bind List.head?).getD (-1))
theorem Ub: ∀(n:Nat) (ls:List (List Int)) (out:List Int),total ls≤n→DV n ls out=DV (total ls) ls out:=by
 intro n
 induction n using Nat.strongRecOn with
 | _ n ih=>
   intro ls out hn;by_cases he:total ls=n
   ·rw[he]
   ·cases n with
    | zero=>omega
    | succ n=>
      cases hp:pick ls with
      | none=>
        cases ht:total ls with
        | zero=>simp[DV,hp]
        | succ m=>simp[DV,hp]
      | some x=>
        have h1:=H3 hp;cases ht:total ls with
        | zero=>omega
        | succ m=>
          simp only[DV,hp];rw[ih n (by omega) _ _ (by omega),ih m (by omega) _ _ (by omega)]
theorem M4 {ls:List (List Int)} {x:Int} {out:List Int} (hp:pick ls=some x):DV (total ls) ls out=DV (total (ls.map fun l=>l.filter (· != x))) (ls.map fun l=>l.filter (· != x)) (out++[x]):=by
 have h1:=H3 hp;cases ht:total ls with
 | zero=>omega
 | succ m=>
   simp only[DV,hp];exact Ub m _ _ (by omega)
theorem PD {ls:List (List Int)} {out:List Int} (hp:pick ls=none):DV (total ls) ls out=(out,ls.all List.isEmpty):=by
 cases ht:total ls with
 | zero=>rfl
 | succ m=>simp only[DV,hp]
def E6 (ls:List (List Int)) (l:List Int):Bool:=match l with| []=>false|x::_=>free ls x
theorem HY (ls:List (List Int)) (k:Nat):D1 ls k=(((ls.take k).find? (E6 ls)).bind List.head?).getD (-1):=rfl
theorem H5 {ls:List (List Int)} (hok:Lu ls) {k:Nat} (h:D1 ls k<0):(ls.take k).find? (E6 ls)=none:=by
 rw[HY]at h;cases hf:(ls.take k).find? (E6 ls)with
 | none=>rfl
 | some l=>
   rw[hf]at h;have hm:=List.mem_of_mem_take (List.mem_of_find?_eq_some hf);have hg:=List.find?_some hf;cases l with
   | nil=>cases hg
   | cons x r=>
     have:=(hok.2 _ hm).2 x (.head _);simp at h;omega
theorem UZ {ls:List (List Int)} (hok:Lu ls) {k:Nat} (hk:k<ls.length) (h:D1 ls k<0):D1 ls (k+1)=if E6 ls ls[k]then(ls[k].head?).getD (-1)else -1:=by
 rw[HY,List.take_succ_eq_append_getElem hk,List.find?_append,H5 hok h];by_cases hg:E6 ls ls[k]=true
 ·simp[hg]
 ·simp[hg]
theorem O6 {ls:List (List Int)} {k:Nat} (h:0≤D1 ls k):pick ls=some (D1 ls k):=by
 rw[HY]at *;show((ls.find? (E6 ls)).bind List.head?)=_;cases hf:(ls.take k).find? (E6 ls)with
 | none=>rw[hf]at h;simp at h
 | some l=>
   have h1:ls.find? (E6 ls)=some l:=by
    have:=List.take_append_drop k ls;rw[←this,List.find?_append,this,hf];rfl
   rw[h1];rw[hf]at h;cases l with
   | nil=>simp at h
   | cons x r=>simp
theorem I4 {ls:List (List Int)} (hok:Lu ls) {k:Nat} {l:List Int} (hl:ls[k]? =some l) (h:D1 ls k<0):D1 ls (k+1)=if E6 ls l then(l.head?).getD (-1)else -1:=by
 obtain⟨hk,rfl⟩:=List.getElem?_eq_some_iff.1 hl;exact UZ hok hk h
theorem YC {ls:List (List Int)} {l:List Int} (h:l∈ls):l.length≤total ls:=by
 induction ls with
 | nil=>cases h
 | cons a r ih=>
   simp only[total,List.map_cons,List.sum_cons]at *;rcases IF.1 h with rfl|h
   ·omega
   ·have:=ih h;omega
theorem cG (ls:List (List Int)) (f:Bool) (hok:Lu ls) (ht:total ls<Ak):Pure Tryz.prog 195 [.l (El ls) f] (.t [.l (iL (Ca ls).1) false,.b (Ca ls).2]):=by
 have hM:=Mx;refine wE nb ?_
 conv=>whnf
 repeat((first|(refine Ar ?_;intro K U)|(refine AX ?_;intro I C G F)|(refine G _ _ ?_;clear F;clear C;clear G;clear I)|refine BT ?_|refine Cs ?_|(refine U _ _ ?_;clear U;clear K)|fail);conv=>whnf)
 refine J2 (fun(x:List (List Int)×Bool×V×List Int)=>total x.1) (fun x=>[(0,.l (El x.1) x.2.1),(4,x.2.2.1)]) (fun x=>[.own x.2.2.1 1 (iL x.2.2.2)])
  (fun x=>Lu x.1∧x.2.2.2.length+total x.1≤total ls∧DV (total x.1) x.1 x.2.2.2=Ca ls) (ls,f,.l [] true,[]) rfl ⟨hok,by simp,rfl⟩ (Hl Sat.nil 1) ?_
 rintro⟨ls',f',v,out⟩ σ ⟨hok',hlen,hm⟩ hs;dsimp only at hok' hlen hm hs;have hlm:ls'.length≤Ak:=by have:=hok'.1;omega
 conv=>whnf
 repeat((first|(refine Ar ?_;intro K U)|(refine AX ?_;intro I C G F)|(refine G _ _ ?_;clear F;clear C;clear G;clear I)|refine BT ?_|refine Cs ?_|(refine U _ _ ?_;clear U;clear K)|fail);conv=>whnf)
 have hJ :=P0 U (fun(y:Int×Bool)=>[(5,.i .i64 y.1),(6,.b y.2)]) (fun _=>[.own v 1 (iL out)]) (fun y=>(0≤y.1∧pick ls'=some y.1)∨(y.1<0∧pick ls'=none∧y.2=ls'.any fun l=> !l.isEmpty))
  [(0,.l (El ls') f'),(4,v),(5,.pn),(6,.pn)] (by
  rintro⟨nx,lf⟩ σ hor hs;dsimp only at hor
  conv=>whnf
  repeat((first|refine⟨rfl,?_⟩|(refine Ar ?_;intro K U)|(refine AX ?_;intro I C G F)|(refine G _ _ ?_;clear F;clear C;clear G;clear I)|refine Bm ?_|(refine U _ _ ?_;clear U;clear K)|fail);conv=>whnf)
  refine fork (fun hneg=>?_) (fun hneg=>?_)
  ·conv=>whnf
   repeat((first|(refine Ar ?_;intro K U)|(refine AX ?_;intro I C G F)|(refine G _ _ ?_;clear F;clear C;clear G;clear I)|refine DI ?_|(refine U _ _ ?_;clear U;clear K)|(clear U;clear K));conv=>whnf)
   rcases hor with⟨h0,_⟩|⟨_,hp,rfl⟩
   ·omega
   ·rw[PD hp]at hm
    refine CD ?_;rw[←hm];refine .t (.cons (hs.I9 0 rfl) (.cons ?_ .nil));have:(!ls'.any fun l=> !l.isEmpty)=ls'.all List.isEmpty:=by simp[List.all_eq_not_any_not]
    rw[←this];exact .refl _
  ·conv=>whnf
   repeat((first|(refine Ar ?_;intro K U)|(refine AX ?_;intro I C G F)|refine Bt ?_|(refine U _ _ ?_;clear U;clear K)|fail);conv=>whnf)
   rcases hor with⟨_,hp⟩|⟨h0,_⟩
   ·have hlt:=H3 hp
    refine Fs hs 0 (x:=nx) rfl (by omega) DC fun v' σ hs=>?_
    conv=>whnf
    repeat((first|(refine Ar ?_;intro K U)|(refine AX ?_;intro I C G F)|(refine G _ _ ?_;clear F;clear C;clear G;clear I)|refine BT ?_|refine Cs ?_|(refine U _ _ ?_;clear U;clear K)|fail);conv=>whnf)
    refine C5 ls'.length (fun k u=>[(8,u),(9,eI (Bw k))]) (fun k u=>[.own v' 1 (iL (out++[nx])),.own u 1 (El ((ls'.take k).map fun l=>l.filter (· != nx)))]) (fun _ _=>True) (.l [] true) rfl trivial (Hl hs 1) ?_;rintro k u σ hk - hs
    conv=>whnf
    repeat((first|refine⟨rfl,?_⟩|refine Dx ?_|(refine Ar ?_;intro K U)|(refine AX ?_;intro I C G F)|(refine G _ _ ?_;clear F;clear C;clear G;clear I)|refine Bm ?_|(refine U _ _ ?_;clear U;clear K)|fail);conv=>whnf)
    refine GD hk hlm (fun l hl hlt'=>?_) fun hk=>?_
    ·conv=>whnf
     repeat((first|(refine Ar ?_;intro K U)|(refine AX ?_;intro I C G F)|refine Bt ?_|refine BT ?_|(refine U _ _ ?_;clear U;clear K)|fail);conv=>whnf)
     refine Im hl hlm rfl ?_
     conv=>whnf
     repeat((first|refine Bl ?_|fail);conv=>whnf)
     refine(Ow _ _ _ (hok'.2 _ (DL hl)).1).use ?_
     conv=>whnf
     refine Fs hs 1 (x:=l.filter (· != nx)) rfl (by have:=hok'.1;simp;omega) Dg fun u' σ' hs'=>?_
     conv=>whnf
     repeat((first|refine⟨rfl,?_⟩|(refine AX ?_;intro I C G F)|(refine G _ _ ?_;clear F;clear C;clear G;clear I)|(refine U _ _ ?_;clear U;clear K)|(clear U;clear K));conv=>whnf)
     refine⟨hlt',u',rfl,trivial,?_⟩;rw[AR hl,List.map_append];exact hs'
    ·rw[A5 hk]at hs
     conv=>whnf
     repeat((first|(refine AX ?_;intro I C G F)|refine Ct ?_|(refine U _ _ ?_;clear U;clear K)|(clear U;clear K));conv=>whnf)
     refine sC hs 1 rfl fun σ' hs'=>?_
     conv=>whnf
     repeat((first|(refine G _ _ ?_;clear F;clear C;clear G;clear I)|fail);conv=>whnf)
     refine⟨(ls'.map fun l=>l.filter (· != nx),false,v',out++[nx]),hlt,rfl,⟨hok'.filter nx,by simp;omega,?_⟩,hs'⟩;rw[←M4 hp];exact hm
   ·omega)
 clear U
 ·refine C5 ls'.length (fun k (_:Unit)=>[(5,.i .i64 (D1 ls' k)),(6,.b ((ls'.take k).any fun l=> !l.isEmpty)),(7,eI (Bw k))]) (fun _ _=>[.own v 1 (iL out)]) (fun _ _=>True) () rfl trivial hs ?_
  rintro k - σ hk - hs
  conv=>whnf
  repeat((first|refine⟨rfl,?_⟩|refine Dx ?_|(refine Ar ?_;intro K U)|(refine AX ?_;intro I C G F)|fail);conv=>whnf)
  refine⟨fun h=>?_,fun h=>?_⟩<;>(try rw[h])
  ·have hlt:=of_decide_eq_true h
   rw[AU (by have:=hok'.1;omega)]at hlt;have hlt:=aT hlt;have hl:=E4 hlt;have hb:=hok'.2 _ (List.getElem_mem hlt);generalize ls'[k]=l at *
   conv=>whnf
   repeat((first|refine⟨rfl,?_⟩|refine GF ?_|(refine G _ _ ?_;clear F;clear C;clear G;clear I)|refine Bm ?_|(refine U _ _ ?_;clear U;clear K)|fail);conv=>whnf)
   refine fork (fun hneg=>?_) (fun hneg=>?_)
   ·conv=>whnf
    repeat((first|(refine Ar ?_;intro K U)|(refine AX ?_;intro I C G F)|refine Bt ?_|refine BT ?_|(refine U _ _ ?_;clear U;clear K)|fail);conv=>whnf)
    refine Im hl hlm rfl ?_
    conv=>whnf
    repeat((first|refine⟨rfl,?_⟩|refine Bl ?_|refine Dx ?_|(refine G _ _ ?_;clear F;clear C;clear G;clear I)|refine Bm ?_|(refine U _ _ ?_;clear U;clear K)|fail);conv=>whnf)
    refine fork (fun hp=>?_) (fun hp=>?_)
    ·simp only[B2]at hp
     obtain⟨x,r,rfl⟩: ∃x r,l=x::r:=by cases l with
      | nil=>simp at hp
      | cons x r=>exact⟨x,r,rfl⟩
     have hany:((ls'.take (k+1)).any fun l=> !l.isEmpty)=true:=by
      rw[AR hl];simp
     conv=>whnf
     repeat((first|(refine Ar ?_;intro K U)|(refine AX ?_;intro I C G F)|(refine G _ _ ?_;clear F;clear C;clear G;clear I)|(refine U _ _ ?_;clear U;clear K)|fail);conv=>whnf)
     refine Im hl hlm rfl ?_
     conv=>whnf
     repeat((first|refine Bl ?_|fail);conv=>whnf)
     refine S6 0 rfl rfl rfl ?_
     conv=>whnf
     repeat((first|refine Bl ?_|fail);conv=>whnf)
     refine(j6 _ _ _ hlm fun l hl=>(hok'.2 l hl).1).use ?_
     conv=>whnf
     repeat((first|(refine G _ _ ?_;clear F;clear C;clear G;clear I)|refine Bm ?_|(refine U _ _ ?_;clear U;clear K)|fail);conv=>whnf)
     refine⟨fun hf=>?_,fun hf=>?_⟩
     ·conv=>whnf
      repeat((first|(refine AX ?_;intro I C G F)|fail);conv=>whnf)
      refine Im hl hlm rfl ?_
      conv=>whnf
      repeat((first|refine Bl ?_|fail);conv=>whnf)
      refine S6 0 rfl rfl rfl ?_
      conv=>whnf
      repeat((first|refine⟨rfl,?_⟩|refine Bl ?_|(refine AX ?_;intro I C G F)|(refine G _ _ ?_;clear F;clear C;clear G;clear I)|(refine U _ _ ?_;clear U;clear K)|fail);conv=>whnf)
      refine⟨hlt,(),?_,trivial,hs⟩;have:D1 ls' (k+1)=x:=by rw[I4 hok' hl hneg];simp[E6,hf]
      dsimp only;rw[this,hany];rfl
     ·conv=>whnf
      repeat((first|refine⟨rfl,?_⟩|(refine AX ?_;intro I C G F)|(refine G _ _ ?_;clear F;clear C;clear G;clear I)|refine Bt ?_|(refine U _ _ ?_;clear U;clear K)|fail);conv=>whnf)
      refine⟨hlt,(),?_,trivial,hs⟩;have:D1 ls' (k+1)=D1 ls' k:=by rw[I4 hok' hl hneg,HY ls' k,H5 hok' hneg];simp[E6,hf]
      dsimp only;rw[this,hany];rfl
    ·simp only[B2]at hp
     obtain rfl:l= []:=List.length_eq_zero_iff.1 (by omega)
     conv=>whnf
     repeat((first|refine⟨rfl,?_⟩|(refine AX ?_;intro I C G F)|(refine G _ _ ?_;clear F;clear C;clear G;clear I)|refine Bt ?_|(refine U _ _ ?_;clear U;clear K)|fail);conv=>whnf)
     refine⟨hlt,(),?_,trivial,hs⟩;have:D1 ls' (k+1)=D1 ls' k:=by rw[I4 hok' hl hneg,HY ls' k,H5 hok' hneg];simp[E6]
     have hany:((ls'.take (k+1)).any fun l=> !l.isEmpty)=((ls'.take k).any fun l=> !l.isEmpty):=by
      rw[AR hl,List.any_append];simp
     dsimp only;rw[this,hany];rfl
   ·conv=>whnf
    repeat((first|refine Ct ?_|(clear U;clear K));conv=>whnf)
    refine hJ (D1 ls' k,(ls'.take k).any fun l=> !l.isEmpty) _ _ rfl (.inl ⟨by omega,?_⟩) hs;exact O6 (by omega)
  ·have hlt:=of_decide_eq_false h
   rw[AU (by have:=hok'.1;omega)]at hlt;have hke:=XX hk hlt
   conv=>whnf
   repeat((first|refine Hs ?_|(refine G _ _ ?_;clear F;clear C;clear G;clear I)|refine Bm ?_|refine Ct ?_|(refine U _ _ ?_;clear U;clear K)|(clear U;clear K));conv=>whnf)
   refine hJ (D1 ls' k,(ls'.take k).any fun l=> !l.isEmpty) _ _ rfl ?_ hs;rw[A5 hke];by_cases h0:0≤D1 ls' k
   ·exact .inl ⟨h0,O6 h0⟩
   ·refine .inr ⟨by omega,?_,rfl⟩
    have:=H5 hok' (k:=k) (by omega);rw[A5 hke]at this;show((ls'.find? (E6 ls')).bind List.head?)=none;rw[this];rfl
def ED (g os:List (List Int)) (c:Int):List Int:=
 match ET g os c with
 | none=>[]
 | some l=>if(Ca l).2 then [c]++(Ca l).1++[0]else []
def Bo (g:List (List Int)):Nat→List (List Int)
 | 0=>[[0]]
 | k+1=>Bo g k++[ED g (Bo g k) ((k:Int)+1)]
def CM (g:List (List Int)):List (List Int):=Bo g (2+g.length)
def IK (g:List (List Int)):Prop:=g.length≤16∧ ∀(i:Nat) (l:List Int),g[i]? =some l→l.length≤3∧l.Nodup∧ ∀c∈l,(3:Int)≤c∧c<3+(i:Int)
theorem Cu (g:List (List Int)): ∀k,(Bo g k).length=k+1
 | 0=>rfl
 | k+1=>by simp[Bo,Cu g k]
theorem H6: ∀(n:Nat) (ls:List (List Int)) (out:List Int),(DV n ls out).1.length≤out.length+n
 | 0,ls,out=>by simp[DV]
 | n + 1,ls,out=>by
   simp only[DV];split
   ·simp
   ·rename_i x _
    have:=H6 n (ls.map fun l=>l.filter (· != x)) (out++[x]);simp only[Sl,List.length_singleton]at this;refine Nat.le_trans this ?_;omega
theorem UY {ls:List (List Int)} (h: ∀l∈ls,∀x∈l,(0:Int)≤x) {x:Int} (hp:pick ls=some x):0≤x:=by
 unfold pick at hp;rw[Option.bind_eq_some_iff]at hp;obtain⟨l,h1,h2⟩:=hp;have hm:=List.mem_of_find?_eq_some h1;cases l with
 | nil=>cases h2
 | cons y r=>cases h2;exact h _ hm _ (.head _)
theorem Jt: ∀(n:Nat) (ls:List (List Int)) (out:List Int),(∀l∈ls,∀x∈l,(0:Int)≤x)→(∀x∈out,(0:Int)≤x)→ ∀x∈(DV n ls out).1,(0:Int)≤x
 | 0,ls,out,_,h2=>h2
 | n + 1,ls,out,h1,h2=>by
   simp only[DV];split
   ·exact h2
   ·rename_i y hy
    refine Jt n _ _ (fun l hl x hx=>?_) fun x hx=>?_
    ·obtain⟨l',hl',rfl⟩:=Nv.1 hl
     exact h1 _ hl' _ (Qz.1 hx).1
    ·rcases Fo.1 hx with hx|hx
     ·exact h2 x hx
     ·rw[List.mem_singleton.1 hx];exact UY h1 hy
theorem Dn {g:List (List Int)} (hg:IK g) {c p:Int} (hp:p∈A3 g c):3≤p∧p<c:=by
 unfold A3 at hp;split at hp
 ·cases hp
 ·rename_i hc
  rw[E9]at hp;cases hq:g[(c - 3).toNat]? with
  | none=>rw[hq]at hp;cases hp
  | some l=>
    rw[hq]at hp;obtain⟨_,_,h⟩:=hg.2 _ _ hq;have:=h p hp;omega
theorem DK {g:List (List Int)} (hg:IK g) (c:Int):(A3 g c).length≤3:=by
 unfold A3;split
 ·simp
 ·rw[E9]
  cases hq:g[(c - 3).toNat]? with
  | none=>simp
  | some l=>exact(hg.2 _ _ hq).1
theorem Gq {g os:List (List Int)} {c:Int} {ls:List (List Int)} (h:ET g os c=some ls):ls=(A3 g c).map (fun p=>(os.getD p.toNat []).filter (· != 0))++[A3 g c]:=by
 unfold ET at h;split at h
 ·cases h
 ·exact(Option.some.inj h).symm
theorem T1 {os:List (List Int)} {B:Nat} (h: ∀o∈os,o.length≤B) (n:Nat):(os.getD n []).length≤B:=by
 rw[E9];cases hq:os[n]? with
 | none=>simp
 | some l=>exact h _ (DL hq)
theorem Of {os:List (List Int)} {Q:Int→Prop} (h: ∀o∈os,∀x∈o,Q x) (n:Nat): ∀x∈os.getD n [],Q x:=by
 rw[E9];cases hq:os[n]? with
 | none=>simp
 | some l=>exact h _ (DL hq)
theorem FP {g os:List (List Int)} {c:Int} {ls:List (List Int)} (h:ET g os c=some ls) {B:Nat} (Z: ∀o∈os,o.length≤B):total ls≤(A3 g c).length*(B+1):=by
 rw[Gq h];simp only[total,List.map_append,List.map_map,List.sum_append,List.map_cons,List.map_nil,List.sum_cons,List.sum_nil,Nat.add_zero]
 have: ∀ps:List Int,(ps.map (List.length∘fun p=>(os.getD p.toNat []).filter (· != 0))).sum≤ps.length*B:=fun ps=>by
  induction ps with
  | nil=>simp
  | cons p r ih=>
    simp only[List.map_cons,List.sum_cons,Function.comp,NW,Nat.succ_mul];have h1:=List.length_filter_le (· != 0) (os.getD p.toNat []);have h2:=T1 Z p.toNat;simp only[Function.comp_def]at *;omega
 have:=this (A3 g c);rw[Nat.mul_add,Nat.mul_one];simp only[Function.comp_def]at *;omega
theorem Ua {g os:List (List Int)} {c:Int} {B:Nat} (Z: ∀o∈os,o.length≤B):(ED g os c).length≤(A3 g c).length*(B+1)+2:=by
 unfold ED;split
 ·simp
 ·rename_i ls h
  have h1:=FP h Z;have h2:=H6 (total ls) ls [];simp only[List.length_nil,Nat.zero_add]at h2;split
  ·simp only[Sl,List.length_singleton,Ca]
   omega
  ·simp
theorem PY {g os:List (List Int)} {c:Int} (hg:IK g) (hc:0≤c) (h: ∀o∈os,∀x∈o,(0:Int)≤x): ∀x∈ED g os c,0≤x:=by
 unfold ED;split
 ·simp
 ·rename_i ls hl
  split
  ·intro x hx
   have hls: ∀l∈ls,∀x∈l,(0:Int)≤x:=by
    rw[Gq hl];intro l hl x hx;rcases Fo.1 hl with hl|hl
    ·obtain⟨p,_,rfl⟩:=Nv.1 hl
     exact Of h p.toNat x (Qz.1 hx).1
    ·rw[List.mem_singleton.1 hl]at hx
     have:=Dn hg hx;omega
   simp only[Fo,List.mem_singleton]at hx;rcases hx with(rfl|hx)|rfl
   ·exact hc
   ·exact Jt _ _ _ hls (by simp) x hx
   ·exact Int.le_refl _
  ·simp
def Il (k:Nat):Nat:=5*3 ^ (k - 3) - 3
theorem sY (n:Nat):1≤3 ^ n:=Nat.one_le_pow _ _ (by omega)
theorem ID {g:List (List Int)} (hg:IK g): ∀(k:Nat),∀o∈Bo g k,o.length≤Il k∧ ∀x∈o,(0:Int)≤x
 | 0,o,ho=>by
   simp only[Bo,List.mem_singleton]at ho;subst ho;simp[Il]
 | k + 1,o,ho=>by
   have ih:=ID hg k
   have hmono:Il k≤Il (k+1):=by
    unfold Il;have:3 ^ (k - 3)≤3 ^ (k+1 - 3):=Nat.pow_le_pow_right (by omega) (by omega);omega
   simp only[Bo,Fo,List.mem_singleton]at ho;rcases ho with ho|rfl
   ·exact⟨Nat.le_trans (ih o ho).1 hmono,(ih o ho).2⟩
   ·refine⟨?_,PY hg (by omega) fun o ho=>(ih o ho).2⟩
    have h1:=Ua (g:=g) (c:=(k:Int)+1) fun o ho=>(ih o ho).1
    by_cases hk:k<3
    ·have:A3 g ((k:Int)+1)= []:=by
      apply List.eq_nil_iff_forall_not_mem.2;intro p hp;have:=Dn hg hp;omega
     rw[this]at h1
     have:Il (k+1)=2:=by
      have:k+1 - 3=0:=by omega
      simp[Il,this]
     simpa[this]using h1
    ·have h2:=DK hg ((k:Int)+1)
     have h3:(A3 g ((k:Int)+1)).length*(Il k+1)≤3*(Il k+1):=Nat.mul_le_mul_right _ h2;have:k+1 - 3=(k - 3)+1:=by omega
     unfold Il at *;rw[this,Nat.pow_succ];have:=sY (k - 3);omega
theorem Xf {k:Nat} (h:k≤18):Il k≤71744535:=by
 unfold Il;have:3 ^ (k - 3)≤3 ^ 15:=Nat.pow_le_pow_right (by omega) (by omega);have e:(3:Nat) ^ 15=14348907:=by decide
 omega
theorem Ez {g:List (List Int)}: ∀ {k j:Nat},j≤k→(Bo g k)[j]? =(Bo g j)[j]?
 | 0,j,h=>by(obtain rfl:j=0:=by omega);rfl
 | k+1,j,h=>by
   by_cases e:j=k+1
   ·subst e;rfl
   ·rw[←Ez (k:=k) (by omega),Bo,rZ (by rw[Cu];omega)]
theorem Vs {g os:List (List Int)} {c:Int} {ls:List (List Int)} (hg:IK g) (h:ET g os c=some ls) {B:Nat} (Z: ∀o∈os,o.length≤B∧ ∀x∈o,(0:Int)≤x) (hb:B≤100000000):Lu ls∧total ls<Ak:=by
 have h3:=DK hg c;have ht:=FP h fun o ho=>(Z o ho).1
 have:(A3 g c).length*(B+1)≤3*(B+1):=Nat.mul_le_mul_right _ h3;have htl:total ls<Ak:=by simp only[Ak];omega
 refine⟨⟨?_,fun l hl=>⟨?_,?_⟩⟩,htl⟩
 ·rw[Gq h]
  simp only[Sl,B2,List.length_singleton,Ak];omega
 ·have:=YC hl
  simp only[Ak]at *;omega
 ·intro x hx
  rw[Gq h]at hl;rcases Fo.1 hl with hl|hl
  ·obtain⟨p,_,rfl⟩:=Nv.1 hl
   exact Of (fun o ho=>(Z o ho).2) p.toNat x (Qz.1 hx).1
  ·rw[List.mem_singleton.1 hl]at hx
   have:=Dn hg hx;omega
theorem YT (g:List (List Int)) (f:Bool) (hg:IK g):Pure Tryz.prog 155 [.l (El g) f] (.l (El (CM g)) false):=by
 refine wj nb ?_
 conv=>whnf
 repeat((first|(refine Ar ?_;intro K U)|(refine AX ?_;intro I C G F)|(refine G _ _ ?_;clear F;clear C;clear G;clear I)|(refine U _ _ ?_;clear U;clear K)|fail);conv=>whnf)
 have hg16:=hg.1;have hgm:g.length≤Ak:=by simp only[Ak];omega
 refine⟨.l (El [[0]]) true,emp,fun _ _ h=>h,.l (fun _=>rfl) (.cons (.cons (.l (fun h=>(by cases h)) (.refl _ _ _)) .nil) .nil),?_⟩
 conv=>whnf
 repeat((first|(refine Ar ?_;intro K U)|(refine AX ?_;intro I C G F)|(refine G _ _ ?_;clear F;clear C;clear G;clear I)|refine BT ?_|refine Cs ?_|(refine U _ _ ?_;clear U;clear K)|fail);conv=>whnf)
 refine C5 (2+g.length) (fun k v=>[(3,v),(4,eI (Kl 1 k))]) (fun k v=>[.own v 1 (El (Bo g k))]) (fun _ _=>True) (.l (El [[0]]) true) rfl trivial (dj Sat.nil (by simp)) ?_;rintro k v σ hk - hs;have hc1:Kl 1 k=(k:Int)+1:=by rw[Nr (by omega) (by omega)];omega
 have hw:IntKind.i64.wrap (3+((El g).length:Nat))=3+(g.length:Int):=by rw[B2,wrap64 (by omega) (by omega)]
 conv=>whnf
 repeat((first|refine⟨rfl,?_⟩|refine Dx ?_|(refine Ar ?_;intro K U)|(refine AX ?_;intro I C G F)|(refine G _ _ ?_;clear F;clear C;clear G;clear I)|refine Bm ?_|(refine U _ _ ?_;clear U;clear K)|fail);conv=>whnf)
 rw[hc1];rw[hw];refine fork (fun hlt=>?_) (fun hlt=>?_)
 ·have hlt':k<2+g.length:=by omega
  have Z:=ID hg k;have hb18:Il k≤71744535:=Xf (by omega);have hc2:Kl 1 (k+1)=IntKind.i64.wrap ((k:Int)+1+1):=by rw[Kl,hc1]
  conv=>whnf
  repeat((first|(refine Ar ?_;intro K U)|(refine AX ?_;intro I C G F)|refine Bt ?_|refine BT ?_|(refine U _ _ ?_;clear U;clear K)|fail);conv=>whnf)
  refine⟨.l (iL []) false,σ,fun _ _ h=>h,.l (fun h=>(by cases h)) (.refl _ _ _),?_⟩
  conv=>whnf
  repeat((first|(refine Ar ?_;intro K U)|(refine AX ?_;intro I C G F)|(refine G _ _ ?_;clear F;clear C;clear G;clear I)|(refine U _ _ ?_;clear U;clear K)|fail);conv=>whnf)
  refine(cK g (Bo g k) f v ((k:Int)+1) (by omega) hgm (fun o ho=>by have:=(Z o ho).1;simp only[Ak];omega) (by have:=DK hg ((k:Int)+1);omega)
   (fun p hp=>by have:=Dn hg hp;rw[Cu];omega)).use (rest:=[]) hs ?_
  rintro r post σ' ⟨rfl,rfl⟩ hs;cases hl:ET g (Bo g k) ((k:Int)+1)with
  | none=>
    conv=>whnf
    repeat((first|refine Hs ?_|(refine Ar ?_;intro K U)|(refine AX ?_;intro I C G F)|(refine G _ _ ?_;clear F;clear C;clear G;clear I)|refine Bm ?_|refine Bt ?_|(refine U _ _ ?_;clear U;clear K)|fail);conv=>whnf)
    refine Fs hs 0 (x:=[]) rfl (by rw[Cu];simp only[Ak];omega) Dg fun v' σ' hs'=>?_
    conv=>whnf
    refine⟨v',σ',fun _ _ h=>h,.refl _,?_⟩
    conv=>whnf
    repeat((first|refine⟨rfl,?_⟩|(refine AX ?_;intro I C G F)|(refine G _ _ ?_;clear F;clear C;clear G;clear I)|(refine U _ _ ?_;clear U;clear K)|(clear U;clear K));conv=>whnf)
    refine⟨hlt',v',?_,trivial,?_⟩
    ·skip
     rw[hc2];rfl
    ·have:ED g (Bo g k) ((k:Int)+1)= []:=by simp[ED,hl,]
     rw[Bo,this];exact hs'
  | some ls=>
    obtain⟨hok,htot⟩:=Vs hg hl Z (by omega)
    conv=>whnf
    repeat((first|refine GF ?_|(refine Ar ?_;intro K U)|(refine AX ?_;intro I C G F)|(refine G _ _ ?_;clear F;clear C;clear G;clear I)|refine Bm ?_|(refine U _ _ ?_;clear U;clear K)|fail);conv=>whnf)
    refine(cG ls false hok htot).use ?_;have hml:=H6 (total ls) ls [];simp only[List.length_nil,Nat.zero_add]at hml
    conv=>whnf
    repeat((first|(refine Ar ?_;intro K U)|(refine AX ?_;intro I C G F)|(refine G _ _ ?_;clear F;clear C;clear G;clear I)|refine Bm ?_|(refine U _ _ ?_;clear U;clear K)|fail);conv=>whnf)
    refine⟨fun h=>?_,fun h=>?_⟩<;>(try rw[h])
    ·conv=>whnf
     repeat((first|(refine AX ?_;intro I C G F)|fail);conv=>whnf)
     refine Kq (dj hs (by simp)) 1 (xs:=[(k:Int)+1]) rfl (by simp[Ca];have:=FP hl fun o ho=>(Z o ho).1;have h3:=DK hg ((k:Int)+1);have:(A3 g ((k:Int)+1)).length*(Il k+1)≤3*(Il k+1):=Nat.mul_le_mul_right _ h3;simp only[Ak]at *;omega) DC fun u σ1 hs=>?_
     conv=>whnf
     refine Fs hs 1 (x:=0) rfl (by simp[Ca];have:=FP hl fun o ho=>(Z o ho).1;have h3:=DK hg ((k:Int)+1);have:(A3 g ((k:Int)+1)).length*(Il k+1)≤3*(Il k+1):=Nat.mul_le_mul_right _ h3;simp only[Ak]at *;omega) DC fun u σ1 hs=>?_
     conv=>whnf
     refine sC hs 1 rfl fun σ' hs=>?_
     conv=>whnf
     repeat((first|(refine AX ?_;intro I C G F)|(refine G _ _ ?_;clear F;clear C;clear G;clear I)|(refine U _ _ ?_;clear U;clear K)|fail);conv=>whnf)
     refine Fs hs 0 (x:=([(k:Int)+1]++(Ca ls).1++[0])) rfl (by rw[Cu];simp only[Ak];omega) Dg fun v' σ' hs'=>?_
     conv=>whnf
     refine⟨v',σ',fun _ _ h=>h,.refl _,?_⟩
     conv=>whnf
     repeat((first|refine⟨rfl,?_⟩|(refine AX ?_;intro I C G F)|(refine G _ _ ?_;clear F;clear C;clear G;clear I)|(refine U _ _ ?_;clear U;clear K)|(clear U;clear K));conv=>whnf)
     refine⟨hlt',v',?_,trivial,?_⟩
     ·skip
      rw[hc2];rfl
     ·have:ED g (Bo g k) ((k:Int)+1)=([(k:Int)+1]++(Ca ls).1++[0]):=by simp[ED,hl,h]
      rw[Bo,this];exact hs'
    ·conv=>whnf
     repeat((first|(refine AX ?_;intro I C G F)|refine Bt ?_|(refine U _ _ ?_;clear U;clear K)|fail);conv=>whnf)
     refine Fs hs 0 (x:=[]) rfl (by rw[Cu];simp only[Ak];omega) Dg fun v' σ' hs'=>?_
     conv=>whnf
     refine⟨v',σ',fun _ _ h=>h,.refl _,?_⟩
     conv=>whnf
     repeat((first|refine⟨rfl,?_⟩|(refine AX ?_;intro I C G F)|(refine G _ _ ?_;clear F;clear C;clear G;clear I)|(refine U _ _ ?_;clear U;clear K)|(clear U;clear K));conv=>whnf)
     refine⟨hlt',v',?_,trivial,?_⟩
     ·skip
      rw[hc2];rfl
     ·have:ED g (Bo g k) ((k:Int)+1)= []:=by simp[ED,hl,h]
      rw[Bo,this];exact hs'
 ·conv=>whnf
  repeat((first|(refine Ar ?_;intro K U)|(refine AX ?_;intro I C G F)|(refine G _ _ ?_;clear F;clear C;clear G;clear I)|refine Ct ?_|refine DI ?_|(refine U _ _ ?_;clear U;clear K)|(clear U;clear K));conv=>whnf)
  have hke:k=2+g.length:=by omega
  subst hke;exact ER hs 0 rfl rfl
end Go.Gl
namespace Go.Gl
def par (ps:List (List Int)) (c:Nat):List Int:=if c<3 then []else ps.getD (c - 3) []
def ordered (ps:List (List Int)):Prop:= ∀c p,p∈par ps c→3≤p∧p<(c:Int)
def ZX (ps:List (List Int)):Nat→Nat→Nat→Bool
 | 0,c,b=>c==b
 | f+1,c,b=>c==b||(par ps c).any fun p=>ZX ps f p.toNat b
def Je (ps:List (List Int)) (c b:Nat):Bool:=ZX ps c c b
theorem KK {ps:List (List Int)} (ho:ordered ps): ∀(f c b:Nat),c≤f→ZX ps f c b=Je ps c b
 | 0,c,b,h=>by(obtain rfl:c=0:=by omega);rfl
 | f + 1,c,b,h=>by
   cases c with
   | zero=>
     have:par ps 0= []:=rfl;simp[Je,ZX,this]
   | succ c=>
     simp only[Je,ZX];congr 1
     have key: ∀l:List Int,(∀p∈l,p∈par ps (c+1))→(l.any fun p=>ZX ps f p.toNat b)=l.any fun p=>ZX ps c p.toNat b:=by
      intro l hl
      induction l with
      | nil=>rfl
      | cons p r ih=>
        have hp:=ho (c+1) p (hl p (.head _));simp only[List.any_cons];rw[ih fun q hq=>hl q (.tail _ hq),KK ho f p.toNat b (by omega),KK ho c p.toNat b (by omega)]
     exact key _ fun p hp=>hp
theorem GC {ps:List (List Int)} (ho:ordered ps) (c b:Nat):Je ps c b=(c==b||(par ps c).any fun p=>Je ps p.toNat b):=by
 cases c with
 | zero=>simp[Je,ZX,par]
 | succ c=>
   simp only[Je,ZX];congr 1
   have key: ∀l:List Int,(∀p∈l,p∈par ps (c+1))→(l.any fun p=>ZX ps c p.toNat b)=l.any fun p=>ZX ps p.toNat p.toNat b:=by
    intro l hl
    induction l with
    | nil=>rfl
    | cons p r ih=>
      have hp:=ho (c+1) p (hl p (.head _));simp only[List.any_cons];rw[ih fun q hq=>hl q (.tail _ hq),KK ho c p.toNat b (by omega)];rfl
   exact key _ fun p hp=>hp
theorem HM {ps:List (List Int)} (ho:ordered ps) (c:Nat):Je ps c c=true:=by rw[GC ho];simp
theorem aB {ps:List (List Int)} (ho:ordered ps): ∀(c b:Nat),Je ps c b=true→b≤c:=by
 intro c
 induction c using Nat.strongRecOn with
 | _ c ih=>
   intro b h;rw[GC ho]at h;simp only[Bool.or_eq_true,FQ,List.any_eq_true]at h;rcases h with rfl|⟨p,hp,h⟩
   ·omega
   ·have:=ho c p hp
    have:=ih p.toNat (by omega) b h;omega
theorem MI {ps:List (List Int)} (ho:ordered ps): ∀(a b c:Nat),Je ps a b=true→Je ps b c=true→Je ps a c=true:=by
 intro a
 induction a using Nat.strongRecOn with
 | _ a ih=>
   intro b c h k;rw[GC ho]at h ⊢;simp only[Bool.or_eq_true,FQ,List.any_eq_true]at h ⊢;rcases h with rfl|⟨p,hp,h⟩
   ·rw[GC ho]at k
    simpa using k
   ·have:=ho a p hp
    exact .inr ⟨p,hp,ih p.toNat (by omega) b c h k⟩
def FX (bs:List Bool) (i:Nat):List Int→List Bool
 | []=>bs
 | p::r=>FX (bs.set p.toNat (bs.getD p.toNat false||bs.getD i false)) i r
theorem Lf (i:Nat): ∀(a b:List Int) (bs:List Bool),FX bs i (a++b)=FX (FX bs i a) i b
 | [],b,bs=>rfl
 | p::r,b,bs=>by simp only[List.cons_append,FX];exact Lf i r b _
theorem MQ (i:Nat): ∀(l:List Int) (bs:List Bool),(FX bs i l).length=bs.length
 | [],bs=>rfl
 | p::r,bs=>by simp only[FX];rw[MQ i r];simp
def G9 (ps:List (List Int)) (n c:Nat):Nat→List Bool
 | 0=>(List.replicate n false).set c true
 | k+1=>FX (G9 ps n c k) (c - k) (par ps (c - k))
theorem Kz (ps:List (List Int)) (n c:Nat): ∀k,(G9 ps n c k).length=n
 | 0=>by simp[G9]
 | k+1=>by simp only[G9];rw[MQ,Kz ps n c k]
theorem GH {bs:List Bool} {j:Nat} {x:Bool} (hj:j<bs.length) (b:Nat):(bs.set j x).getD b false=if b=j then x else bs.getD b false:=by
 simp only[E9,List.getElem?_set];by_cases h:j=b
 ·subst h;simp[hj]
 ·rw[if_neg h,if_neg (fun e=>h e.symm)]
theorem MR {i:Nat}: ∀(l:List Int) (bs:List Bool),(∀p∈l,0≤p∧p.toNat<bs.length∧p.toNat<i)→ ∀b,(FX bs i l).getD b false=(bs.getD b false||(bs.getD i false&&l.contains (b:Int)))
 | [],bs,_,b=>by simp[FX]
 | p ::r,bs,h,b=>by
   obtain⟨h1,h2,h3⟩:=h p (.head _);simp only[FX];have hi:i≠p.toNat:=by omega
   rw[MR r _ (fun q hq=>by have:=h q (.tail _ hq);simpa using this),GH h2,GH h2,if_neg hi];by_cases hb:b=p.toNat
   ·subst hb
    have:((p.toNat:Nat):Int)=p:=by omega
    simp only[if_true,this,List.contains_cons,beq_self_eq_true,Bool.true_or,Bool.and_true];cases bs.getD p.toNat false<;>cases bs.getD i false<;>simp
   ·rw[if_neg hb]
    have:((b:Int)==p)=false:=by simp;omega
    simp only[List.contains_cons,this,Bool.false_or]
theorem Ta {ps:List (List Int)} (ho:ordered ps) {n c:Nat} (hc:c<n): ∀k,k≤c - 2→(∀b,(G9 ps n c k).getD b false=true→Je ps c b=true)∧(G9 ps n c k).getD c false=true∧
 (∀j p,c - k<j→(G9 ps n c k).getD j false=true→p∈par ps j→(G9 ps n c k).getD p.toNat false=true)
 | 0,_=>by
   have hg: ∀b,(G9 ps n c 0).getD b false=decide (b=c):=fun b=>by
    simp only[G9];rw[GH (by simpa using hc)];by_cases h:b=c
    ·simp[h]
    ·rw[if_neg h]
     simp[h,E9,List.getElem?_replicate];split<;>rfl
   refine⟨fun b hb=>?_,by rw[hg];simp,fun j p hj hb hp=>?_⟩
   ·rw[hg]at hb
    simp only[D8]at hb;subst hb;exact HM ho _
   ·rw[hg]at hb
    simp only[D8]at hb;omega
 | k + 1,hk=>by
   obtain⟨h1,h2,h3⟩:=Ta ho hc k (by omega)
   have hpar: ∀p∈par ps (c - k),0≤p∧p.toNat<(G9 ps n c k).length∧p.toNat<c - k:=fun p hp=>by
    have:=ho _ p hp;rw[Kz];omega
   have hg: ∀b,(G9 ps n c (k+1)).getD b false=((G9 ps n c k).getD b false||((G9 ps n c k).getD (c - k) false&&(par ps (c - k)).contains (b:Int))):=fun b=>by
    simp only[G9];exact MR _ _ hpar b
   refine⟨fun b hb=>?_,by rw[hg,h2];rfl,fun j p hj hb hp=>?_⟩
   ·rw[hg]at hb
    simp only[Bool.or_eq_true,Bn,List.contains_iff_mem]at hb;rcases hb with hb|⟨hb,hm⟩
    ·exact h1 b hb
    ·refine MI ho c (c - k) b (h1 _ hb) ?_
     rw[GC ho];simp only[Bool.or_eq_true,List.any_eq_true];exact .inr ⟨b,hm,by simpa using HM ho b⟩
   ·have hjp:=ho j p hp
    have hb':(G9 ps n c k).getD j false=true:=by
     rw[hg]at hb;simp only[Bool.or_eq_true,Bn,List.contains_iff_mem]at hb;rcases hb with hb|⟨_,hm⟩
     ·exact hb
     ·have:=ho _ _ hm
      omega
    rw[hg];by_cases e:j=c - k
    ·subst e
     rw[hb'];have:((p.toNat:Nat):Int)=p:=by omega
     simp only[this,Bool.true_and,Bool.or_eq_true,List.contains_iff_mem];exact .inr hp
    ·rw[h3 j p (by omega) hb' hp]
     rfl
theorem Wo {ps:List (List Int)} (ho:ordered ps) {n c:Nat} (hc:c<n) (b:Nat):(G9 ps n c (c - 2)).getD b false=Je ps c b:=by
 obtain⟨h1,h2,h3⟩:=Ta ho hc (c - 2) (Nat.le_refl _)
 have key: ∀a,(G9 ps n c (c - 2)).getD a false=true→ ∀b,Je ps a b=true→(G9 ps n c (c - 2)).getD b false=true:=by
  intro a
  induction a using Nat.strongRecOn with
  | _ a ih=>
    intro ha b hb;rw[GC ho]at hb;simp only[Bool.or_eq_true,FQ,List.any_eq_true]at hb;rcases hb with rfl|⟨p,hp,hb⟩
    ·exact ha
    ·have:=ho a p hp
     exact ih p.toNat (by omega) (h3 a p (by omega) ha hp) b hb
 cases hb:Je ps c b with
 | true=>exact key c h2 b hb
 | false=>
   cases hq:(G9 ps n c (c - 2)).getD b false with
   | false=>rfl
   | true=>rw[h1 b hq]at hb;cases hb
end Go.Gl
namespace Go.Gl
open Go.Proofs
attribute [local irreducible] Bj Bf Ba Al Aa BS Ao Aq Ac BO Ah Ap Bz CA Sat A7 B8 Be W
theorem tJ (g:List (List Int)) (f:Bool) (c:Int) (hg:IK g) (h0:0≤c) (h1:c<3+g.length):Pure Tryz.prog 124 [.l (El g) f,eI c] (.t [.l (iL ((CM g).getD c.toNat [])) false,.b (!((CM g).getD c.toNat []).isEmpty)]):=by
 refine xM nb ?_
 conv=>whnf
 repeat((first|(refine Ar ?_;intro K U)|(refine AX ?_;intro I C G F)|(refine G _ _ ?_;clear F;clear C;clear G;clear I)|(refine U _ _ ?_;clear U;clear K)|fail);conv=>whnf)
 refine(YT g f hg).use ?_
 conv=>whnf
 have hlen:=Cu g (2+g.length);have hlt:c.toNat<(CM g).length:=by unfold CM;omega
 have hq:=E4 hlt;refine S6 c.toNat hq (by omega) rfl ?_
 conv=>whnf
 repeat((first|refine⟨rfl,?_⟩|refine Bl ?_|refine Dx ?_|(refine Ar ?_;intro K U)|(refine AX ?_;intro I C G F)|(refine G _ _ ?_;clear F;clear C;clear G;clear I)|refine DI ?_|(refine U _ _ ?_;clear U;clear K)|fail);conv=>whnf)
 refine AM ?_;rw[E9,hq,Option.getD_some];cases(CM g)[c.toNat]with
 | nil=>rfl
 | cons _ _=>simp
def wFit (w:AP):Prop:=w.parents.length≤1000∧(∀l∈w.parents,l.length≤Ak)∧w.owner.length≤Ak
theorem aI {ps:List (List Int)} {c:Nat} (h3:3≤c) (hc:c<3+ps.length):ps[c - 3]? =some (par ps c):=by
 unfold par;rw[if_neg (by omega),E9,E4 (by omega)];rfl
theorem Wk {bs:List Bool} {j:Nat} (h:j<bs.length):(bL bs)[j]? =some [.b (bs.getD j false)]:=by
 rw[Pu,E9,E4 h];rfl
theorem VT (bs:List Bool) (j:Nat) (x:Bool):(bL bs).set j [.b x]=bL (bs.set j x):=by
 simp[bL,List.map_set]
theorem zL (w:AP) (c:Nat) (hw:wFit w) (ho:ordered w.parents) (hc:c<3+w.parents.length):Pure Tryz.prog 153 [.a (BQ w),eI c] (.l (bL (G9 w.parents (3+w.parents.length) c (c - 2))) false):=by
 obtain⟨hw1,hw2,hw3⟩:=hw;have hmL:3+w.parents.length≤Ak:=by simp only[Ak];omega
 refine wm nb ?_
 conv=>whnf
 repeat((first|refine⟨rfl,?_⟩|refine Bl ?_|refine Dx ?_|(refine Ar ?_;intro K U)|(refine AX ?_;intro I C G F)|(refine G _ _ ?_;clear F;clear C;clear G;clear I)|(refine U _ _ ?_;clear U;clear K)|fail);conv=>whnf)
 rw[show IntKind.i64.wrap (3+((El w.parents).length:Nat))=((3+w.parents.length:Nat):Int) by rw[B2,wrap64 (by omega) (by omega)];omega];refine hMk Sat.nil (by omega) fun v σ hs hv=>?_
 obtain⟨id,rfl⟩:=hv
 conv=>whnf
 repeat((first|(refine Ar ?_;intro K U)|(refine AX ?_;intro I C G F)|(refine G _ _ ?_;clear F;clear C;clear G;clear I)|(refine U _ _ ?_;clear U;clear K)|fail);conv=>whnf)
 refine dX hs 0 c rfl rfl (by simpa using hc) ?_
 conv=>whnf
 refine LR hs 0 rfl (e:=[.b false]) (by simp[hc]) rfl rfl rfl rfl rfl fun σ hs=>?_
 have e0:(List.replicate (3+w.parents.length) [V.b false]).set c [V.b true]=bL (G9 w.parents (3+w.parents.length) c 0):=by
  simp only[G9];rw[←VT];simp[bL]
 conv=>whnf
 repeat((first|(refine Ar ?_;intro K U)|(refine AX ?_;intro I C G F)|(refine G _ _ ?_;clear F;clear C;clear G;clear I)|refine BT ?_|refine Cs ?_|(refine U _ _ ?_;clear U;clear K)|fail);conv=>whnf)
 refine C5 (c - 2) (fun k (_:Unit)=>[(6,eI (NO c k))]) (fun k _=>[.own (.sl id (3+w.parents.length) (3+w.parents.length)) 1 (bL (G9 w.parents (3+w.parents.length) c k))]) (fun _ _=>True) () rfl trivial (e0 ▸ hs) ?_;rintro k - σ hk - hs;have hd:NO c k=(c:Int) - k:=SO (by omega) (by omega);have hul:=Kz w.parents (3+w.parents.length) c k
 conv=>whnf
 repeat((first|refine⟨rfl,?_⟩|(refine Ar ?_;intro K U)|(refine AX ?_;intro I C G F)|(refine G _ _ ?_;clear F;clear C;clear G;clear I)|refine Bm ?_|(refine U _ _ ?_;clear U;clear K)|fail);conv=>whnf)
 refine fork (fun hlt=>?_) (fun hlt=>?_)
 ·rw [hd]at hlt
  have h3:3≤c - k:=by omega
  have hpar:=aI (ps:=w.parents) h3 (by omega);have hpl:=hw2 _ (DL hpar)
  conv=>whnf
  repeat((first|refine⟨rfl,?_⟩|refine Bl ?_|(refine Ar ?_;intro K U)|(refine AX ?_;intro I C G F)|refine Bt ?_|refine BT ?_|(refine U _ _ ?_;clear U;clear K)|fail);conv=>whnf)
  refine S6 (c - k - 3) hpar (by rw[hd,wrap64 (by omega) (by omega)];omega) rfl ?_
  conv=>whnf
  repeat((first|refine Bl ?_|refine Dx ?_|(refine G _ _ ?_;clear F;clear C;clear G;clear I)|refine BT ?_|refine Cs ?_|(refine U _ _ ?_;clear U;clear K)|fail);conv=>whnf)
  refine C5 (par w.parents (c - k)).length (fun j (_:Unit)=>[(29,eI (Bw j))]) (fun j _=>[.own (.sl id (3+w.parents.length) (3+w.parents.length)) 1 (bL (FX (G9 w.parents (3+w.parents.length) c k) (c - k) ((par w.parents (c - k)).take j)))]) (fun _ _=>True) () rfl trivial hs ?_;rintro j - σ hj - hs;have hml:=MQ (c - k) ((par w.parents (c - k)).take j) (G9 w.parents (3+w.parents.length) c k)
  conv=>whnf
  repeat((first|refine⟨rfl,?_⟩|(refine Ar ?_;intro K U)|(refine AX ?_;intro I C G F)|(refine G _ _ ?_;clear F;clear C;clear G;clear I)|refine Bm ?_|(refine U _ _ ?_;clear U;clear K)|fail);conv=>whnf)
  refine GD hj hpl (fun p hp hjlt=>?_) fun hj=>?_
  ·have hpp:=ho _ p (DL hp)
   have hm:(FX (G9 w.parents (3+w.parents.length) c k) (c - k) ((par w.parents (c - k)).take (j+1)))=(FX (G9 w.parents (3+w.parents.length) c k) (c - k) ((par w.parents (c - k)).take j)).set p.toNat
    ((FX (G9 w.parents (3+w.parents.length) c k) (c - k) ((par w.parents (c - k)).take j)).getD p.toNat false||(FX (G9 w.parents (3+w.parents.length) c k) (c - k) ((par w.parents (c - k)).take j)).getD (c - k) false):=by
    rw[AR hp,Lf];rfl
   generalize hbs:FX (G9 w.parents (3+w.parents.length) c k) (c - k) ((par w.parents (c - k)).take j)=bs at *;have hlp:p.toNat<bs.length:=by omega
   have hlc:c - k<bs.length:=by omega
   conv=>whnf
   repeat((first|(refine Ar ?_;intro K U)|(refine AX ?_;intro I C G F)|refine Bt ?_|refine BT ?_|(refine U _ _ ?_;clear U;clear K)|fail);conv=>whnf)
   refine Im hp hpl rfl ?_
   conv=>whnf
   repeat((first|refine Bl ?_|(refine AX ?_;intro I C G F)|(refine G _ _ ?_;clear F;clear C;clear G;clear I)|(refine U _ _ ?_;clear U;clear K)|fail);conv=>whnf)
   refine dX hs 0 p.toNat rfl (by omega) (by simpa using hlp) ?_
   conv=>whnf
   refine Hv hs 0 rfl (Wk hlp) ?_
   conv=>whnf
   cases hb:bs.getD p.toNat false with
   | true=>
     rw[hb]at hm
     conv=>whnf
     repeat((first|refine Hz ?_|fail);conv=>whnf)
     refine dX hs 0 p.toNat rfl (by omega) (by simpa using hlp) ?_
     conv=>whnf
     refine LR hs 0 rfl (Wk hlp) rfl rfl rfl rfl rfl fun σ hs=>?_
     conv=>whnf
     repeat((first|refine⟨rfl,?_⟩|(refine AX ?_;intro I C G F)|(refine G _ _ ?_;clear F;clear C;clear G;clear I)|(refine U _ _ ?_;clear U;clear K)|(clear U;clear K));conv=>whnf)
     refine⟨hjlt,(),rfl,trivial,?_⟩;rw[hm,←VT];exact hs
   | false=>
     rw[hb]at hm
     conv=>whnf
     repeat((first|refine Gm ?_|fail);conv=>whnf)
     refine dX hs 0 (c - k) rfl (by rw[hd];omega) (by simpa using hlc) ?_
     conv=>whnf
     repeat((first|refine Gm ?_|fail);conv=>whnf)
     refine Hv hs 0 rfl (Wk hlc) ?_
     conv=>whnf
     refine dX hs 0 p.toNat rfl (by omega) (by simpa using hlp) ?_
     conv=>whnf
     refine LR hs 0 rfl (Wk hlp) rfl rfl rfl rfl rfl fun σ hs=>?_
     conv=>whnf
     repeat((first|refine⟨rfl,?_⟩|(refine AX ?_;intro I C G F)|(refine G _ _ ?_;clear F;clear C;clear G;clear I)|(refine U _ _ ?_;clear U;clear K)|(clear U;clear K));conv=>whnf)
     refine⟨hjlt,(),rfl,trivial,?_⟩;rw[hm,←VT];exact hs
  ·rw[A5 hj]at hs
   conv=>whnf
   repeat((first|refine⟨rfl,?_⟩|(refine AX ?_;intro I C G F)|(refine G _ _ ?_;clear F;clear C;clear G;clear I)|refine Ct ?_|(refine U _ _ ?_;clear U;clear K)|(clear U;clear K));conv=>whnf)
   refine⟨by omega,(),rfl,trivial,hs⟩
 ·rw[hd]at hlt
  conv=>whnf
  repeat((first|(refine Ar ?_;intro K U)|(refine AX ?_;intro I C G F)|(refine G _ _ ?_;clear F;clear C;clear G;clear I)|refine Ct ?_|refine DI ?_|(refine U _ _ ?_;clear U;clear K)|(clear U;clear K));conv=>whnf)
  have:k=c - 2:=by omega
  subst this;exact ER hs 0 rfl rfl
end Go.Gl
namespace Go.Gl
variable {P:Program} {σ σ':AH}
mutual
def E3:V→Prop
 | .i k n=>k.min≤n∧n≤k.max
 | .rp cs=>Hm cs
 | .l es _=>es.length≤Ak∧Sy es
 | .f _ a b=>Hm a∧Hm b
 | .E2 _ v=>E3 v
 | .a cs=>Hm cs
 | .t vs=>Hm vs
 | _=>True
def Hm:List V→Prop
 | []=>True
 | v::r=>E3 v∧Hm r
def Sy:List (List V)→Prop
 | []=>True
 | e::r=>Hm e∧Sy r
end
mutual
theorem pO {H:Nat→Nat→Option Value}: ∀(v:V) (c:Value),Af H v c→E3 v
 | .b _,_,_| .s _,_,_| .pn,_,_| .p _ _,_,_| .sl _ _ _,_,_| .sv _ _ _ _,_,_| .pe _ _ _ _,_,_| .m _,_,_| .mn,_,_| .HB,_,_| .Dp,_,_| .any,_,_=>by simp only[E3]
 | .i k n,_,h=>by
   simp only[Af]at h;simp only[E3];exact h.2
 | .rp cs,_,h=>by
   simp only[Af]at h;obtain⟨b,o,rfl,h⟩:=h;simp only[E3];exact Ix cs o h
 | .l es full,_,h=>by
   simp only[Af]at h;obtain⟨a,cap,h1,h2,h3,h4,h5,h6⟩:=h;simp only[E3];refine⟨h4,?_⟩;cases es with
   | nil=>exact trivial
   | cons e es=>
     obtain⟨b,o,sz,h7,h8⟩:=h6 (by simp);exact ah (e::es) o h8
 | .f fn first cap,_,h=>by
   simp only[Af]at h;obtain⟨f',c',h1,h2,h3,h4,h5⟩:=h;simp only[E3];exact⟨Ix first 0 h3,Ix cap 0 h5⟩
 | .E2 t v,_,h=>by
   simp only[Af]at h;obtain⟨c',h1,h2⟩:=h;simp only[E3];exact pO v c' h2
 | .a cs,_,h=>by
   simp only[Af]at h;obtain⟨c',h1,h2,h3⟩:=h;simp only[E3];exact Ix cs 0 h3
 | .t cs,_,h=>by
   simp only[Af]at h;obtain⟨c',h1,h2,h3⟩:=h;simp only[E3];exact Ix cs 0 h3
theorem Ix {H:Nat→Nat→Option Value} {g:Nat→Option Value}: ∀(vs:List V) (o:Nat),Bk H g o vs→Hm vs
 | [],_,_=>trivial
 | v::vs,o,h=>by
   simp only[Bk]at h;obtain⟨⟨c,h1,h2⟩,h3⟩:=h;exact⟨pO v c h2,Ix vs (o+1) h3⟩
theorem ah {H:Nat→Nat→Option Value} {g:Nat→Option Value} {sz:Nat}: ∀(es:List (List V)) (o:Nat),BR H g sz o es→Sy es
 | [],_,_=>trivial
 | e::es,o,h=>by
   simp only[BR]at h;obtain⟨h1,h2,h3⟩:=h;exact⟨Ix e o h2,ah es (o+sz) h3⟩
end
theorem Bj.fit {f:FuncId} {args:List V} {Q:R→AH→Prop} (hok:okF P f=true) (h:Hm args→Bj P f args σ Q):Bj P f args σ Q:=
 ⟨hok,fun Λ w cs G hv=>(h (Ix args 0 hv.2)).2 Λ w cs G hv⟩
theorem Pure.fit {f:FuncId} {args:List V} {v:V} (hok:okF P f=true) (h:Hm args→Pure P f args v):Pure P f args v:=Bj.fit hok h
theorem CL.fit {f:FuncId} {args:List V} {pre:List At} {Φ:R→List At→Prop} (hok:okF P f=true) (h:Hm args→CL P f args pre Φ):CL P f args pre Φ:=fun σ hs=>Bj.fit hok fun hf=>h hf σ hs
theorem cW {es:List (List V)}:Sy es↔ ∀e∈es,Hm e:=by
 induction es with
 | nil=>simp[Sy]
 | cons e r ih=>simp[Sy,ih]
theorem I2 {α:Type} {enc:α→List V} {xs:List α}:Sy (xs.map enc)↔ ∀x∈xs,Hm (enc x):=by
 rw[cW];simp
theorem Gz {es:List (List V)} {f:Bool}:E3 (.l es f)↔es.length≤Ak∧Sy es:=Iff.rfl
theorem G0 {cs:List V}:E3 (.a cs)↔Hm cs:=Iff.rfl
theorem SL {cs:List V}:E3 (.rp cs)↔Hm cs:=Iff.rfl
theorem Dm {v:V} {r:List V}:Hm (v::r)↔E3 v∧Hm r:=Iff.rfl
theorem drop_cons {α:Type} {xs:List α} {k:Nat} {x:α} (h:xs[k]? =some x):xs.drop k=x::xs.drop (k+1):=by
 obtain⟨hk,rfl⟩:=List.getElem?_eq_some_iff.1 h;exact List.drop_eq_getElem_cons hk
theorem Ax {α:Type} {xs:List α} {k:Nat} (h:k=xs.length):xs.drop k= []:=List.drop_of_length_le (by omega)
end Go.Gl
