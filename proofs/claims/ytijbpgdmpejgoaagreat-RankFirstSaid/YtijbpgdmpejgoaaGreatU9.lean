import Derived.Test.YtijbpgdmpejgoaaGreatU5
import Derived.Test.YtijbpgdmpejgoaaGreatU8
set_option linter.all false
set_option linter.defProp false
noncomputable section
namespace Go.Gl
open Go.Proofs
attribute [local irreducible] BJ A2 Ak AW AM Aj AV AX AN Ai AR AU A5 BF Sat Ad BD Al W
def pick (ls:List (List Int)):Option Int:=(ls.find? fun l=>match l with| []=>false|x::_=>free ls x).bind List.head?
def total (ls:List (List Int)):Nat:=(ls.map List.length).sum
def DM:Nat→List (List Int)→List Int→List Int×Bool
 | 0,ls,out=>(out,ls.all List.isEmpty)
 | n+1,ls,out=>match pick ls with
   | none=>(out,ls.all List.isEmpty)
   | some x=>DM n (ls.map fun l=>l.filter (· != x)) (out++[x])
def CM (ls:List (List Int)):List Int×Bool:=DM (total ls) ls []
def H4 {ls:List (List Int)} {x:Int} (h:pick ls=some x):total (ls.map fun l=>l.filter (· != x))<total ls:=by
 unfold pick at h;rw[Option.bind_eq_some_iff]at h;obtain⟨l,h1,h2⟩:=h;have hm:=List.mem_of_find?_eq_some h1;clear h1;cases l with
 | nil=>cases h2
 | cons y r=>
   simp only[List.head?_cons,IH]at h2;subst h2
   have hle: ∀ls:List (List Int),total (ls.map fun l=>l.filter (· != y))≤total ls:=fun ls=>by
    induction ls with
    | nil=>simp[total]
    | cons a bs ih=>
      have:=KD (· != y) a;simp only[total,E8,List.sum_cons]at *;omega
   induction ls with
   | nil=>cases hm
   | cons a bs ih=>
     rcases GB.1 hm with rfl|hm
     ·have h1:=hle bs
      have h2:=KD (· != y) r;simp only[total,E8,List.sum_cons]at *;have:((y::r).filter (· != y)).length≤r.length:=by simpa using h2
      simp only[KH];omega
     ·have h1:=ih hm
      have h2:=KD (· != y) a;simp only[total,E8,List.sum_cons]at *;omega
def LZ (ls:List (List Int)):Prop:=ls.length≤1000000∧ ∀l∈ls,l.length≤Af∧ ∀x∈l,0≤x
def LZ.filter {ls:List (List Int)} (h:LZ ls) (x:Int):LZ (ls.map fun l=>l.filter (· != x)):=by
 refine⟨by rw[BQ];exact h.1,fun l hl=>?_⟩;obtain⟨l',hl',rfl⟩:=Mk.1 hl;obtain⟨h1,h2⟩:=h.2 l' hl';exact⟨Nat.le_trans (KD _ _) h1,fun y hy=>h2 y (JV.1 hy).1⟩
def Dq (ls:List (List Int)) (k:Nat):Int:=((((ls.take k).find? fun l=>match l with| []=>false|x::_=>free ls x).bind List.head?).getD (-1))
def Tp : ∀ (n:Nat) (ls:List (List Int)) (out:List Int),total ls≤n→DM n ls out=DM (total ls) ls out:=by
 intro n
 induction n using Nat.strongRecOn with
 | _ n ih=>
   intro ls out hn;by_cases he:total ls=n
   ·rw[he]
   ·cases n with
    | zero=>omega
    | succ n=>
      cases hp:pick ls with
      | none=>
        cases ht:total ls with
        | zero=>simp[DM,hp]
        | succ m=>simp[DM,hp]
      | some x=>
        have h1:=H4 hp;cases ht:total ls with
        | zero=>omega
        | succ m=>
          simp only[DM,hp];rw[ih n (by omega) _ _ (by omega),ih m (by omega) _ _ (by omega)]
def Ma {ls:List (List Int)} {x:Int} {out:List Int} (hp:pick ls=some x):DM (total ls) ls out=DM (total (ls.map fun l=>l.filter (· != x))) (ls.map fun l=>l.filter (· != x)) (out++[x]):=by
 have h1:=H4 hp;cases ht:total ls with
 | zero=>omega
 | succ m=>
   simp only[DM,hp];exact Tp m _ _ (by omega)
def On {ls:List (List Int)} {out:List Int} (hp:pick ls=none):DM (total ls) ls out=(out,ls.all List.isEmpty):=by
 cases ht:total ls with
 | zero=>rfl
 | succ m=>simp only[DM,hp]
def FF (ls:List (List Int)) (l:List Int):Bool:=match l with| []=>false|x::_=>free ls x
def He (ls:List (List Int)) (k:Nat):Dq ls k=(((ls.take k).find? (FF ls)).bind List.head?).getD (-1):=rfl
def H6 {ls:List (List Int)} (hok:LZ ls) {k:Nat} (h:Dq ls k<0):(ls.take k).find? (FF ls)=none:=by
 rw[He]at h;cases hf:(ls.take k).find? (FF ls)with
 | none=>rfl
 | some l=>
   rw[hf]at h;have hm:=List.mem_of_mem_take (List.mem_of_find?_eq_some hf);have hg:=List.find?_some hf;cases l with
   | nil=>cases hg
   | cons x r=>
     have:=(hok.2 _ hm).2 x (.head _);simp at h;omega
def Tn {ls:List (List Int)} (hok:LZ ls) {k:Nat} (hk:k<ls.length) (h:Dq ls k<0):Dq ls (k+1)=if FF ls ls[k]then(ls[k].head?).getD (-1)else -1:=by
 rw[He,List.take_succ_eq_append_getElem hk,List.find?_append,H6 hok h];by_cases hg:FF ls ls[k]=true
 ·simp[hg]
 ·simp[hg]
def Oc {ls:List (List Int)} {k:Nat} (h:0≤Dq ls k):pick ls=some (Dq ls k):=by
 rw[He]at *;show((ls.find? (FF ls)).bind List.head?)=_;cases hf:(ls.take k).find? (FF ls)with
 | none=>rw[hf]at h;simp at h
 | some l=>
   have h1:ls.find? (FF ls)=some l:=by
    have:=List.take_append_drop k ls;rw[←this,List.find?_append,this,hf];rfl
   rw[h1];rw[hf]at h;cases l with
   | nil=>simp at h
   | cons x r=>simp
def I3 {ls:List (List Int)} (hok:LZ ls) {k:Nat} {l:List Int} (hl:ls[k]? =some l) (h:Dq ls k<0):Dq ls (k+1)=if FF ls l then(l.head?).getD (-1)else -1:=by
 obtain⟨hk,rfl⟩:=G7.1 hl;exact Tn hok hk h
def XS {ls:List (List Int)} {l:List Int} (h:l∈ls):l.length≤total ls:=by
 induction ls with
 | nil=>cases h
 | cons a r ih=>
   simp only[total,E8,List.sum_cons]at *;rcases GB.1 h with rfl|h
   ·omega
   ·have:=ih h;omega
def bH (ls:List (List Int)) (f:Bool) (hok:LZ ls) (ht:total ls<Af):Pure Tryz.prog 195 [.l (Ec ls) f] (.t [.l (iL (CM ls).1) false,.b (CM ls).2]):=by
 have hM:=Mx;refine lJ kZ ?_
 conv=>whnf
 repeat((first|(refine Aw ?_;intro K U)|(refine AZ ?_;intro I C G F)|(apply G;clear F C G I)|refine Bm ?_|refine Dh ?_|(apply U;clear U K)|fail);conv=>whnf)
 refine Fo (fun(x:List (List Int)×Bool×V×List Int)=>total x.1) (fun x=>[(0,.l (Ec x.1) x.2.1),(4,x.2.2.1)]) (fun x=>[.own x.2.2.1 1 (iL x.2.2.2)])
  (fun x=>LZ x.1∧x.2.2.2.length+total x.1≤total ls∧DM (total x.1) x.1 x.2.2.2=CM ls) (ls,f,.l [] true,[]) rfl ⟨hok,by simp,rfl⟩ (E9 Sat.nil 1) ?_
 rintro⟨ls',f',v,out⟩ σ ⟨hok',hlen,hm⟩ hs;dsimp only at hok' hlen hm hs;have hlm:ls'.length≤Af:=by have:=hok'.1;omega
 conv=>whnf
 repeat((first|(refine Aw ?_;intro K U)|(refine AZ ?_;intro I C G F)|(apply G;clear F C G I)|refine Bm ?_|refine Dh ?_|(apply U;clear U K)|fail);conv=>whnf)
 have hJ :=Pu U (fun(y:Int×Bool)=>[(5,.i .i64 y.1),(6,.b y.2)]) (fun _=>[.own v 1 (iL out)]) (fun y=>(0≤y.1∧pick ls'=some y.1)∨(y.1<0∧pick ls'=none∧y.2=ls'.any fun l=> !l.isEmpty))
  [(0,.l (Ec ls') f'),(4,v),(5,.pn),(6,.pn)] (by
  rintro⟨nx,lf⟩ σ hor hs;dsimp only at hor
  conv=>whnf
  repeat((first|refine⟨rfl,?_⟩|(refine Aw ?_;intro K U)|(refine AZ ?_;intro I C G F)|(apply G;clear F C G I)|refine By ?_|(apply U;clear U K)|fail);conv=>whnf)
  refine fork (fun hneg=>?_) (fun hneg=>?_)
  ·conv=>whnf
   repeat((first|(refine Aw ?_;intro K U)|(refine AZ ?_;intro I C G F)|(apply G;clear F C G I)|refine EC ?_|(apply U;clear U K)|(clear U K));conv=>whnf)
   rcases hor with⟨h0,_⟩|⟨_,hp,rfl⟩
   ·omega
   ·rw[On hp]at hm
    refine Bh ?_;rw[←hm];refine .t (.cons (hs.Pm 0 rfl) (.cons ?_ .nil));have:(!ls'.any fun l=> !l.isEmpty)=ls'.all List.isEmpty:=by simp[List.all_eq_not_any_not]
    rw[←this];exact .refl _
  ·conv=>whnf
   repeat((first|(refine Aw ?_;intro K U)|(refine AZ ?_;intro I C G F)|refine B1 ?_|(apply U;clear U K)|fail);conv=>whnf)
   rcases hor with⟨_,hp⟩|⟨h0,_⟩
   ·have hlt:=H4 hp
    refine Fv hs 0 (x:=nx) rfl (by omega) B0 fun v' σ hs=>?_
    conv=>whnf
    repeat((first|(refine Aw ?_;intro K U)|(refine AZ ?_;intro I C G F)|(apply G;clear F C G I)|refine Bm ?_|refine Dh ?_|(apply U;clear U K)|fail);conv=>whnf)
    refine B2 ls'.length (fun k u=>[(8,u),(9,eI (A4 k))]) (fun k u=>[.own v' 1 (iL (out++[nx])),.own u 1 (Ec ((ls'.take k).map fun l=>l.filter (· != nx)))]) (fun _ _=>True) (.l [] true) rfl trivial (E9 hs 1) ?_;rintro k u σ hk - hs
    conv=>whnf
    repeat((first|refine⟨rfl,?_⟩|refine FE ?_|(refine Aw ?_;intro K U)|(refine AZ ?_;intro I C G F)|(apply G;clear F C G I)|refine By ?_|(apply U;clear U K)|fail);conv=>whnf)
    refine GI hk hlm (fun l hl hlt'=>?_) fun hk=>?_
    ·conv=>whnf
     repeat((first|(refine Aw ?_;intro K U)|(refine AZ ?_;intro I C G F)|refine B1 ?_|refine Bm ?_|(apply U;clear U K)|fail);conv=>whnf)
     refine Il hl hlm rfl ?_
     conv=>whnf
     repeat((first|refine Bw ?_|fail);conv=>whnf)
     refine(OR _ _ _ (hok'.2 _ (B5 hl)).1).use ?_
     conv=>whnf
     refine Fv hs 1 (x:=l.filter (· != nx)) rfl (by have:=hok'.1;simp;omega) DH fun u' σ' hs'=>?_
     conv=>whnf
     repeat((first|refine⟨rfl,?_⟩|(refine AZ ?_;intro I C G F)|(apply G;clear F C G I)|(apply U;clear U K)|(clear U K));conv=>whnf)
     refine⟨hlt',u',rfl,trivial,?_⟩;rw[AO hl,R9];exact hs'
    ·rw[Ar hk]at hs
     conv=>whnf
     repeat((first|(refine AZ ?_;intro I C G F)|refine Di ?_|(apply U;clear U K)|(clear U K));conv=>whnf)
     refine gz hs 1 rfl fun σ' hs'=>?_
     conv=>whnf
     repeat((first|(apply G;clear F C G I)|fail);conv=>whnf)
     refine⟨(ls'.map fun l=>l.filter (· != nx),false,v',out++[nx]),hlt,rfl,⟨hok'.filter nx,by simp;omega,?_⟩,hs'⟩;rw[←Ma hp];exact hm
   ·omega)
 clear U
 ·refine B2 ls'.length (fun k (_:Unit)=>[(5,.i .i64 (Dq ls' k)),(6,.b ((ls'.take k).any fun l=> !l.isEmpty)),(7,eI (A4 k))]) (fun _ _=>[.own v 1 (iL out)]) (fun _ _=>True) () rfl trivial hs ?_
  rintro k - σ hk - hs
  conv=>whnf
  repeat((first|refine⟨rfl,?_⟩|refine FE ?_|(refine Aw ?_;intro K U)|(refine AZ ?_;intro I C G F)|fail);conv=>whnf)
  refine⟨fun h=>?_,fun h=>?_⟩<;>(try rw[h])
  ·have hlt:=of_decide_eq_true h
   rw[AL (by have:=hok'.1;omega)]at hlt;have hlt:=Zb hlt;have hl:=DJ hlt;have hb:=hok'.2 _ (List.getElem_mem hlt);generalize ls'[k]=l at *
   conv=>whnf
   repeat((first|refine⟨rfl,?_⟩|refine Lo ?_|(apply G;clear F C G I)|refine By ?_|(apply U;clear U K)|fail);conv=>whnf)
   refine fork (fun hneg=>?_) (fun hneg=>?_)
   ·conv=>whnf
    repeat((first|(refine Aw ?_;intro K U)|(refine AZ ?_;intro I C G F)|refine B1 ?_|refine Bm ?_|(apply U;clear U K)|fail);conv=>whnf)
    refine Il hl hlm rfl ?_
    conv=>whnf
    repeat((first|refine⟨rfl,?_⟩|refine Bw ?_|refine FE ?_|(apply G;clear F C G I)|refine By ?_|(apply U;clear U K)|fail);conv=>whnf)
    refine fork (fun hp=>?_) (fun hp=>?_)
    ·simp only[BQ]at hp
     obtain⟨x,r,rfl⟩: ∃x r,l=x::r:=by cases l with
      | nil=>simp at hp
      | cons x r=>exact⟨x,r,rfl⟩
     have hany:((ls'.take (k+1)).any fun l=> !l.isEmpty)=true:=by
      rw[AO hl];simp
     conv=>whnf
     repeat((first|(refine Aw ?_;intro K U)|(refine AZ ?_;intro I C G F)|(apply G;clear F C G I)|(apply U;clear U K)|fail);conv=>whnf)
     refine Il hl hlm rfl ?_
     conv=>whnf
     repeat((first|refine Bw ?_|fail);conv=>whnf)
     refine SR 0 rfl rfl rfl ?_
     conv=>whnf
     repeat((first|refine Bw ?_|fail);conv=>whnf)
     refine(eZ _ _ _ hlm fun l hl=>(hok'.2 l hl).1).use ?_
     conv=>whnf
     repeat((first|(apply G;clear F C G I)|refine By ?_|(apply U;clear U K)|fail);conv=>whnf)
     refine⟨fun hf=>?_,fun hf=>?_⟩
     ·conv=>whnf
      repeat((first|(refine AZ ?_;intro I C G F)|fail);conv=>whnf)
      refine Il hl hlm rfl ?_
      conv=>whnf
      repeat((first|refine Bw ?_|fail);conv=>whnf)
      refine SR 0 rfl rfl rfl ?_
      conv=>whnf
      repeat((first|refine⟨rfl,?_⟩|refine Bw ?_|(refine AZ ?_;intro I C G F)|(apply G;clear F C G I)|(apply U;clear U K)|fail);conv=>whnf)
      refine⟨hlt,(),?_,trivial,hs⟩;have:Dq ls' (k+1)=x:=by rw[I3 hok' hl hneg];simp[FF,hf]
      dsimp only;rw[this,hany];rfl
     ·conv=>whnf
      repeat((first|refine⟨rfl,?_⟩|(refine AZ ?_;intro I C G F)|(apply G;clear F C G I)|refine B1 ?_|(apply U;clear U K)|fail);conv=>whnf)
      refine⟨hlt,(),?_,trivial,hs⟩;have:Dq ls' (k+1)=Dq ls' k:=by rw[I3 hok' hl hneg,He ls' k,H6 hok' hneg];simp[FF,hf]
      dsimp only;rw[this,hany];rfl
    ·simp only[BQ]at hp
     obtain rfl:l= []:=Yq.1 (by omega)
     conv=>whnf
     repeat((first|refine⟨rfl,?_⟩|(refine AZ ?_;intro I C G F)|(apply G;clear F C G I)|refine B1 ?_|(apply U;clear U K)|fail);conv=>whnf)
     refine⟨hlt,(),?_,trivial,hs⟩;have:Dq ls' (k+1)=Dq ls' k:=by rw[I3 hok' hl hneg,He ls' k,H6 hok' hneg];simp[FF]
     have hany:((ls'.take (k+1)).any fun l=> !l.isEmpty)=((ls'.take k).any fun l=> !l.isEmpty):=by
      rw[AO hl,List.any_append];simp
     dsimp only;rw[this,hany];rfl
   ·conv=>whnf
    repeat((first|refine Di ?_|(clear U K));conv=>whnf)
    refine hJ (Dq ls' k,(ls'.take k).any fun l=> !l.isEmpty) _ _ rfl (.inl ⟨by omega,?_⟩) hs;exact Oc (by omega)
  ·have hlt:=of_decide_eq_false h
   rw[AL (by have:=hok'.1;omega)]at hlt;have hke:=Wq hk hlt
   conv=>whnf
   repeat((first|refine RN ?_|(apply G;clear F C G I)|refine By ?_|refine Di ?_|(apply U;clear U K)|(clear U K));conv=>whnf)
   refine hJ (Dq ls' k,(ls'.take k).any fun l=> !l.isEmpty) _ _ rfl ?_ hs;rw[Ar hke];by_cases h0:0≤Dq ls' k
   ·exact .inl ⟨h0,Oc h0⟩
   ·refine .inr ⟨by omega,?_,rfl⟩
    have:=H6 hok' (k:=k) (by omega);rw[Ar hke]at this;show((ls'.find? (FF ls')).bind List.head?)=none;rw[this];rfl
def D1 (g os:List (List Int)) (c:Int):List Int:=
 match EO g os c with
 | none=>[]
 | some l=>if(CM l).2 then [c]++(CM l).1++[0]else []
def Bl (g:List (List Int)):Nat→List (List Int)
 | 0=>[[0]]
 | k+1=>Bl g k++[D1 g (Bl g k) ((k:Int)+1)]
def CA (g:List (List Int)):List (List Int):=Bl g (2+g.length)
def IN (g:List (List Int)):Prop:=g.length≤16∧ ∀(i:Nat) (l:List Int),g[i]? =some l→l.length≤3∧l.Nodup∧ ∀c∈l,(3:Int)≤c∧c<3+(i:Int)
def Ci (g:List (List Int)): ∀k,(Bl g k).length=k+1
 | 0=>rfl
 | k+1=>by simp[Bl,Ci g k]
def H7: ∀(n:Nat) (ls:List (List Int)) (out:List Int),(DM n ls out).1.length≤out.length+n
 | 0,ls,out=>by simp[DM]
 | n + 1,ls,out=>by
   simp only[DM];split
   ·simp
   ·rename_i x _
    have:=H7 n (ls.map fun l=>l.filter (· != x)) (out++[x]);simp only[PK,List.length_singleton]at this;refine Nat.le_trans this ?_;omega
def Tm {ls:List (List Int)} (h: ∀l∈ls,∀x∈l,(0:Int)≤x) {x:Int} (hp:pick ls=some x):0≤x:=by
 unfold pick at hp;rw[Option.bind_eq_some_iff]at hp;obtain⟨l,h1,h2⟩:=hp;have hm:=List.mem_of_find?_eq_some h1;cases l with
 | nil=>cases h2
 | cons y r=>cases h2;exact h _ hm _ (.head _)
def Je: ∀(n:Nat) (ls:List (List Int)) (out:List Int),(∀l∈ls,∀x∈l,(0:Int)≤x)→(∀x∈out,(0:Int)≤x)→ ∀x∈(DM n ls out).1,(0:Int)≤x
 | 0,ls,out,_,h2=>h2
 | n + 1,ls,out,h1,h2=>by
   simp only[DM];split
   ·exact h2
   ·rename_i y hy
    refine Je n _ _ (fun l hl x hx=>?_) fun x hx=>?_
    ·obtain⟨l',hl',rfl⟩:=Mk.1 hl
     exact h1 _ hl' _ (JV.1 hx).1
    ·rcases Fs.1 hx with hx|hx
     ·exact h2 x hx
     ·rw[LV.1 hx];exact Tm h1 hy
def DX {g:List (List Int)} (hg:IN g) {c p:Int} (hp:p∈A3 g c):3≤p∧p<c:=by
 unfold A3 at hp;split at hp
 ·cases hp
 ·rename_i hc
  rw[DY]at hp;cases hq:g[(c - 3).toNat]? with
  | none=>rw[hq]at hp;cases hp
  | some l=>
    rw[hq]at hp;obtain⟨_,_,h⟩:=hg.2 _ _ hq;have:=h p hp;omega
def C6 {g:List (List Int)} (hg:IN g) (c:Int):(A3 g c).length≤3:=by
 unfold A3;split
 ·simp
 ·rw[DY]
  cases hq:g[(c - 3).toNat]? with
  | none=>simp
  | some l=>exact(hg.2 _ _ hq).1
def Gq {g os:List (List Int)} {c:Int} {ls:List (List Int)} (h:EO g os c=some ls):ls=(A3 g c).map (fun p=>(os.getD p.toNat []).filter (· != 0))++[A3 g c]:=by
 unfold EO at h;split at h
 ·cases h
 ·exact(Option.some.inj h).symm
def TN {os:List (List Int)} {B:Nat} (h: ∀o∈os,o.length≤B) (n:Nat):(os.getD n []).length≤B:=by
 rw[DY];cases hq:os[n]? with
 | none=>simp
 | some l=>exact h _ (B5 hq)
def OA {os:List (List Int)} {Q:Int→Prop} (h: ∀o∈os,∀x∈o,Q x) (n:Nat): ∀x∈os.getD n [],Q x:=by
 rw[DY];cases hq:os[n]? with
 | none=>simp
 | some l=>exact h _ (B5 hq)
def FV {g os:List (List Int)} {c:Int} {ls:List (List Int)} (h:EO g os c=some ls) {B:Nat} (Z: ∀o∈os,o.length≤B):total ls≤(A3 g c).length*(B+1):=by
 rw[Gq h];simp only[total,R9,List.map_map,List.sum_append,E8,List.map_nil,List.sum_cons,List.sum_nil,Nat.add_zero]
 have: ∀ps:List Int,(ps.map (List.length∘fun p=>(os.getD p.toNat []).filter (· != 0))).sum≤ps.length*B:=fun ps=>by
  induction ps with
  | nil=>simp
  | cons p r ih=>
    simp only[E8,List.sum_cons,Function.comp,KH,Nat.succ_mul];have h1:=KD (· != 0) (os.getD p.toNat []);have h2:=TN Z p.toNat;simp only[Function.comp_def]at *;omega
 have:=this (A3 g c);rw[Nat.mul_add,Nat.mul_one];simp only[Function.comp_def]at *;omega
def To {g os:List (List Int)} {c:Int} {B:Nat} (Z: ∀o∈os,o.length≤B):(D1 g os c).length≤(A3 g c).length*(B+1)+2:=by
 unfold D1;split
 ·simp
 ·rename_i ls h
  have h1:=FV h Z;have h2:=H7 (total ls) ls [];simp only[List.length_nil,HA]at h2;split
  ·simp only[PK,List.length_singleton,CM]
   omega
  ·simp
def PG {g os:List (List Int)} {c:Int} (hg:IN g) (hc:0≤c) (h: ∀o∈os,∀x∈o,(0:Int)≤x): ∀x∈D1 g os c,0≤x:=by
 unfold D1;split
 ·simp
 ·rename_i ls hl
  split
  ·intro x hx
   have hls: ∀l∈ls,∀x∈l,(0:Int)≤x:=by
    rw[Gq hl];intro l hl x hx;rcases Fs.1 hl with hl|hl
    ·obtain⟨p,_,rfl⟩:=Mk.1 hl
     exact OA h p.toNat x (JV.1 hx).1
    ·rw[LV.1 hl]at hx
     have:=DX hg hx;omega
   simp only[Fs,LV]at hx;rcases hx with(rfl|hx)|rfl
   ·exact hc
   ·exact Je _ _ _ hls (by simp) x hx
   ·exact Int.le_refl _
  ·simp
def Ik (k:Nat):Nat:=5*3 ^ (k - 3) - 3
def iV (n:Nat):1≤3 ^ n:=Nat.one_le_pow _ _ (by omega)
def IE {g : List (List Int)} (hg:IN g): ∀(k:Nat),∀o∈Bl g k,o.length≤Ik k∧ ∀x∈o,(0:Int)≤x
 | 0,o,ho=>by
   simp only[Bl,LV]at ho;subst ho;simp[Ik]
 | k + 1,o,ho=>by
   have ih:=IE hg k
   have hmono:Ik k≤Ik (k+1):=by
    unfold Ik;have:3 ^ (k - 3)≤3 ^ (k+1 - 3):=Nat.pow_le_pow_right (by omega) (by omega);omega
   simp only[Bl,Fs,LV]at ho;rcases ho with ho|rfl
   ·exact⟨Nat.le_trans (ih o ho).1 hmono,(ih o ho).2⟩
   ·refine⟨?_,PG hg (by omega) fun o ho=>(ih o ho).2⟩
    have h1:=To (g:=g) (c:=(k:Int)+1) fun o ho=>(ih o ho).1
    by_cases hk:k<3
    ·have:A3 g ((k:Int)+1)= []:=by
      apply List.eq_nil_iff_forall_not_mem.2;intro p hp;have:=DX hg hp;omega
     rw[this]at h1
     have:Ik (k+1)=2:=by
      have:k+1 - 3=0:=by omega
      simp[Ik,this]
     simpa[this]using h1
    ·have h2:=C6 hg ((k:Int)+1)
     have h3:(A3 g ((k:Int)+1)).length*(Ik k+1)≤3*(Ik k+1):=SA _ h2;have:k+1 - 3=(k - 3)+1:=by omega
     unfold Ik at *;rw[this,Nat.pow_succ];have:=iV (k - 3);omega
def Wz {k:Nat} (h:k≤18):Ik k≤71744535:=by
 unfold Ik;have:3 ^ (k - 3)≤3 ^ 15:=Nat.pow_le_pow_right (by omega) (by omega);have e:(3:Nat) ^ 15=14348907:=by decide
 omega
def E4 {g:List (List Int)}: ∀ {k j:Nat},j≤k→(Bl g k)[j]? =(Bl g j)[j]?
 | 0,j,h=>by(obtain rfl:j=0:=by omega);rfl
 | k+1,j,h=>by
   by_cases e:j=k+1
   ·subst e;rfl
   ·rw[←E4 (k:=k) (by omega),Bl,gW (by rw[Ci];omega)]
def U4 {g os:List (List Int)} {c:Int} {ls:List (List Int)} (hg:IN g) (h:EO g os c=some ls) {B:Nat} (Z: ∀o∈os,o.length≤B∧ ∀x∈o,(0:Int)≤x) (hb:B≤100000000):LZ ls∧total ls<Af:=by
 have h3:=C6 hg c;have ht:=FV h fun o ho=>(Z o ho).1
 have:(A3 g c).length*(B+1)≤3*(B+1):=SA _ h3;have htl:total ls<Af:=by simp only[Af];omega
 refine⟨⟨?_,fun l hl=>⟨?_,?_⟩⟩,htl⟩
 ·rw[Gq h]
  simp only[PK,BQ,List.length_singleton,Af];omega
 ·have:=XS hl
  simp only[Af]at *;omega
 ·intro x hx
  rw[Gq h]at hl;rcases Fs.1 hl with hl|hl
  ·obtain⟨p,_,rfl⟩:=Mk.1 hl
   exact OA (fun o ho=>(Z o ho).2) p.toNat x (JV.1 hx).1
  ·rw[LV.1 hl]at hx
   have:=DX hg hx;omega
def Xp (g : List (List Int)) (f:Bool) (hg:IN g):Pure Tryz.prog 155 [.l (Ec g) f] (.l (Ec (CA g)) false):=by
 refine mD kZ ?_
 conv=>whnf
 repeat((first|(refine Aw ?_;intro K U)|(refine AZ ?_;intro I C G F)|(apply G;clear F C G I)|(apply U;clear U K)|fail);conv=>whnf)
 have hg16:=hg.1;have hgm:g.length≤Af:=by simp only[Af];omega
 refine⟨.l (Ec [[0]]) true,emp,fun _ _ h=>h,.l (fun _=>rfl) (.cons (.cons (.l (fun h=>(by cases h)) (.refl _ _ _)) .nil) .nil),?_⟩
 conv=>whnf
 repeat((first|(refine Aw ?_;intro K U)|(refine AZ ?_;intro I C G F)|(apply G;clear F C G I)|refine Bm ?_|refine Dh ?_|(apply U;clear U K)|fail);conv=>whnf)
 refine B2 (2+g.length) (fun k v=>[(3,v),(4,eI (KQ 1 k))]) (fun k v=>[.own v 1 (Ec (Bl g k))]) (fun _ _=>True) (.l (Ec [[0]]) true) rfl trivial (c8 Sat.nil (by simp)) ?_;rintro k v σ hk - hs;have hc1:KQ 1 k=(k:Int)+1:=by rw[NL (by omega) (by omega)];omega
 have hw:IntKind.i64.wrap (3+((Ec g).length:Nat))=3+(g.length:Int):=by rw[BQ,wrap64 (by omega) (by omega)]
 conv=>whnf
 repeat((first|refine⟨rfl,?_⟩|refine FE ?_|(refine Aw ?_;intro K U)|(refine AZ ?_;intro I C G F)|(apply G;clear F C G I)|refine By ?_|(apply U;clear U K)|fail);conv=>whnf)
 rw[hc1];rw[hw];refine fork (fun hlt=>?_) (fun hlt=>?_)
 ·have hlt':k<2+g.length:=by omega
  have Z:=IE hg k;have hb18:Ik k≤71744535:=Wz (by omega);have hc2:KQ 1 (k+1)=IntKind.i64.wrap ((k:Int)+1+1):=by rw[KQ,hc1]
  conv=>whnf
  repeat((first|(refine Aw ?_;intro K U)|(refine AZ ?_;intro I C G F)|refine B1 ?_|refine Bm ?_|(apply U;clear U K)|fail);conv=>whnf)
  refine⟨.l (iL []) false,σ,fun _ _ h=>h,.l (fun h=>(by cases h)) (.refl _ _ _),?_⟩
  conv=>whnf
  repeat((first|(refine Aw ?_;intro K U)|(refine AZ ?_;intro I C G F)|(apply G;clear F C G I)|(apply U;clear U K)|fail);conv=>whnf)
  refine(bJ g (Bl g k) f v ((k:Int)+1) (by omega) hgm (fun o ho=>by have:=(Z o ho).1;simp only[Af];omega) (by have:=C6 hg ((k:Int)+1);omega)
   (fun p hp=>by have:=DX hg hp;rw[Ci];omega)).use (rest:=[]) hs ?_
  rintro r post σ' ⟨rfl,rfl⟩ hs;cases hl:EO g (Bl g k) ((k:Int)+1)with
  | none=>
    conv=>whnf
    repeat((first|refine RN ?_|(refine Aw ?_;intro K U)|(refine AZ ?_;intro I C G F)|(apply G;clear F C G I)|refine By ?_|refine B1 ?_|(apply U;clear U K)|fail);conv=>whnf)
    refine Fv hs 0 (x:=[]) rfl (by rw[Ci];simp only[Af];omega) DH fun v' σ' hs'=>?_
    conv=>whnf
    refine⟨v',σ',fun _ _ h=>h,.refl _,?_⟩
    conv=>whnf
    repeat((first|refine⟨rfl,?_⟩|(refine AZ ?_;intro I C G F)|(apply G;clear F C G I)|(apply U;clear U K)|(clear U K));conv=>whnf)
    refine⟨hlt',v',?_,trivial,?_⟩
    ·skip
     rw[hc2];rfl
    ·have:D1 g (Bl g k) ((k:Int)+1)= []:=by simp[D1,hl,]
     rw[Bl,this];exact hs'
  | some ls=>
    obtain⟨hok,htot⟩:=U4 hg hl Z (by omega)
    conv=>whnf
    repeat((first|refine Lo ?_|(refine Aw ?_;intro K U)|(refine AZ ?_;intro I C G F)|(apply G;clear F C G I)|refine By ?_|(apply U;clear U K)|fail);conv=>whnf)
    refine(bH ls false hok htot).use ?_;have hml:=H7 (total ls) ls [];simp only[List.length_nil,HA]at hml
    conv=>whnf
    repeat((first|(refine Aw ?_;intro K U)|(refine AZ ?_;intro I C G F)|(apply G;clear F C G I)|refine By ?_|(apply U;clear U K)|fail);conv=>whnf)
    refine⟨fun h=>?_,fun h=>?_⟩<;>(try rw[h])
    ·conv=>whnf
     repeat((first|(refine AZ ?_;intro I C G F)|fail);conv=>whnf)
     refine Is (c8 hs (by simp)) 1 (xs:=[(k:Int)+1]) rfl (by simp[CM];have:=FV hl fun o ho=>(Z o ho).1;have h3:=C6 hg ((k:Int)+1);have:(A3 g ((k:Int)+1)).length*(Ik k+1)≤3*(Ik k+1):=SA _ h3;simp only[Af]at *;omega) B0 fun u σ1 hs=>?_
     conv=>whnf
     refine Fv hs 1 (x:=0) rfl (by simp[CM];have:=FV hl fun o ho=>(Z o ho).1;have h3:=C6 hg ((k:Int)+1);have:(A3 g ((k:Int)+1)).length*(Ik k+1)≤3*(Ik k+1):=SA _ h3;simp only[Af]at *;omega) B0 fun u σ1 hs=>?_
     conv=>whnf
     refine gz hs 1 rfl fun σ' hs=>?_
     conv=>whnf
     repeat((first|(refine AZ ?_;intro I C G F)|(apply G;clear F C G I)|(apply U;clear U K)|fail);conv=>whnf)
     refine Fv hs 0 (x:=([(k:Int)+1]++(CM ls).1++[0])) rfl (by rw[Ci];simp only[Af];omega) DH fun v' σ' hs'=>?_
     conv=>whnf
     refine⟨v',σ',fun _ _ h=>h,.refl _,?_⟩
     conv=>whnf
     repeat((first|refine⟨rfl,?_⟩|(refine AZ ?_;intro I C G F)|(apply G;clear F C G I)|(apply U;clear U K)|(clear U K));conv=>whnf)
     refine⟨hlt',v',?_,trivial,?_⟩
     ·skip
      rw[hc2];rfl
     ·have:D1 g (Bl g k) ((k:Int)+1)=([(k:Int)+1]++(CM ls).1++[0]):=by simp[D1,hl,h]
      rw[Bl,this];exact hs'
    ·conv=>whnf
     repeat((first|(refine AZ ?_;intro I C G F)|refine B1 ?_|(apply U;clear U K)|fail);conv=>whnf)
     refine Fv hs 0 (x:=[]) rfl (by rw[Ci];simp only[Af];omega) DH fun v' σ' hs'=>?_
     conv=>whnf
     refine⟨v',σ',fun _ _ h=>h,.refl _,?_⟩
     conv=>whnf
     repeat((first|refine⟨rfl,?_⟩|(refine AZ ?_;intro I C G F)|(apply G;clear F C G I)|(apply U;clear U K)|(clear U K));conv=>whnf)
     refine⟨hlt',v',?_,trivial,?_⟩
     ·skip
      rw[hc2];rfl
     ·have:D1 g (Bl g k) ((k:Int)+1)= []:=by simp[D1,hl,h]
      rw[Bl,this];exact hs'
 ·conv=>whnf
  repeat((first|(refine Aw ?_;intro K U)|(refine AZ ?_;intro I C G F)|(apply G;clear F C G I)|refine Di ?_|refine EC ?_|(apply U;clear U K)|(clear U K));conv=>whnf)
  have hke:k=2+g.length:=by omega
  subst hke;exact EM hs 0 rfl rfl
end Go.Gl
namespace Go.Gl
def par (ps:List (List Int)) (c:Nat):List Int:=if c<3 then []else ps.getD (c - 3) []
def ordered (ps:List (List Int)):Prop:= ∀c p,p∈par ps c→3≤p∧p<(c:Int)
def Yr (ps:List (List Int)):Nat→Nat→Nat→Bool
 | 0,c,b=>c==b
 | f+1,c,b=>c==b||(par ps c).any fun p=>Yr ps f p.toNat b
def JR (ps:List (List Int)) (c b:Nat):Bool:=Yr ps c c b
def Jx {ps:List (List Int)} (ho:ordered ps): ∀(f c b:Nat),c≤f→Yr ps f c b=JR ps c b
 | 0,c,b,h=>by(obtain rfl:c=0:=by omega);rfl
 | f + 1,c,b,h=>by
   cases c with
   | zero=>
     have:par ps 0= []:=rfl;simp[JR,Yr,this]
   | succ c=>
     simp only[JR,Yr];congr 1
     have key: ∀l:List Int,(∀p∈l,p∈par ps (c+1))→(l.any fun p=>Yr ps f p.toNat b)=l.any fun p=>Yr ps c p.toNat b:=by
      intro l hl
      induction l with
      | nil=>rfl
      | cons p r ih=>
        have hp:=ho (c+1) p (hl p (.head _));simp only[Qw];rw[ih fun q hq=>hl q (.tail _ hq),Jx ho f p.toNat b (by omega),Jx ho c p.toNat b (by omega)]
     exact key _ fun p hp=>hp
def Et {ps:List (List Int)} (ho:ordered ps) (c b:Nat):JR ps c b=(c==b||(par ps c).any fun p=>JR ps p.toNat b):=by
 cases c with
 | zero=>simp[JR,Yr,par]
 | succ c=>
   simp only[JR,Yr];congr 1
   have key: ∀l:List Int,(∀p∈l,p∈par ps (c+1))→(l.any fun p=>Yr ps c p.toNat b)=l.any fun p=>Yr ps p.toNat p.toNat b:=by
    intro l hl
    induction l with
    | nil=>rfl
    | cons p r ih=>
      have hp:=ho (c+1) p (hl p (.head _));simp only[Qw];rw[ih fun q hq=>hl q (.tail _ hq),Jx ho c p.toNat b (by omega)];rfl
   exact key _ fun p hp=>hp
def Fh {ps:List (List Int)} (ho:ordered ps) (c:Nat):JR ps c c=true:=by rw[Et ho];simp
def ZP {ps:List (List Int)} (ho:ordered ps): ∀(c b:Nat),JR ps c b=true→b≤c:=by
 intro c
 induction c using Nat.strongRecOn with
 | _ c ih=>
   intro b h;rw[Et ho]at h;simp only[Fq,Dx,JU]at h;rcases h with rfl|⟨p,hp,h⟩
   ·omega
   ·have:=ho c p hp
    have:=ih p.toNat (by omega) b h;omega
def Ls {ps:List (List Int)} (ho:ordered ps): ∀(a b c:Nat),JR ps a b=true→JR ps b c=true→JR ps a c=true:=by
 intro a
 induction a using Nat.strongRecOn with
 | _ a ih=>
   intro b c h k;rw[Et ho]at h ⊢;simp only[Fq,Dx,JU]at h ⊢;rcases h with rfl|⟨p,hp,h⟩
   ·rw[Et ho]at k
    simpa using k
   ·have:=ho a p hp
    exact .inr ⟨p,hp,ih p.toNat (by omega) b c h k⟩
def Fc (bs:List Bool) (i:Nat):List Int→List Bool
 | []=>bs
 | p::r=>Fc (bs.set p.toNat (bs.getD p.toNat false||bs.getD i false)) i r
def LJ (i:Nat): ∀(a b:List Int) (bs:List Bool),Fc bs i (a++b)=Fc (Fc bs i a) i b
 | [],b,bs=>rfl
 | p::r,b,bs=>by simp only[List.cons_append,Fc];exact LJ i r b _
def L4 (i:Nat): ∀(l:List Int) (bs:List Bool),(Fc bs i l).length=bs.length
 | [],bs=>rfl
 | p::r,bs=>by simp only[Fc];rw[L4 i r];simp
def HB (ps:List (List Int)) (n c:Nat):Nat→List Bool
 | 0=>(List.replicate n false).set c true
 | k+1=>Fc (HB ps n c k) (c - k) (par ps (c - k))
def Kf (ps:List (List Int)) (n c:Nat): ∀k,(HB ps n c k).length=n
 | 0=>by simp[HB]
 | k+1=>by simp only[HB];rw[L4,Kf ps n c k]
def E2 {bs:List Bool} {j:Nat} {x:Bool} (hj:j<bs.length) (b:Nat):(bs.set j x).getD b false=if b=j then x else bs.getD b false:=by
 simp only[DY,List.getElem?_set];by_cases h:j=b
 ·subst h;simp[hj]
 ·rw[if_neg h,if_neg (fun e=>h e.symm)]
def L5 {i:Nat}: ∀(l:List Int) (bs:List Bool),(∀p∈l,0≤p∧p.toNat<bs.length∧p.toNat<i)→ ∀b,(Fc bs i l).getD b false=(bs.getD b false||(bs.getD i false&&l.contains (b:Int)))
 | [],bs,_,b=>by simp[Fc]
 | p ::r,bs,h,b=>by
   obtain⟨h1,h2,h3⟩:=h p (.head _);simp only[Fc];have hi:i≠p.toNat:=by omega
   rw[L5 r _ (fun q hq=>by have:=h q (.tail _ hq);simpa using this),E2 h2,E2 h2,if_neg hi];by_cases hb:b=p.toNat
   ·subst hb
    have:((p.toNat:Nat):Int)=p:=by omega
    simp only[if_true,this,List.contains_cons,beq_self_eq_true,Bool.true_or,Bool.and_true];cases bs.getD p.toNat false<;>cases bs.getD i false<;>simp
   ·rw[if_neg hb]
    have:((b:Int)==p)=false:=by simp;omega
    simp only[List.contains_cons,this,Bool.false_or]
def Su {ps:List (List Int)} (ho:ordered ps) {n c:Nat} (hc:c<n): ∀k,k≤c - 2→(∀b,(HB ps n c k).getD b false=true→JR ps c b=true)∧(HB ps n c k).getD c false=true∧
    (∀j p,c - k<j→(HB ps n c k).getD j false=true→p∈par ps j→(HB ps n c k).getD p.toNat false=true)
 | 0,_=>by
   have hg: ∀b,(HB ps n c 0).getD b false=decide (b=c):=fun b=>by
    simp only[HB];rw[E2 (by simpa using hc)];by_cases h:b=c
    ·simp[h]
    ·rw[if_neg h]
     simp[h,DY,List.getElem?_replicate];split<;>rfl
   refine⟨fun b hb=>?_,by rw[hg];simp,fun j p hj hb hp=>?_⟩
   ·rw[hg]at hb
    simp only[Ce]at hb;subst hb;exact Fh ho _
   ·rw[hg]at hb
    simp only[Ce]at hb;omega
 | k + 1,hk=>by
   obtain⟨h1,h2,h3⟩:=Su ho hc k (by omega)
   have hpar: ∀p∈par ps (c - k),0≤p∧p.toNat<(HB ps n c k).length∧p.toNat<c - k:=fun p hp=>by
    have:=ho _ p hp;rw[Kf];omega
   have hg: ∀b,(HB ps n c (k+1)).getD b false=((HB ps n c k).getD b false||((HB ps n c k).getD (c - k) false&&(par ps (c - k)).contains (b:Int))):=fun b=>by
    simp only[HB];exact L5 _ _ hpar b
   refine⟨fun b hb=>?_,by rw[hg,h2];rfl,fun j p hj hb hp=>?_⟩
   ·rw[hg]at hb
    simp only[Fq,BY,List.contains_iff_mem]at hb;rcases hb with hb|⟨hb,hm⟩
    ·exact h1 b hb
    ·refine Ls ho c (c - k) b (h1 _ hb) ?_
     rw[Et ho];simp only[Fq,JU];exact .inr ⟨b,hm,by simpa using Fh ho b⟩
   ·have hjp:=ho j p hp
    have hb':(HB ps n c k).getD j false=true:=by
     rw[hg]at hb;simp only[Fq,BY,List.contains_iff_mem]at hb;rcases hb with hb|⟨_,hm⟩
     ·exact hb
     ·have:=ho _ _ hm
      omega
    rw[hg];by_cases e:j=c - k
    ·subst e
     rw[hb'];have:((p.toNat:Nat):Int)=p:=by omega
     simp only[this,E7,Fq,List.contains_iff_mem];exact .inr hp
    ·rw[h3 j p (by omega) hb' hp]
     rfl
def V2 {ps:List (List Int)} (ho:ordered ps) {n c:Nat} (hc:c<n) (b:Nat):(HB ps n c (c - 2)).getD b false=JR ps c b:=by
 obtain⟨h1,h2,h3⟩:=Su ho hc (c - 2) (JT _)
 have key: ∀a,(HB ps n c (c - 2)).getD a false=true→ ∀b,JR ps a b=true→(HB ps n c (c - 2)).getD b false=true:=by
  intro a
  induction a using Nat.strongRecOn with
  | _ a ih=>
    intro ha b hb;rw[Et ho]at hb;simp only[Fq,Dx,JU]at hb;rcases hb with rfl|⟨p,hp,hb⟩
    ·exact ha
    ·have:=ho a p hp
     exact ih p.toNat (by omega) (h3 a p (by omega) ha hp) b hb
 cases hb:JR ps c b with
 | true=>exact key c h2 b hb
 | false=>
   cases hq:(HB ps n c (c - 2)).getD b false with
   | false=>rfl
   | true=>rw[h1 b hq]at hb;cases hb
end Go.Gl
namespace Go.Gl
open Go.Proofs
attribute [local irreducible] BJ A2 Ak AW AM Aj AV AX AN Ai AR AU A5 BF Sat Ad BD Al W
def jM (g:List (List Int)) (f:Bool) (c:Int) (hg:IN g) (h0:0≤c) (h1:c<3+g.length):Pure Tryz.prog 124 [.l (Ec g) f,eI c] (.t [.l (iL ((CA g).getD c.toNat [])) false,.b (!((CA g).getD c.toNat []).isEmpty)]):=by
 refine mj kZ ?_
 conv=>whnf
 repeat((first|(refine Aw ?_;intro K U)|(refine AZ ?_;intro I C G F)|(apply G;clear F C G I)|(apply U;clear U K)|fail);conv=>whnf)
 refine(Xp g f hg).use ?_
 conv=>whnf
 have hlen:=Ci g (2+g.length);have hlt:c.toNat<(CA g).length:=by unfold CA;omega
 have hq:=DJ hlt;refine SR c.toNat hq (by omega) rfl ?_
 conv=>whnf
 repeat((first|refine⟨rfl,?_⟩|refine Bw ?_|refine FE ?_|(refine Aw ?_;intro K U)|(refine AZ ?_;intro I C G F)|(apply G;clear F C G I)|refine EC ?_|(apply U;clear U K)|fail);conv=>whnf)
 refine AI ?_;rw[DY,hq,Option.getD_some];cases(CA g)[c.toNat]with
 | nil=>rfl
 | cons _ _=>simp
def ue (w:AK):Prop:=w.parents.length≤1000∧(∀l∈w.parents,l.length≤Af)∧w.owner.length≤Af
def ZU {ps:List (List Int)} {c:Nat} (h3:3≤c) (hc:c<3+ps.length):ps[c - 3]? =some (par ps c):=by
 unfold par;rw[if_neg (by omega),DY,DJ (by omega)];rfl
def Vy {bs:List Bool} {j:Nat} (h:j<bs.length):(bL bs)[j]? =some [.b (bs.getD j false)]:=by
 rw[Pc,DY,DJ h];rfl
def Uf (bs:List Bool) (j:Nat) (x:Bool):(bL bs).set j [.b x]=bL (bs.set j x):=by
 simp[bL,List.map_set]
def oe (w : AK) (c:Nat) (hw:ue w) (ho:ordered w.parents) (hc:c<3+w.parents.length):Pure Tryz.prog 153 [.a (BE w),eI c] (.l (bL (HB w.parents (3+w.parents.length) c (c - 2))) false):=by
 obtain⟨hw1,hw2,hw3⟩:=hw;have hmL:3+w.parents.length≤Af:=by simp only[Af];omega
 refine mF kZ ?_
 conv=>whnf
 repeat((first|refine⟨rfl,?_⟩|refine Bw ?_|refine FE ?_|(refine Aw ?_;intro K U)|(refine AZ ?_;intro I C G F)|(apply G;clear F C G I)|(apply U;clear U K)|fail);conv=>whnf)
 rw[show IntKind.i64.wrap (3+((Ec w.parents).length:Nat))=((3+w.parents.length:Nat):Int) by rw[BQ,wrap64 (by omega) (by omega)];omega];refine uZ Sat.nil (by omega) fun v σ hs hv=>?_
 obtain⟨id,rfl⟩:=hv
 conv=>whnf
 repeat((first|(refine Aw ?_;intro K U)|(refine AZ ?_;intro I C G F)|(apply G;clear F C G I)|(apply U;clear U K)|fail);conv=>whnf)
 refine cS hs 0 c rfl rfl (by simpa using hc) ?_
 conv=>whnf
 refine K1 hs 0 rfl (e:=[.b false]) (by simp[hc]) rfl rfl rfl rfl rfl fun σ hs=>?_
 have e0:(List.replicate (3+w.parents.length) [V.b false]).set c [V.b true]=bL (HB w.parents (3+w.parents.length) c 0):=by
  simp only[HB];rw[←Uf];simp[bL]
 conv=>whnf
 repeat((first|(refine Aw ?_;intro K U)|(refine AZ ?_;intro I C G F)|(apply G;clear F C G I)|refine Bm ?_|refine Dh ?_|(apply U;clear U K)|fail);conv=>whnf)
 refine B2 (c - 2) (fun k (_:Unit)=>[(6,eI (Mn c k))]) (fun k _=>[.own (.sl id (3+w.parents.length) (3+w.parents.length)) 1 (bL (HB w.parents (3+w.parents.length) c k))]) (fun _ _=>True) () rfl trivial (e0 ▸ hs) ?_;rintro k - σ hk - hs;have hd:Mn c k=(c:Int) - k:=Ro (by omega) (by omega);have hul:=Kf w.parents (3+w.parents.length) c k
 conv=>whnf
 repeat((first|refine⟨rfl,?_⟩|(refine Aw ?_;intro K U)|(refine AZ ?_;intro I C G F)|(apply G;clear F C G I)|refine By ?_|(apply U;clear U K)|fail);conv=>whnf)
 refine fork (fun hlt=>?_) (fun hlt=>?_)
 ·rw [hd]at hlt
  have h3:3≤c - k:=by omega
  have hpar:=ZU (ps:=w.parents) h3 (by omega);have hpl:=hw2 _ (B5 hpar)
  conv=>whnf
  repeat((first|refine⟨rfl,?_⟩|refine Bw ?_|(refine Aw ?_;intro K U)|(refine AZ ?_;intro I C G F)|refine B1 ?_|refine Bm ?_|(apply U;clear U K)|fail);conv=>whnf)
  refine SR (c - k - 3) hpar (by rw[hd,wrap64 (by omega) (by omega)];omega) rfl ?_
  conv=>whnf
  repeat((first|refine Bw ?_|refine FE ?_|(apply G;clear F C G I)|refine Bm ?_|refine Dh ?_|(apply U;clear U K)|fail);conv=>whnf)
  refine B2 (par w.parents (c - k)).length (fun j (_:Unit)=>[(29,eI (A4 j))]) (fun j _=>[.own (.sl id (3+w.parents.length) (3+w.parents.length)) 1 (bL (Fc (HB w.parents (3+w.parents.length) c k) (c - k) ((par w.parents (c - k)).take j)))]) (fun _ _=>True) () rfl trivial hs ?_;rintro j - σ hj - hs;have hml:=L4 (c - k) ((par w.parents (c - k)).take j) (HB w.parents (3+w.parents.length) c k)
  conv=>whnf
  repeat((first|refine⟨rfl,?_⟩|(refine Aw ?_;intro K U)|(refine AZ ?_;intro I C G F)|(apply G;clear F C G I)|refine By ?_|(apply U;clear U K)|fail);conv=>whnf)
  refine GI hj hpl (fun p hp hjlt=>?_) fun hj=>?_
  ·have hpp:=ho _ p (B5 hp)
   have hm:(Fc (HB w.parents (3+w.parents.length) c k) (c - k) ((par w.parents (c - k)).take (j+1)))=(Fc (HB w.parents (3+w.parents.length) c k) (c - k) ((par w.parents (c - k)).take j)).set p.toNat
    ((Fc (HB w.parents (3+w.parents.length) c k) (c - k) ((par w.parents (c - k)).take j)).getD p.toNat false||(Fc (HB w.parents (3+w.parents.length) c k) (c - k) ((par w.parents (c - k)).take j)).getD (c - k) false):=by
    rw[AO hp,LJ];rfl
   generalize hbs:Fc (HB w.parents (3+w.parents.length) c k) (c - k) ((par w.parents (c - k)).take j)=bs at *;have hlp:p.toNat<bs.length:=by omega
   have hlc:c - k<bs.length:=by omega
   conv=>whnf
   repeat((first|(refine Aw ?_;intro K U)|(refine AZ ?_;intro I C G F)|refine B1 ?_|refine Bm ?_|(apply U;clear U K)|fail);conv=>whnf)
   refine Il hp hpl rfl ?_
   conv=>whnf
   repeat((first|refine Bw ?_|(refine AZ ?_;intro I C G F)|(apply G;clear F C G I)|(apply U;clear U K)|fail);conv=>whnf)
   refine cS hs 0 p.toNat rfl (by omega) (by simpa using hlp) ?_
   conv=>whnf
   refine Hz hs 0 rfl (Vy hlp) ?_
   conv=>whnf
   cases hb:bs.getD p.toNat false with
   | true=>
     rw[hb]at hm
     conv=>whnf
     repeat((first|refine W5 ?_|fail);conv=>whnf)
     refine cS hs 0 p.toNat rfl (by omega) (by simpa using hlp) ?_
     conv=>whnf
     refine K1 hs 0 rfl (Vy hlp) rfl rfl rfl rfl rfl fun σ hs=>?_
     conv=>whnf
     repeat((first|refine⟨rfl,?_⟩|(refine AZ ?_;intro I C G F)|(apply G;clear F C G I)|(apply U;clear U K)|(clear U K));conv=>whnf)
     refine⟨hjlt,(),rfl,trivial,?_⟩;rw[hm,←Uf];exact hs
   | false=>
     rw[hb]at hm
     conv=>whnf
     repeat((first|refine Rs ?_|fail);conv=>whnf)
     refine cS hs 0 (c - k) rfl (by rw[hd];omega) (by simpa using hlc) ?_
     conv=>whnf
     repeat((first|refine Rs ?_|fail);conv=>whnf)
     refine Hz hs 0 rfl (Vy hlc) ?_
     conv=>whnf
     refine cS hs 0 p.toNat rfl (by omega) (by simpa using hlp) ?_
     conv=>whnf
     refine K1 hs 0 rfl (Vy hlp) rfl rfl rfl rfl rfl fun σ hs=>?_
     conv=>whnf
     repeat((first|refine⟨rfl,?_⟩|(refine AZ ?_;intro I C G F)|(apply G;clear F C G I)|(apply U;clear U K)|(clear U K));conv=>whnf)
     refine⟨hjlt,(),rfl,trivial,?_⟩;rw[hm,←Uf];exact hs
  ·rw[Ar hj]at hs
   conv=>whnf
   repeat((first|refine⟨rfl,?_⟩|(refine AZ ?_;intro I C G F)|(apply G;clear F C G I)|refine Di ?_|(apply U;clear U K)|(clear U K));conv=>whnf)
   refine⟨by omega,(),rfl,trivial,hs⟩
 ·rw[hd]at hlt
  conv=>whnf
  repeat((first|(refine Aw ?_;intro K U)|(refine AZ ?_;intro I C G F)|(apply G;clear F C G I)|refine Di ?_|refine EC ?_|(apply U;clear U K)|(clear U K));conv=>whnf)
  have:k=c - 2:=by omega
  subst this;exact EM hs 0 rfl rfl
end Go.Gl
namespace Go.Gl
variable {P:Program} {σ σ':AH}
mutual
def FA:V→Prop
 | .i k n=>k.min≤n∧n≤k.max
 | .rp cs=>Hn cs
 | .l es _=>es.length≤Af∧SN es
 | .f _ a b=>Hn a∧Hn b
 | .KJ _ v=>FA v
 | .a cs=>Hn cs
 | .t vs=>Hn vs
 | _=>True
def Hn:List V→Prop
 | []=>True
 | v::r=>FA v∧Hn r
def SN:List (List V)→Prop
 | []=>True
 | e::r=>Hn e∧SN r
end
mutual
def gA {H:Nat→Nat→Option Value}: ∀(v:V) (c:Value),Ae H v c→FA v
 | .b _,_,_| .s _,_,_| .pn,_,_| .p _ _,_,_| .sl _ _ _,_,_| .sv _ _ _ _,_,_| .pe _ _ _ _,_,_| .m _,_,_| .mn,_,_| .NS,_,_| .Ie,_,_| .any,_,_=>by simp only[FA]
 | .i k n,_,h=>by
   simp only[Ae]at h;simp only[FA];exact h.2
 | .rp cs,_,h=>by
   simp only[Ae]at h;obtain⟨b,o,rfl,h⟩:=h;simp only[FA];exact Iz cs o h
 | .l es full,_,h=>by
   simp only[Ae]at h;obtain⟨a,cap,h1,h2,h3,h4,h5,h6⟩:=h;simp only[FA];refine⟨h4,?_⟩;cases es with
   | nil=>exact trivial
   | cons e es=>
     obtain⟨b,o,sz,h7,h8⟩:=h6 (by simp);exact Zm (e::es) o h8
 | .f fn first cap,_,h=>by
   simp only[Ae]at h;obtain⟨f',c',h1,h2,h3,h4,h5⟩:=h;simp only[FA];exact⟨Iz first 0 h3,Iz cap 0 h5⟩
 | .KJ t v,_,h=>by
   simp only[Ae]at h;obtain⟨c',h1,h2⟩:=h;simp only[FA];exact gA v c' h2
 | .a cs,_,h=>by
   simp only[Ae]at h;obtain⟨c',h1,h2,h3⟩:=h;simp only[FA];exact Iz cs 0 h3
 | .t cs,_,h=>by
   simp only[Ae]at h;obtain⟨c',h1,h2,h3⟩:=h;simp only[FA];exact Iz cs 0 h3
def Iz {H:Nat→Nat→Option Value} {g:Nat→Option Value}: ∀(vs:List V) (o:Nat),Be H g o vs→Hn vs
 | [],_,_=>trivial
 | v::vs,o,h=>by
   simp only[Be]at h;obtain⟨⟨c,h1,h2⟩,h3⟩:=h;exact⟨gA v c h2,Iz vs (o+1) h3⟩
def Zm {H:Nat→Nat→Option Value} {g:Nat→Option Value} {sz:Nat}: ∀(es:List (List V)) (o:Nat),BT H g sz o es→SN es
 | [],_,_=>trivial
 | e::es,o,h=>by
   simp only[BT]at h;obtain⟨h1,h2,h3⟩:=h;exact⟨Iz e o h2,Zm es (o+sz) h3⟩
end
def BJ.fit {f:FuncId} {args:List V} {Q:R→AH→Prop} (hok:okF P f=true) (h:Hn args→BJ P f args σ Q):BJ P f args σ Q:=
 ⟨hok,fun Λ w cs G hv=>(h (Iz args 0 hv.2)).2 Λ w cs G hv⟩
def Pure.fit {f:FuncId} {args:List V} {v:V} (hok:okF P f=true) (h:Hn args→Pure P f args v):Pure P f args v:=BJ.fit hok h
def Bk.fit {f:FuncId} {args:List V} {pre:List At} {Φ:R→List At→Prop} (hok:okF P f=true) (h:Hn args→Bk P f args pre Φ):Bk P f args pre Φ:=fun σ hs=>BJ.fit hok fun hf=>h hf σ hs
def bb {es:List (List V)}:SN es↔ ∀e∈es,Hn e:=by
 induction es with
 | nil=>simp[SN]
 | cons e r ih=>simp[SN,ih]
def I2 {α:Type} {enc:α→List V} {xs:List α}:SN (xs.map enc)↔ ∀x∈xs,Hn (enc x):=by
 rw[bb];simp
def Ev {es:List (List V)} {f:Bool}:FA (.l es f)↔es.length≤Af∧SN es:=Iff.rfl
def G0 {cs:List V}:FA (.a cs)↔Hn cs:=Iff.rfl
def Rn {cs:List V}:FA (.rp cs)↔Hn cs:=Iff.rfl
def DW {v:V} {r:List V}:Hn (v::r)↔FA v∧Hn r:=Iff.rfl
def drop_cons {α:Type} {xs:List α} {k:Nat} {x:α} (h:xs[k]? =some x):xs.drop k=x::xs.drop (k+1):=by
 obtain⟨hk,rfl⟩:=G7.1 h;exact List.drop_eq_getElem_cons hk
def Ah {α:Type} {xs:List α} {k:Nat} (h:k=xs.length):xs.drop k= []:=List.drop_of_length_le (by omega)
end Go.Gl
namespace Go.Gl
variable {P:Program} {σ:AH} {env:Env}
class SI (AD:Prop) (G':outParam Prop):Prop where
 h:G'→AD
def st {AD G':Prop} [i:SI AD G'] (h:G'):AD:=i.h h
def sq {l:List Nat} {a b:AJ} {Q:Ao→Env→AH→Prop} (h: ∀K:Env→AH→Prop,(∀env σ,(pk l env fun E=>W P b Q E σ)→K env σ)→W P a (Ao.andThen K Q) env σ):W P (.seq l a b) Q env σ:=Aw h
class ub (AD:Prop) (G':outParam Prop):Prop where
 h:G'→AD
def si {AD G':Prop} [i:ub AD G'] (h:G'):AD:=i.h h
instance {ops:List Ag} {Q:Ao→Env→AH→Prop}:ub (W P (.Ax ops) Q env σ) (∀(I:Env→AH→Prop) (C:Env→V→AH→Prop),(∀env σ,Q .normal env σ→I env σ)→(∀env v σ,Q (.C2 v) env σ→C env v σ)→WT P ops I C env σ):=⟨AZ⟩
instance {l:List Nat} {ops:List DD} {Q:Ao→Env→AH→Prop}:ub (W P (.BX l ops) Q env σ) (∀(I:Env→AH→Prop) (C:V→AH→Prop),(∀env σ,(pk l env fun E=>Q .normal E σ)→I env σ)→(∀v σ,(∀σ',Sub σ σ'→Q (.C2 v) [] σ')→C v σ)→WD P ops I C env σ):=⟨fU⟩
instance {c:CL} {a b:AJ} {Q:Ao→Env→AH→Prop}:SI (W P (.cond c a b) Q env σ) (match ev env c with
 | some (.b t)=>(t=true→W P a Q env σ)∧(t=false→W P b Q env σ)
 | _=>False):=⟨By⟩
instance {id:Nat} {a:AJ} {Q:Ao→Env→AH→Prop}:SI (W P (.block id a) Q env σ) (W P a (Ao.inBlock id Q) env σ):=⟨Bm⟩
instance {l:List Nat} {a:AJ} {Q:Ao→Env→AH→Prop}:SI (W P (.loop l a) Q env σ) (pk l env fun E=>Al l a (W P a) Q E σ):=⟨Dh⟩
instance {id:Nat} {Q:Ao→Env→AH→Prop}:SI (W P (.exit id) Q env σ) (Q (.exit id) env σ):=⟨Di⟩
instance {Q:Ao→Env→AH→Prop}:SI (W P .ret Q env σ) (Q .ret env σ):=⟨EC⟩
instance {Q:Ao→Env→AH→Prop}:SI (W P .skip Q env σ) (Q .normal env σ):=⟨B1⟩
instance {a:AJ} {Q:Ao→Env→AH→Prop}:SI (W P (.scope a) Q env σ) (W P a Q env σ):=⟨cJ⟩
instance {l:List Nat} {g:CL} {ps:List Nat} {a b:AJ} {Q:Ao→Env→AH→Prop}:SI (W P (.Da l g ps a b) Q env σ) (match ev env g with
 | some (.f (.func gf) [] cap)=>pk l env fun E=> ∀L,σ L=none→BJ P gf (.f (.yield L) [] []::cap) (BA σ L (.loop .ready E (B8 P ps a b))) (Jw L Q env)
 | _=>False):=⟨cK⟩
instance {A B:Prop}:SI ((true=true→A)∧(true=false→B)) A:=⟨Lo⟩
instance {A B:Prop}:SI ((false=true→A)∧(false=false→B)) B:=⟨RN⟩
instance {A B:Prop}:SI ((false=false→A)∧(false=true→B)) A:=⟨Rs⟩
instance {A B:Prop}:SI ((true=false→A)∧(true=true→B)) B:=⟨W5⟩
instance {A B:Prop} {b:Bool}:SI ((b=true→A)∧(b= !true→B)) ((b=true→A)∧(b=false→B)):=⟨id⟩
instance {A B:Prop} {b:Bool}:SI ((b=false→A)∧(b= !false→B)) ((b=false→A)∧(b=true→B)):=⟨id⟩
instance {agg:Option Nat} {cs:List V} {K:V→Prop}:SI (Ad σ agg (.rp cs) K) (cut agg cs 0 K):=⟨fun h=>h⟩
instance {es:List (List V)} {f:Bool} {K:V→Prop}:SI (BD (.l es f) K) (K (.i .i64 es.length)):=⟨FE⟩
def kc {K A:Env→AH→Prop} (h:A env σ) (hk: ∀env σ,A env σ→K env σ:=by assumption):K env σ:=hk _ _ h
def kp {K A:Env→V→AH→Prop} {v:V} (h:A env v σ) (hk: ∀env v σ,A env v σ→K env v σ:=by assumption):K env v σ:=hk _ _ _ h
def rk {x:Ag} {r:List Ag} {A:Prop} (h1:HQ P x env σ) (h2:Ew P r env σ∧A):Ew P (x::r) env σ∧A:=⟨⟨h1,h2.1⟩,h2.2⟩
def dr {A:Prop} (h:A):Ew P [] env σ∧A:=⟨trivial,h⟩
class BP (b v:Bool) (p:outParam Prop):Prop where
 h:b=v→p
def bp {b v:Bool} {p:Prop} [i:BP b v p] (h:b=v):p:=i.h h
instance (priority:=low) {b v:Bool}:BP b v (b=v):=⟨id⟩
instance (priority:=mid) {p:Prop} [Decidable p]:BP (decide p) true p:=⟨of_decide_eq_true⟩
instance (priority:=mid) {p:Prop} [Decidable p]:BP (decide p) false (¬p):=⟨of_decide_eq_false⟩
instance {a b:Int}:BP (decide (a<b)) false (b≤a):=⟨fun h=>Int.not_lt.1 (of_decide_eq_false h)⟩
instance {a b:Int}:BP (decide (a≤b)) false (b<a):=⟨fun h=>Int.not_le.1 (of_decide_eq_false h)⟩
instance {a b:Int}:BP (a==b) true (a=b):=⟨fun h=>by simpa using h⟩
instance {a b:Int}:BP (a==b) false (a≠b):=⟨fun h=>by simpa using h⟩
instance {a b:Int}:BP (a != b) true (a≠b):=⟨fun h=>by simpa using h⟩
instance {a b:Int}:BP (a != b) false (a=b):=⟨fun h=>by simpa using h⟩
instance {b:Bool} {p:Prop} [i:BP b false p]:BP (!b) true p:=⟨fun h=>i.h (by simpa using h)⟩
instance {b:Bool} {p:Prop} [i:BP b true p]:BP (!b) false p:=⟨fun h=>i.h (by simpa using h)⟩
instance {b x v:Bool} {p:Prop} [i:BP b v p]:BP (bif false then x else b) v p:=⟨i.h⟩
instance {b x v:Bool} {p:Prop} [i:BP b v p]:BP (bif true then b else x) v p:=⟨i.h⟩
def fc {α:Type} {enc:α→List V} {xs:List α} {k:Nat} {A B:Prop} (h1: ∀x,xs[k]? =some x→k<xs.length→decide (A4 k<((xs.map enc).length:Nat))=true→A) (h2:k=xs.length→decide (A4 k<((xs.map enc).length:Nat))=false→B) (hk:k≤xs.length:=by assumption) (hm:xs.length≤Af:=by first|assumption|omega|simp[Af]<;>omega) :
    (decide (A4 k<((xs.map enc).length:Nat))=true→A)∧(decide (A4 k<((xs.map enc).length:Nat))=false→B):=
 ⟨fun h=>(GI (enc:=enc) (A:=A) (B:=True) hk hm (fun x hx hlt=>h1 x hx hlt h) fun _=>trivial).1 h,fun h=>(GI (enc:=enc) (A:=True) (B:=B) hk hm (fun _ _ _=>trivial) fun he=>h2 he h).2 h⟩
def ix {α:Type} {enc:α→List V} {xs:List α} {f:Bool} {sz:Nat} {K:V→Prop} {ki:IntKind} {k:Nat} {x:α} (h:K (.rp (enc x))) (hx:xs[k]? =some x:=by assumption) (hm:xs.length≤Af:=by first|assumption|omega|simp[Af]<;>omega) (hs:(enc x).length=sz:=by first|rfl|simp) :
    AW sz none (.l (xs.map enc) f) (.i ki (A4 k)) K:=Il hx hm hs h
def iq {α:Type} {enc:α→List V} {xs:List α} {f:Bool} {sz:Nat} {K:V→Prop} {ki:IntKind} {j:Int} (h: ∀x,xs[j.toNat]? =some x→K (.rp (enc x))) (h0:0≤j:=by omega) (h1:j<xs.length:=by omega) (hs: ∀x,(enc x).length=sz:=by intro x;first|rfl|simp|(rw[Bd];rfl)) :
    AW sz none (.l (xs.map enc) f) (.i ki j) K:=by
 have hlt:j.toNat<xs.length:=by omega
 exact SR j.toNat (DJ hlt) (by omega) (hs _) (h _ (DJ hlt))
def uU {α:Type} {enc:α→List V} {xs:List α} {f:Bool} {sz:Nat} {ki:IntKind} {k:Nat} {K:V→AH→Prop} (h:K (.l ((xs.take k).map enc) (f&&decide ((k:Int)=((xs.map enc).length:Nat)))) σ) (hl:k≤xs.length:=by first|assumption|omega) (hm:xs.length≤Af:=by first|assumption|omega) (hs: ∀x,(enc x).length=sz:=by intro x;first|rfl|simp|(rw[Bd];rfl)) :
    AV σ sz (.l (xs.map enc) f) none (some (.i ki (A4 k))) none K:=by
 rw[AL (by omega)];refine⟨fun e he=>?_,?_⟩
 ·obtain⟨x,_,rfl⟩:=Mk.1 he
  exact hs x
 ·simp only[M0,BQ]
  refine⟨by omega,by omega,by omega,?_⟩;rw[KF];simpa[List.map_take]using h
def Mz {xs:List Fact} {f:Bool} {K:V→Prop} {ki:IntKind} {k:Nat} {x:Fact} (h:K (.rp (xF x))) (hx:xs[k]? =some x:=by assumption) (hm:xs.length≤Af:=by first|assumption|omega):AW 6 none (.l (xs.map Fx) f) (.i ki (A4 k)) K:=by
 refine Il hx hm (by rw[Bd];rfl) ?_;rw[Bd];exact h
def Pk {a0:At} {l:List At}:(a0::l)[0]? =some a0:=rfl
def Pj {a0 a1:At} {l:List At}:(a0::a1::l)[1]? =some a1:=rfl
def Ph {a0 a1 a2:At} {l:List At}:(a0::a1::a2::l)[2]? =some a2:=rfl
def Pg {a0 a1 a2 a3:At} {l:List At}:(a0::a1::a2::a3::l)[3]? =some a3:=rfl
def Pf {a0 a1 a2 a3 a4:At} {l:List At}:(a0::a1::a2::a3::a4::l)[4]? =some a4:=rfl
def Pe {a0 a1 a2 a3 a4 a5:At} {l:List At}:(a0::a1::a2::a3::a4::a5::l)[5]? =some a5:=rfl
def ld {l:List At} {i n off:Nat} {agg:Option Nat} {vs:List V} {K:V→Prop} (hk:cut agg vs off K) (h:Sat σ l:=by assumption)
    (hi:l[i]? =some (.box n vs):=by first|exact Pk|exact Pj|exact Ph|exact Pg|exact Pf|exact Pe):Ad σ agg (.p n off) K:=Se h i hi hk
def s1 {l:List At} {i n off:Nat} {vs:List V} {x:V} {K:AH→Prop} (hk: ∀σ',Sat σ' (l.set i (.box n (vs.set off x)))→K σ') (h:Sat σ l:=by assumption)
    (hi:l[i]? =some (.box n vs):=by first|exact Pk|exact Pj|exact Ph|exact Pg|exact Pf|exact Pe)
    (h1:DZ x=true:=by first|rfl|exact HD (by assumption) 0 rfl|exact HD (by assumption) 1 rfl|exact HD (by assumption) 2 rfl|exact HD (by assumption) 3 rfl|simp) (ho:off+1≤vs.length:=by exact Nat.le_of_ble_eq_true rfl):AX σ 1 (.p n off) x K:=
 Kh h i hi h1 ho hk
def sn {l:List At} {i n off sz:Nat} {vs vc:List V} {x:V} {K:AH→Prop} (hk: ∀σ',Sat σ' (l.set i (.box n (putAt vs off vc)))→K σ') (h:Sat σ l:=by assumption)
    (hi:l[i]? =some (.box n vs):=by first|exact Pk|exact Pj|exact Ph|exact Pg|exact Pf|exact Pe)
    (hc:cellsOf x=some vc:=by rfl) (hl:vc.length=sz:=by rfl) (h1:vc.all DZ=true:=by first|rfl|simp) (ho:off+sz≤vs.length:=by exact Nat.le_of_ble_eq_true rfl):AX σ sz (.p n off) x K:=
 Iy h i hi hc hl h1 ho hk
def Js:Eg (fun f:Fact=>Fx f) 6:=fun f=>by
 simp only[Bd];refine⟨rfl,fun v hv=>?_⟩;simp only[GB,List.not_mem_nil,or_false]at hv;rcases hv with rfl|rfl|rfl|rfl|rfl|rfl<;>rfl
def Ki:Eg (fun l:List Fact=>[V.l (facts l) false]) 1:=fun x=>⟨rfl,fun v hv=>by simp at hv;subst hv;rfl⟩
def af {α:Type} {enc:α→List V} {sz:Nat} {ys:List α} {g:Bool} {K:V→Prop} (hk:K (.l (ys.map enc) false)) (hg:Eg enc sz:=by first|exact B0|exact DH|exact NH|exact Js|exact Ki) {b:Nat} (hl:ys.length≤Af∧ys.length*b≤140737488355328:=by first|assumption|omega) :
    Aj b σ sz (.l [] true) (.l (ys.map enc) g) K:=Zk hg hl hk
def al {l:List At} {o:O} {n:Nat} {K:Prop} {σ':AH} (e:BA σ n o=σ') (hk:Sat σ' (l++[.obj n o])→K) (hn:σ n=none:=by assumption) (h:Sat σ l:=by assumption):K:=hk (e ▸ Y1 h hn)
def oi {l:List At} {i:Nat} {v:V} {sz:Nat} {es:List (List V)} {ki:IntKind} {j:Int} {K:V→Prop} (hk:K (Fw v sz j.toNat)) (h:Sat σ l:=by assumption)
    (hi:l[i]? =some (.own v sz es):=by first|exact Pk|exact Pj|exact Ph|exact Pg|exact Pf|exact Pe) (h0:0≤j:=by omega) (h1:j<es.length:=by first|omega|(simp only[BQ]at *;omega)):AW sz none v (.i ki j) K:=
 cS h i j.toNat hi (by omega) (by omega) hk
def oc {l:List At} {i:Nat} {v:V} {sz k:Nat} {es:List (List V)} {ki:IntKind} {K:V→Prop} (hk:K (Fw v sz k)) (h:Sat σ l:=by assumption)
    (hi:l[i]? =some (.own v sz es):=by first|exact Pk|exact Pj|exact Ph|exact Pg|exact Pf|exact Pe) (h1:k<es.length:=by first|omega|(simp only[BQ]at *;omega)) (hm:k≤Af:=by first|omega|(simp only[Af];omega)):AW sz none v (.i ki (A4 k)) K:=
 cS h i k hi (AL (by omega)) h1 hk
def ol {α:Type} {enc:α→List V} {xs:List α} {l:List At} {i:Nat} {v:V} {sz k:Nat} {agg:Option Nat} {K:V→Prop} (hk: ∀x,xs[k]? =some x→cut agg (enc x) 0 K) (h:Sat σ l:=by assumption)
    (hi:l[i]? =some (.own v sz (xs.map enc)):=by first|exact Pk|exact Pj|exact Ph|exact Pg|exact Pf|exact Pe) (h1:k<xs.length:=by first|omega|(simp only[BQ]at *;omega)):Ad σ agg (Fw v sz k) K:=
 Hz h i hi (by rw[Pc,DJ h1];rfl) (hk _ (DJ h1))
def oset {α:Type} {enc:α→List V} {xs:List α} {y:α} {l:List At} {i:Nat} {v x:V} {sz k:Nat} {vc:List V} {K:AH→Prop} (hk: ∀σ',Sat σ' (l.set i (.own v sz ((xs.set k y).map enc)))→K σ') (h:Sat σ l:=by assumption)
    (hi:l[i]? =some (.own v sz (xs.map enc)):=by first|exact Pk|exact Pj|exact Ph|exact Pg|exact Pf|exact Pe) (hc:cellsOf x=some vc:=by rfl) (he:vc=enc y:=by rfl) (hg:Eg enc sz:=by first|exact B0|exact DH|exact NH|exact Js|exact Ki)
    (hv:(B7 v).isSome=true:=by assumption) (h1:k<xs.length:=by first|omega|(simp only[BQ]at *;omega)):AX σ sz (Fw v sz k) x K:=by
 subst he;refine K1 h i hi (by rw[Pc,DJ h1];rfl) hc (hg y).1 (EN.2 fun v hv=>(hg y).2 v hv) (hg _).1 hv fun σ' hs=>hk σ' ?_
 rw[List.map_set];exact hs
def GO {b sz:Nat} {v:V} {e:List V} {f:Bool} {K:V→AH→Prop} (h:AM b σ sz v (.l [e] f) fun v' σ'=>(B7 v').isSome=true→K v' σ'):AM b σ sz v (.l [e] f) K:=by
 obtain⟨h1,h2,h3⟩:=h;refine⟨h1,h2,?_⟩;cases v with
 | l es full=>exact⟨h3.1,h3.2.1,fun e=>(by cases e),fun e=>⟨(h3.2.2.2 e).1,fun n cap hn hc=>(h3.2.2.2 e).2 n cap hn hc rfl⟩⟩
 | sl n len cap=>
   simp only at h3 ⊢;split at h3
   ·exact⟨h3.1,h3.2.1,h3.2.2.1,h3.2.2.2.1,fun n' cap' hn hc=>h3.2.2.2.2 n' cap' hn hc rfl⟩
   ·exact h3.elim
 | _=>exact h3.elim
def aq {l:List At} {i:Nat} {α:Type} {enc:α→List V} {sz:Nat} {xs:List α} {x:α} {v:V} {f:Bool} {e:List V} {K:V→AH→Prop} (hk: ∀v' σ',Sat σ' (l.set i (.own v' sz ((xs++[x]).map enc)))→(B7 v').isSome=true→K v' σ') (h:Sat σ l:=by assumption)
    (hi:l[i]? =some (.own v sz (xs.map enc)):=by first|exact Pk|exact Pj|exact Ph|exact Pg|exact Pf|exact Pe)
    (he:e=enc x:=by rfl) (hg:Eg enc sz:=by first|exact B0|exact DH|exact NH|exact Js|exact Ki)
    {b:Nat} (hl:xs.length<Af∧(xs.length+1)*b≤140737488355328:=by first|assumption|omega|(simp only[PK,BQ,KH,List.length_nil,KG,nZ,List.length_replicate,Af]at *;omega)):AM b σ sz v (.l [e] f) K:=
 GO (Fv h i hi hl hg hk he)
end Go.Gl
namespace Go.Gl
open Go.Proofs
attribute [local irreducible] BJ A2 Ak AW AM Aj AV AX AN Ai AR AU A5 BF Sat Ad BD Al W
def Sf {w:AK} (h:FA (.a (BE w))):w.parents.length≤Af∧(∀l∈w.parents,l.length≤Af)∧w.owner.length≤Af:=by
 simp only[BE,G0,DW,Ev,I2,BQ]at h;exact⟨h.1.1,fun l hl=>(h.1.2 l hl).1.1,h.2.1.1⟩
def Jb {xs:List Int} {g:Bool} (h:FA (.l (iL xs) g)):xs.length≤Af:=by
 simp only[Ev,BQ]at h;exact h.1
def IQ {f:Fact} (h:FA (.a (xF f))):f.kids.length≤Af∧f.path.length≤Af∧ ∀k∈f.kids,FA (.a (xF k)):=by
 simp only[G0,DW,Ev,I2,BQ]at h;exact⟨h.2.2.2.2.2.1.1,h.2.2.1.1,fun k hk=>by have:=h.2.2.2.2.2.1.2 k hk;rw[Bd]at this;exact this⟩
def NT (w:AK) (c:Int):Bool:=decide (0≤c)&&decide (c<3+w.parents.length)
def bu (w:AK) (c:Int):Pure Tryz.prog 157 [.a (BE w),eI c] (.b (NT w c)):=by
 refine Pure.fit (by kernel_rfl) fun hf=>?_
 have⟨h1,h2,h3⟩:=Sf hf.1;have hM:=Mx;refine mB kZ ?_
 conv=>whnf
 repeat'((first|apply st|(apply sq;intro K U)|(apply si;intro A B Y Z)|(apply Y;clear Z B Y A)|(apply U;clear U K)|refine⟨rfl,?_⟩|(constructor<;>intro hc<;>(try rw[hc])<;>(replace hc:=bp hc))|fail)<;>conv=>whnf)
 ·exact AI (by rw[BQ,wrap64 (by omega) (by omega)];simp[NT,hc])
 ·exact AI (by simp[NT,hc];intros;omega)
def HM (w:AK) (s:Int):Bool:=decide (0≤s)&&decide (s<w.owner.length)
def Es (w:AK) (p:List Int):Bool:=p.all (HM w)&&decide (p.length≤2)
def de (w:AK) (p:List Int) (g:Bool):Pure Tryz.prog 158 [.a (BE w),.l (iL p) g] (.b (Es w p)):=by
 refine Pure.fit (by kernel_rfl) fun hf=>?_
 have⟨h1,h2,h3⟩:=Sf hf.1;have h4:=Jb hf.2.1;have hM:=Mx;refine mA kZ ?_
 conv=>whnf
 repeat'((first|apply st|(apply sq;intro K U)|(apply si;intro A B Y Z)|(apply Y;clear Z B Y A)|(apply U;clear U K)|fail)<;>conv=>whnf)
 refine B2 p.length (fun k (_:Unit)=>[(9,eI (A4 k))]) (fun _ _=>[]) (fun k _=>p.all (HM w)=(p.drop k).all (HM w)) () rfl rfl Sat.nil ?_;rintro k - σ hk hn hs
 conv=>whnf
 repeat'((first|apply st|(apply sq;intro K U)|(apply si;intro A B Y Z)|(apply Y;clear Z B Y A)|(apply U;clear U K)|refine⟨rfl,?_⟩|refine ix ?_|(refine fc (fun x hx hlt hc=>?_) (fun hk hc=>?_)<;>(try rw[hc])<;>clear hc)|(constructor<;>intro hc<;>(try rw[hc])<;>(replace hc:=bp hc)<;>(try simp(disch:=omega) only[BQ,wrap64,AL]at hc))|clear U K)<;>conv=>whnf)
 ·exact AI (by rw[Es,hn,drop_cons hx];simp[HM,hc];intros;omega)
 ·exact⟨hlt,(),rfl,by rw[hn,drop_cons hx];simp[HM, *],hs⟩
 ·exact AI (by rw[Es,hn,drop_cons hx];simp[HM,hc];intros;omega)
 ·exact AI (by rw[Es,hn,Ah hk];simp;omega)
def Bq (f:Fact):Bool:=f.op==2||f.op==3||f.op==4
def WW (f:Fact):Pure Tryz.prog 129 [.a (xF f)] (.b (Bq f)):=by
 refine mb kZ ?_
 conv=>whnf
 repeat'((first|apply st|(apply sq;intro K U)|(apply si;intro A B Y Z)|(apply Y;clear Z B Y A)|(apply U;clear U K)|refine⟨rfl,?_⟩|(constructor<;>intro hc<;>(try rw[hc])<;>(replace hc:=bp hc))|fail)<;>conv=>whnf)
 all_goals exact AI (by simp[Bq, *])
def Dc:List (Int→Int)→Int→Int→Int
 | [],n,_=>n
 | k::r,n,most=>if n≤most then Dc r (n+k (most - n)) most else n
def CZ (f:Fact):Int→Int:=f.HK fun _ l most=>Dc l 1 most
def Hf (f:Fact) (most:Int):CZ f most=Dc (f.kids.map CZ) 1 most:=by
 rw[CZ,Fact.Dg];rfl
def Og {most:Int}: ∀(l:List (Int→Int)) (n:Int),(∀g∈l,∀m,0≤m→1≤g m∧g m≤m+1)→1≤n→n≤most+1→1≤Dc l n most∧Dc l n most≤most+1
 | [],n,_,h1,h2=>⟨h1,h2⟩
 | g ::r,n,h,h1,h2=>by
   rw[Dc];split
   ·have:=h g (List.mem_cons_self ..) (most - n) (by omega)
    exact Og r _ (fun g hg=>h g (List.mem_cons_of_mem _ hg)) (by omega) (by omega)
   ·exact⟨h1,h2⟩
def J6 (f:Fact): ∀m,0≤m→1≤CZ f m∧CZ f m≤m+1:=by
 induction f using Fact.ind with
 | h f ih=>
   intro m hm;rw[Hf];refine Og _ _ (fun g hg=>?_) (by omega) (by omega);obtain⟨k,hk,rfl⟩:=Mk.1 hg;exact ih k hk
def bA (f:Fact): ∀most:Int,0≤most→most≤1000→Pure Tryz.prog 156 [.a (xF f),eI most] (eI (CZ f most)):=by
 induction f using Fact.ind with
 | h f ih=>
   intro most h0 h1;refine Pure.fit (by kernel_rfl) fun hf=>?_
   have⟨h2,h3,h4⟩:=IQ hf.1;have hM:=Mx;refine mC kZ ?_
   conv=>whnf
   repeat'((first|apply st|(apply sq;intro K U)|(apply si;intro A B Y Z)|(apply Y;clear Z B Y A)|(apply U;clear U K)|fail)<;>conv=>whnf)
   refine B2 f.kids.length (fun k (n:Int)=>[(5,eI n),(6,eI (A4 k))]) (fun _ _=>[]) (fun k n=>1≤n∧n≤most+1∧CZ f most=Dc ((f.kids.drop k).map CZ) n most) 1 rfl ⟨by omega,by omega,by rw[List.drop_zero];exact Hf f most⟩ Sat.nil ?_;rintro k n σ hk ⟨hn1,hn2,hn⟩ hs
   conv=>whnf
   repeat'((first|apply st|(apply sq;intro K U)|(apply si;intro A B Y Z)|(apply Y;clear Z B Y A)|(apply U;clear U K)|refine⟨rfl,?_⟩|refine⟨kZ,?_⟩|refine Mz ?_|(refine fc (fun x hx hlt hc=>?_) (fun hk hc=>?_)<;>(try rw[hc])<;>clear hc)|(constructor<;>intro hc<;>(try rw[hc])<;>(replace hc:=bp hc))|clear U K)<;>conv=>whnf)
   ·rw[wrap64 (by omega) (by omega)]
    have hb:=J6 x (most - n) (by omega);refine(ih x (B5 hx) (most - n) (by omega) (by omega)).use ?_
    conv=>whnf
    repeat'((first|(apply si;intro A B Y Z)|(apply Y;clear Z B Y A)|(apply U;clear U K)|refine⟨rfl,?_⟩|clear U K)<;>conv=>whnf)
    rw[wrap64 (by omega) (by omega)];exact⟨hlt,_,rfl,⟨by omega,by omega,by rw[hn,drop_cons hx,E8,Dc,if_pos hc]⟩,hs⟩
   ·exact AI (by rw[hn,drop_cons hx,E8,Dc,if_neg (by omega)])
   ·exact AI (by rw[hn,Ah hk];rfl)
def bB (f:Fact):Pure Tryz.prog 126 [.a (xF f)] (eI (CZ f 24)):=by
 refine mg kZ ?_
 conv=>whnf
 repeat'((first|apply st|(apply sq;intro K U)|(apply si;intro A B Y Z)|(apply Y;clear Z B Y A)|(apply U;clear U K)|refine⟨kZ,?_⟩|fail)<;>conv=>whnf)
 refine(bA f 24 (by omega) (by omega)).use ?_
 conv=>whnf
 repeat'((first|apply st|(apply Y;clear Z B Y A)|(apply U;clear U K)|fail)<;>conv=>whnf)
 exact AI rfl
def LU (f:Fact):Nat:=f.HK fun _ l=>1+l.sum
def Jt (f:Fact):LU f=1+(f.kids.map LU).sum:=Fact.Dg _ f
def Wt {f k:Fact} (h:k∈f.kids):LU k<LU f:=by
 have: ∀l:List Fact,k∈l→LU k≤(l.map LU).sum:=fun l=>by
  induction l with
  | nil=>intro h;cases h
  | cons x r ih=>
    intro h;simp only[E8,List.sum_cons];rcases GB.1 h with rfl|h
    ·omega
    ·have:=ih h;omega
 have:=this _ h;rw[Jt f];omega
def Of {most:Int}: ∀(l:List Fact) (n:Int),(∀k∈l,∀m,0≤m→CZ k m≤m→CZ k m=LU k)→0≤n→Dc (l.map CZ) n most≤most→Dc (l.map CZ) n most=n+(l.map LU).sum
 | [],n,_,_,_=>by simp[Dc]
 | k :: r, n,h,h0,h1=>by
   simp only[E8,Dc]at *;split at h1
   ·rename_i hc
    rw[if_pos hc];have hb:=J6 k (most - n) (by omega)
    have hge: ∀(l:List Fact) (a:Int),a≤Dc (l.map CZ) a most:=fun l=>by
     induction l with
     | nil=>intro a;exact Int.le_refl _
     | cons y l ih=>
       intro a;simp only[E8,Dc];split
       ·have:=J6 y (most - a) (by omega)
        have:=ih (a+CZ y (most - a));omega
       ·exact Int.le_refl _
    have h2:=hge r (n+CZ k (most - n));have h3:=h k (List.mem_cons_self ..) (most - n) (by omega) (by omega);have h4:=Of r (n+CZ k (most - n)) (fun k' hk'=>h k' (List.mem_cons_of_mem _ hk')) (by omega) h1;simp only[List.sum_cons];omega
   ·rename_i hc
    omega
def J5 (f:Fact): ∀m,0≤m→CZ f m≤m→CZ f m=LU f:=by
 induction f using Fact.ind with
 | h f ih=>
   intro m h0 h1;rw[Hf]at *;rw[Of f.kids 1 ih (by omega) h1,Jt];omega
def HH (a b:Int):Int:=if a<b then b else a
def EB (f:Fact):Int:=f.HK fun _ l=>l.foldl HH 0+1
def F7 (f:Fact):EB f=(f.kids.map EB).foldl HH 0+1:=Fact.Dg _ f
def Jg {m:Int}: ∀(l:List Int) (a:Int),(∀x∈l,x≤m)→a≤m→l.foldl HH a≤m
 | [],_,_,h=>h
 | x::r,a,h,h'=>by
   refine Jg r _ (fun y hy=>h y (List.mem_cons_of_mem _ hy)) ?_;have:=h x (List.mem_cons_self ..);unfold HH;split<;>omega
def FW: ∀(l:List Int) (a:Int),a≤l.foldl HH a
 | [],_=>Int.le_refl _
 | x::r,a=>by
   refine Int.le_trans ?_ (FW r _);unfold HH;split<;>omega
def VU (f:Fact):1≤EB f∧EB f≤LU f:=by
 induction f using Fact.ind with
 | h f ih=>
   rw[F7];have h1:=FW (f.kids.map EB) 0
   have h2:(f.kids.map EB).foldl HH 0≤(LU f:Int) - 1:=by
    refine Jg _ _ (fun x hx=>?_) (by have:=Jt f;omega);obtain⟨k,hk,rfl⟩:=Mk.1 hx;have:=(ih k hk).2;have:=Wt hk;omega
   omega
def ET {α:Type} {xs:List α} {k:Nat} {x:α} {β:Type} (g:α→β) (h:β→β→β) (a:β) (hx:xs[k]? =some x):((xs.take (k+1)).map g).foldl h a=h (((xs.take k).map g).foldl h a) (g x):=by
 rw[AO hx,R9,List.foldl_append];rfl
def bn (f:Fact):LU f≤Af→Pure Tryz.prog 127 [.a (xF f)] (eI (EB f)):=by
 induction f using Fact.ind with
 | h f ih=>
   intro hc;refine Pure.fit (by kernel_rfl) fun hf=>?_
   have⟨h2,h3,h4⟩:=IQ hf.1;have hM:=Mx;refine mf kZ ?_
   conv=>whnf
   repeat'((first|apply st|(apply sq;intro K U)|(apply si;intro A B Y Z)|(apply Y;clear Z B Y A)|(apply U;clear U K)|fail)<;>conv=>whnf)
   refine B2 f.kids.length (fun k (_:Unit)=>[(3,eI (((f.kids.take k).map EB).foldl HH 0)),(9,eI (A4 k))]) (fun _ _=>[]) (fun _ _=>True) () rfl trivial Sat.nil ?_;rintro k - σ hk - hs
   conv=>whnf
   repeat'((first|apply st|(apply sq;intro K U)|(apply si;intro A B Y Z)|(apply Y;clear Z B Y A)|(apply U;clear U K)|refine⟨rfl,?_⟩|refine⟨kZ,?_⟩|refine Mz ?_|refine ld ?_|refine sn fun σ hs=>?_|(refine fc (fun x hx hlt hc=>?_) (fun hk hc=>?_)<;>(try rw[hc])<;>clear hc)|(intro nn hnn;generalize hg:BA _ nn _=σ;refine al hg fun hs=>?_;clear hg)|clear U K)<;>conv=>whnf)
   ·refine(ih x (B5 hx) (by have:=Wt (B5 hx);omega)).use ?_
    conv=>whnf
    repeat'((first|(apply si;intro A B Y Z)|(apply Y;clear Z B Y A)|(apply U;clear U K)|refine⟨rfl,?_⟩|clear U K)<;>conv=>whnf)
    exact⟨hlt,(),by rw[ET _ _ _ hx];rfl,trivial,Sat.nil⟩
   ·have:=VU f
    rw[F7]at this;exact AI (by rw[Ar hk,wrap64 (by omega) (by omega),←F7])
def DL (f:Fact):Int:=f.HK fun f l=>l.foldl HH (if Bq f then f.arg+1 else 0)
def D2 (f:Fact):DL f=(f.kids.map DL).foldl HH (if Bq f then f.arg+1 else 0):=Fact.Dg _ f
def Nk (f:Fact):Bool:=f.HK fun f l=>decide (0≤f.arg)&&decide (f.arg<3)&&l.all id
def K8 (f:Fact):Nk f=(decide (0≤f.arg)&&decide (f.arg<3)&&(f.kids.map Nk).all id):=Fact.Dg _ f
def aW (f:Fact):Nk f=true→Pure Tryz.prog 95 [.a (xF f)] (eI (DL f)):=by
 induction f using Fact.ind with
 | h f ih=>
   intro ha;refine Pure.fit (by kernel_rfl) fun hf=>?_
   have⟨h2,h3,h4⟩:=IQ hf.1;have hM:=Mx;rw[K8]at ha;simp only[BY,Ce,List.all_map,EN]at ha;refine pW kZ ?_
   conv=>whnf
   repeat'((first|apply st|(apply sq;intro K U)|(apply si;intro A B Y Z)|(apply Y;clear Z B Y A)|(apply U;clear U K)|refine⟨kZ,?_⟩|fail)<;>conv=>whnf)
   refine(WW f).use ?_
   conv=>whnf
   repeat'((first|apply st|(apply sq;intro K U)|(apply si;intro A B Y Z)|(apply Y;clear Z B Y A)|(apply U;clear U K)|refine⟨rfl,?_⟩|(constructor<;>intro hc<;>(try rw[hc])<;>(replace hc:=bp hc))|fail)<;>conv=>whnf)
   ·refine B2 f.kids.length (fun k (_:Unit)=>[(3,eI (((f.kids.take k).map DL).foldl HH (if Bq f then f.arg+1 else 0))),(14,eI (A4 k))]) (fun _ _=>[]) (fun _ _=>True) () (by rw[wrap64 (by omega) (by omega),if_pos hc];rfl) trivial Sat.nil ?_
    rintro k - σ hk - hs
    conv=>whnf
    repeat'((first|apply st|(apply sq;intro K U)|(apply si;intro A B Y Z)|(apply Y;clear Z B Y A)|(apply U;clear U K)|refine⟨rfl,?_⟩|refine⟨kZ,?_⟩|refine Mz ?_|refine ld ?_|refine sn fun σ hs=>?_|(refine fc (fun x hx hlt hc=>?_) (fun hk hc=>?_)<;>(try rw[hc])<;>clear hc)|(intro nn hnn;generalize hg:BA _ nn _=σ;refine al hg fun hs=>?_;clear hg)|clear U K)<;>conv=>whnf)
    ·refine(ih x (B5 hx) (ha.2 x (B5 hx))).use ?_
     conv=>whnf
     repeat'((first|(apply si;intro A B Y Z)|(apply Y;clear Z B Y A)|(apply U;clear U K)|refine⟨rfl,?_⟩|clear U K)<;>conv=>whnf)
     exact⟨hlt,(),by rw[ET _ _ _ hx];rfl,trivial,Sat.nil⟩
    ·exact AI (by rw[Ar hk,←D2])
   ·refine B2 f.kids.length (fun k (_:Unit)=>[(3,eI (((f.kids.take k).map DL).foldl HH (if Bq f then f.arg+1 else 0))),(14,eI (A4 k))]) (fun _ _=>[]) (fun _ _=>True) () (by rw[if_neg (c:=Bq f=true) (by simp[hc])];rfl) trivial Sat.nil ?_
    rintro k - σ hk - hs
    conv=>whnf
    repeat'((first|apply st|(apply sq;intro K U)|(apply si;intro A B Y Z)|(apply Y;clear Z B Y A)|(apply U;clear U K)|refine⟨rfl,?_⟩|refine⟨kZ,?_⟩|refine Mz ?_|refine ld ?_|refine sn fun σ hs=>?_|(refine fc (fun x hx hlt hc=>?_) (fun hk hc=>?_)<;>(try rw[hc])<;>clear hc)|(intro nn hnn;generalize hg:BA _ nn _=σ;refine al hg fun hs=>?_;clear hg)|clear U K)<;>conv=>whnf)
    ·refine(ih x (B5 hx) (ha.2 x (B5 hx))).use ?_
     conv=>whnf
     repeat'((first|(apply si;intro A B Y Z)|(apply Y;clear Z B Y A)|(apply U;clear U K)|refine⟨rfl,?_⟩|clear U K)<;>conv=>whnf)
     exact⟨hlt,(),by rw[ET _ _ _ hx];rfl,trivial,Sat.nil⟩
    ·exact AI (by rw[Ar hk,←D2])
def CF (op:Int):Nat:=if op=5 then 1 else if op=6∨op=7 then 2 else 0
def SG (w:AK) (f:Fact):Bool:=
 if f.op=2 then f.n==0&&NT w f.cls else if f.op=3∨f.op=4 then f.cls==0&&(decide (-1000000000≤f.n)&&decide (f.n≤1000000000))else f.op==1||f.op==5||f.op==6||f.op==7
def DB (w:AK) (f:Fact):Bool:=
 SG w f&&(f.kids.length==CF f.op&&(decide (0≤f.arg)&&(decide (f.arg<3)&&(Es w f.path&&(Bq f||(f.arg==0&&(f.path.length==0&&(f.cls==0&&f.n==0))))))))
def Bj (w:AK) (f:Fact):Bool:=f.HK fun f l=>DB w f&&l.all id
def Ch (w:AK) (f:Fact):Bj w f=(DB w f&&f.kids.all (Bj w)):=by rw[Bj,Fact.Dg,List.all_map];rfl
def N3 {w:AK} {f:Fact} (h:DB w f=false):Bj w f=false:=by rw[Ch,h,Bool.false_and]
def qc {f:Fact} (h1:Bq f=false) (h2:f.arg=0) (h3:(f.path.length:Int) > 0):true= !(Bq f||(f.arg==0&&(f.path.length==0&&(f.cls==0&&f.n==0)))):=by
 have:(f.path.length==0)=false:=by simp;intro e;rw[e]at h3;simp at h3
 rw[this,h1,h2];rfl
def du (w : AK) (f:Fact):Pure Tryz.prog 128 [.a (BE w),.a (xF f)] (.b (Bj w f)):=by
 induction f using Fact.ind with
 | h f ih=>
   refine Pure.fit (by kernel_rfl) fun hf=>?_
   have⟨h2,h3,h4⟩:=IQ hf.2.1;have⟨w1,w2,w3⟩:=Sf hf.1;have hM:=Mx;refine mc kZ ?_
   conv=>whnf
   repeat'((first|apply st|(apply sq;intro K U)|(apply si;intro A B Y Z)|(apply Y;clear Z B Y A)|(apply U;clear U K)|refine⟨rfl,?_⟩|fail)<;>conv=>whnf)
   have hJ :=Pu U (fun(_:Unit)=>[(5,eI (CF f.op))]) (fun _=>[]) (fun _=>SG w f=true) [(2,.rp (BE w)),(3,.rp (xF f)),(5,eI 0)] (by
    clear U;rintro - σ ho -
    conv=>whnf
    repeat'((first|apply st|(apply sq;intro K U)|(apply si;intro A B Y Z)|refine⟨rfl,?_⟩|fail)<;>conv=>whnf)
    have hJ :=Pu U (fun(b:Bool)=>[(66,.b b)]) (fun _=>[]) (fun b=>b= !(f.kids.length==CF f.op&&(decide (0≤f.arg)&&(decide (f.arg<3)&&Es w f.path)))) [(2,.rp (BE w)),(3,.rp (xF f)),(66,.b false)] (by
     clear U;rintro b σ hb -
     conv=>whnf
     repeat'((first|apply st|fail)<;>conv=>whnf)
     have hJ :=Pu U (fun(_:Unit)=>[]) (fun _=>[]) (fun _=>b=false) [(2,.rp (BE w)),(3,.rp (xF f))] (by
      clear U;rintro - σ hb' -;rw[hb']at hb
      conv=>whnf
      repeat'((first|apply st|(apply sq;intro K U)|(apply si;intro A B Y Z)|refine⟨kZ,?_⟩|refine Pure.use (WW _) ?_|fail)<;>conv=>whnf)
      have hJ:=Pu U (fun(b:Bool)=>[(90,.b b)]) (fun _=>[]) (fun b=>b= !(Bq f||(f.arg==0&&(f.path.length==0&&(f.cls==0&&f.n==0))))) [(2,.rp (BE w)),(3,.rp (xF f)),(90,.b false)] (by
       clear U;rintro b σ hb2 -
       conv=>whnf
       repeat'((first|apply st|fail)<;>conv=>whnf)
       have hJ:=Pu U (fun(_:Unit)=>[]) (fun _=>[]) (fun _=>b=false) [(2,.rp (BE w)),(3,.rp (xF f))] (by
        clear U;rintro - σ hb' -;rw[hb']at hb2
        have hh:DB w f=true:=by
         have hb:(f.kids.length==CF f.op&&(decide (0≤f.arg)&&(decide (f.arg<3)&&Es w f.path)))=true:=by rw[←Bool.not_eq_false',←hb]
         have hb2:(Bq f||(f.arg==0&&(f.path.length==0&&(f.cls==0&&f.n==0))))=true:=by rw[←Bool.not_eq_false',←hb2]
         simp only[BY]at hb;simp only[DB,ho,hb.1,hb.2,hb2,Bool.and_self]
        conv=>whnf
        repeat'((first|apply st|(apply sq;intro K U)|(apply si;intro A B Y Z)|(apply Y;clear Z B Y A)|(apply U;clear U K)|fail)<;>conv=>whnf)
        refine B2 f.kids.length (fun k (_:Unit)=>[(94,eI (A4 k))]) (fun _ _=>[]) (fun k _=>Bj w f=(f.kids.drop k).all (Bj w)) () rfl (by rw[Ch,hh];rfl) Sat.nil ?_;rintro k - σ hk hn hs
        conv=>whnf
        repeat'((first|apply st|(apply sq;intro K U)|(apply si;intro A B Y Z)|(apply Y;clear Z B Y A)|(apply U;clear U K)|refine⟨rfl,?_⟩|refine⟨kZ,?_⟩|refine Mz ?_|refine ld ?_|refine sn fun σ hs=>?_|(refine fc (fun x hx hlt hc=>?_) (fun hk hc=>?_)<;>(try rw[hc])<;>clear hc)|(intro nn hnn;generalize hg:BA _ nn _=σ;refine al hg fun hs=>?_;clear hg)|clear U K)<;>conv=>whnf)
        ·have hxm:=B5 hx
         refine(ih x hxm).use ?_
         conv=>whnf
         repeat'((first|apply st|(apply sq;intro K U)|(apply si;intro A B Y Z)|(apply Y;clear Z B Y A)|(apply U;clear U K)|refine⟨rfl,?_⟩|(constructor<;>intro hc<;>(try rw[hc])<;>(replace hc:=bp hc))|clear U K)<;>conv=>whnf)
         ·exact AI (by rw[hn,drop_cons hx];simp[hc])
         ·exact⟨hlt,(),rfl,by rw[hn,drop_cons hx];simp[hc],Sat.nil⟩
        ·exact AI (by rw[hn,Ah hk];rfl))
       clear U
       conv=>whnf
       repeat'((first|apply st|(apply sq;intro K U)|(apply si;intro A B Y Z)|(apply Y;clear Z B Y A)|(apply U;clear U K)|(constructor<;>intro hc<;>(try rw[hc])<;>(replace hc:=bp hc))|fail)<;>conv=>whnf)
       ·have hx:(Bq f||(f.arg==0&&(f.path.length==0&&(f.cls==0&&f.n==0))))=false:=by rw[←Bool.not_eq_true',←hb2,hc]
        exact AI (by rw[N3];simp only[DB,hx,Bool.and_false])
       ·exact hJ () _ _ rfl hc Sat.nil)
      clear U;clear hb
      conv=>whnf
      repeat'((first|apply st|(apply Y;clear Z B Y A)|refine⟨rfl,?_⟩|(constructor<;>intro hc<;>(try rw[hc])<;>(replace hc:=bp hc)<;>(try simp(disch:=omega) only[BQ,wrap64,AL]at hc))|fail)<;>conv=>whnf)
      ·have hp:f.path.length=0:=by omega
       exact hJ _ _ _ rfl (by rw[hp];simp[*,bne]) Sat.nil
      ·exact hJ true _ _ rfl (by simp[*]) Sat.nil
      ·exact hJ true _ _ rfl (qc (by assumption) (by assumption) hc) Sat.nil
      ·exact hJ true _ _ rfl (by simp[*]) Sat.nil
      ·exact hJ false _ _ rfl (by simp[*]) Sat.nil)
     clear U
     conv=>whnf
     repeat'((first|apply st|(apply sq;intro K U)|(apply si;intro A B Y Z)|(apply Y;clear Z B Y A)|(apply U;clear U K)|(constructor<;>intro hc<;>(try rw[hc])<;>(replace hc:=bp hc))|fail)<;>conv=>whnf)
     ·have hx:(f.kids.length==CF f.op&&(decide (0≤f.arg)&&(decide (f.arg<3)&&Es w f.path)))=false:=by rw[←Bool.not_eq_true',←hb,hc]
      exact AI (by rw[N3];simp only[DB];simp only[Bool.and_eq_false_iff]at hx ⊢;rcases hx with h|h|h|h<;>simp[h])
     ·exact hJ () _ _ rfl hc Sat.nil)
    clear U
    conv=>whnf
    repeat'((first|apply st|(apply Y;clear Z B Y A)|refine⟨rfl,?_⟩|refine⟨kZ,?_⟩|refine Pure.use (de _ _ _) ?_|(constructor<;>intro hc<;>(try rw[hc])<;>(replace hc:=bp hc)<;>(try simp(disch:=omega) only[BQ,wrap64,AL]at hc))|fail)<;>conv=>whnf)
    all_goals exact hJ _ _ _ rfl (by simp[*]<;>omega) Sat.nil)
   clear U
   conv=>whnf
   repeat'((first|apply st|(apply sq;intro K U)|(apply si;intro A B Y Z)|(apply Y;clear Z B Y A)|(apply U;clear U K)|refine⟨rfl,?_⟩|refine⟨kZ,?_⟩|refine Pure.use (bu _ _) ?_|(constructor<;>intro hc<;>(try rw[hc])<;>(replace hc:=bp hc))|fail)<;>conv=>whnf)
   all_goals first
    | exact AI (by rw[N3];simp only[DB,SG];simp[*]<;>omega)
    | exact hJ () _ _ (by simp[CF, *];rfl) (by simp[SG, *]<;>omega) Sat.nil
def Q9 (n:Int):Bool:=decide (-1000000000≤n)&&decide (n≤1000000000)
def fv (n:Int):Pure Tryz.prog 125 [eI n] (.b (Q9 n)):=by
 refine mh kZ ?_
 conv=>whnf
 repeat'((first|apply st|(apply sq;intro K U)|(apply si;intro A B Y Z)|(apply Y;clear Z B Y A)|(apply U;clear U K)|refine⟨rfl,?_⟩|(constructor<;>intro hc<;>(try rw[hc])<;>(replace hc:=bp hc))|fail)<;>conv=>whnf)
 all_goals exact AI (by simp[Q9, *]<;>omega)
def JY (k:Int):Bool:=k==1||k==4
def jA (k:Int):Pure Tryz.prog 97 [eI k] (.b (JY k)):=by
 refine pV kZ ?_
 conv=>whnf
 repeat'((first|apply st|(apply sq;intro K U)|(apply si;intro A B Y Z)|(apply Y;clear Z B Y A)|(apply U;clear U K)|refine⟨rfl,?_⟩|(constructor<;>intro hc<;>(try rw[hc])<;>(replace hc:=bp hc))|fail)<;>conv=>whnf)
 all_goals exact AI (by simp[JY, *])
def Ff {p:Prog} (h:FA (.a (BR p))):p.AP.length≤Af∧p.Cx.length≤Af∧p.methods.length≤Af∧p.nodes.length≤Af:=by
 simp only[BR,G0,DW,Ev,BQ]at h;exact⟨h.1.1,h.2.2.1.1,h.2.2.2.1.1,h.2.2.2.2.1.1⟩
def Ir (p:Prog) (x:Node):Int:=
 if x.op=1∨x.op=2∨x.op=3∨x.op=6∨x.op=18 then 0 else
 if x.op=4∨x.op=8∨x.op=17 then 1 else
 if x.op=7∨x.op=9∨x.op=11∨x.op=12∨x.op=13∨x.op=14∨x.op=15∨x.op=16 then 2 else
 if x.op=10 then 3 else
 if x.op=5∧0≤x.n∧x.n<p.Cx.length then p.Cx.getD x.n.toNat 0 else -1
def eM (p:Prog) (x:Node):Pure Tryz.prog 130 [.a (BR p),.a (It x)] (eI (Ir p x)):=by
 refine Pure.fit (by kernel_rfl) fun hf=>?_
 have⟨p1,p2,p3,p4⟩:=Ff hf.1;have hM:=Mx;refine ma kZ ?_
 conv=>whnf
 repeat'((first|apply st|(apply sq;intro K U)|(apply si;intro A B Y Z)|(apply Y;clear Z B Y A)|(apply U;clear U K)|refine⟨rfl,?_⟩|refine iq fun x hx=>?_|(constructor<;>intro hc<;>(try rw[hc])<;>(replace hc:=bp hc)<;>(try simp(disch:=omega) only[BQ,wrap64,AL]at hc))|clear U K)<;>conv=>whnf)
 all_goals first
  | (refine AI ?_;simp[Ir, *];done)
  | (refine AI ?_;simp[Ir, *];intros;omega)
  | (have hd:=(G7.1 hx).2;refine AI ?_;simp[Ir, *];done)
def Lc (p:Prog) (x:Node) (size:Int):Bool:=
 if x.op=1 then Q9 x.n else if x.op=3 then decide (0≤x.n)&&decide (x.n<size)else if x.op=4∨x.op=7 then decide (0≤x.n)&&decide (x.n<p.AT)else
 if x.op=5 then decide (0≤x.n)&&decide (x.n<p.Cx.length)else if x.op=6∨x.op=8 then decide (3≤x.n)&&decide (x.n<3+p.AP.length)else x.n==0
def Xs (p:Prog) (x:Node) (size:Int):Pure Tryz.prog 131 [.a (BR p),.a (It x),eI size] (.b (Lc p x size)):=by
 refine Pure.fit (by kernel_rfl) fun hf=>?_
 have⟨p1,p2,p3,p4⟩:=Ff hf.1;have hM:=Mx;refine mZ kZ ?_
 conv=>whnf
 repeat'((first|apply st|(apply sq;intro K U)|(apply si;intro A B Y Z)|(apply Y;clear Z B Y A)|(apply U;clear U K)|refine⟨rfl,?_⟩|refine Pure.use (fv _) ?_|(constructor<;>intro hc<;>(try rw[hc])<;>(replace hc:=bp hc))|clear U K)<;>conv=>whnf)
 all_goals first
  | (refine AI ?_;simp[Lc, *];done)
  | (refine AI ?_;rw[BQ,wrap64 (by omega) (by omega)];simp[Lc, *];done)
  | (refine AI ?_;simp[Lc, *];intros;omega)
def Mp (ps:List (List Int)) (a b:Int):Bool:=a==b||(b==0||(decide (3≤a)&&JR ps a.toNat b.toNat))
def cC (w:AK) (a b:Int) (hl:w.parents.length≤1000) (ho:ordered w.parents) (ha:0≤a) (ha':a<3+w.parents.length) (hb:0≤b) (hb':b<3+w.parents.length):Pure Tryz.prog 120 [.a (BE w),eI a,eI b] (.b (Mp w.parents a b)):=by
 refine Pure.fit (by kernel_rfl) fun hf=>?_
 have⟨w1,w2,w3⟩:=Sf hf.1;have hM:=Mx;refine mq kZ ?_
 conv=>whnf
 repeat'((first|apply st|(apply sq;intro K U)|(apply si;intro A B Y Z)|(apply Y;clear Z B Y A)|(apply U;clear U K)|refine⟨rfl,?_⟩|refine⟨kZ,?_⟩|(constructor<;>intro hc<;>(try rw[hc])<;>(replace hc:=bp hc))|clear U K)<;>conv=>whnf)
 ·exact AI (by simp[Mp,hc])
 ·exact AI (by simp[Mp, *];omega)
 ·have hc':0≤a:=ha
  obtain⟨a,rfl⟩: ∃n:Nat,a=n:=⟨a.toNat,by omega⟩
  refine(oe w a ⟨hl,w2,w3⟩ ho (by omega)).use ?_;have hul:=Kf w.parents (3+w.parents.length) a (a - 2)
  conv=>whnf
  repeat'((first|apply st|(apply sq;intro K U)|(apply si;intro A B Y Z)|(apply Y;clear Z B Y A)|(apply U;clear U K)|refine iq fun x hx=>?_|fail)<;>conv=>whnf)
  refine AI ?_;have hu:=V2 ho (n:=3+w.parents.length) (c:=a) (by omega) b.toNat;rw[DY,hx]at hu;simp at hu;have e1:((a:Int)==b)=false:=by simpa using ‹(a:Int)≠b›
  have e2:(b==0)=false:=by simpa using ‹b≠0›
  simp[Mp,e1,e2,hc,hu]
 ·exact AI (by simp[Mp,hc])
structure KE (w:AK):Prop where
 len:w.parents.length≤60
 ord:ordered w.parents
 own: ∀c∈w.owner,(3:Int)≤c∧c<3+w.parents.length
 cz:w.owner.length≤40
def CV (w:AK) (s:Int):Int:=w.owner.getD s.toNat 0
def hasB (w:AK) (c s:Int):Bool:=decide (3≤c)&&Mp w.parents c (CV w s)
def Zj (w:AK) (c s:Int) (hw:KE w) (hc0:0≤c) (hc1:c<3+w.parents.length) (hs0:0≤s) (hs1:s<w.owner.length):Pure Tryz.prog 122 [.a (BE w),eI c,eI s] (.b (hasB w c s)):=by
 refine Pure.fit (by kernel_rfl) fun hf=>?_
 have⟨w1,w2,w3⟩:=Sf hf.1;have hM:=Mx;have hl:=hw.len;refine mo kZ ?_
 conv=>whnf
 repeat'((first|apply st|(apply sq;intro K U)|(apply si;intro A B Y Z)|(apply Y;clear Z B Y A)|(apply U;clear U K)|apply dr|refine⟨rfl,?_⟩|refine⟨kZ,?_⟩|refine iq fun x hx=>?_|(constructor<;>intro hc<;>(try rw[hc])<;>(replace hc:=bp hc))|fail)<;>conv=>whnf)
 ·have:=hw.own x (B5 hx)
  refine(cC w c x (by omega) hw.ord hc0 hc1 (by omega) (by omega)).use ?_
  conv=>whnf
  repeat'((first|apply st|(apply Y;clear Z B Y A)|(apply U;clear U K)|apply dr|fail)<;>conv=>whnf)
  exact AI (by simp[hasB,CV,hx,hc])
 ·exact AI (by simp[hasB];omega)
end Go.Gl
