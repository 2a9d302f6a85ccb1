import Derived.Test.YtijbpgdmpejgoaaGreatV5
import Derived.Test.YtijbpgdmpejgoaaGreatV8
set_option linter.all false
noncomputable section
namespace Go.Gl
open Go.Proofs
attribute [local irreducible] BL A4 Aj AW AM Ai AV AX AN Ah AS AU A8 BJ Sat Ac BF Ak W
def pick (ls:List (List Int)):Option Int:=(ls.find? fun l=>match l with| []=>false|x::_=>free ls x).bind List.head?
def total (ls:List (List Int)):Nat:=(ls.map List.length).sum
def DO:Nat→List (List Int)→List Int→List Int×Bool
 | 0,ls,out=>(out,ls.all List.isEmpty)
 | n+1,ls,out=>match pick ls with
   | none=>(out,ls.all List.isEmpty)
   | some x=>DO n (ls.map fun l=>l.filter (· != x)) (out++[x])
def CN (ls:List (List Int)):List Int×Bool:=DO (total ls) ls []
theorem H0 {ls:List (List Int)} {x:Int} (h:pick ls=some x):total (ls.map fun l=>l.filter (· != x))<total ls:=by
 unfold pick at h;rw[Option.bind_eq_some_iff]at h;obtain⟨l,h1,h2⟩:=h;have hm:=List.mem_of_find?_eq_some h1;clear h1;cases l with
 | nil=>cases h2
 | cons y r=>
   simp only[List.head?_cons,IT]at h2;subst h2
   have hle: ∀ls:List (List Int),total (ls.map fun l=>l.filter (· != y))≤total ls:=fun ls=>by
    induction ls with
    | nil=>simp[total]
    | cons a bs ih=>
      have:=LV (· != y) a;simp only[total,FC,List.sum_cons]at *;omega
   induction ls with
   | nil=>cases hm
   | cons a bs ih=>
     rcases GB.1 hm with rfl|hm
     ·have h1:=hle bs
      have h2:=LV (· != y) r;simp only[total,FC,List.sum_cons]at *;have:((y::r).filter (· != y)).length≤r.length:=by simpa using h2
      simp only[LX];omega
     ·have h1:=ih hm
      have h2:=LV (· != y) a;simp only[total,FC,List.sum_cons]at *;omega
def Lf (ls:List (List Int)):Prop:=ls.length≤1000000∧ ∀l∈ls,l.length≤Ad∧ ∀x∈l,0≤x
theorem Lf.filter {ls:List (List Int)} (h:Lf ls) (x:Int):Lf (ls.map fun l=>l.filter (· != x)):=by
 refine⟨by rw[BE];exact h.1,fun l hl=>?_⟩;obtain⟨l',hl',rfl⟩:=Lc.1 hl;obtain⟨h1,h2⟩:=h.2 l' hl';exact⟨Nat.le_trans (LV _ _) h1,fun y hy=>h2 y (JZ.1 hy).1⟩
def Dv (ls:List (List Int)) (k:Nat):Int:=((((ls.take k).find? fun l=>match l with| []=>false|x::_=>free ls x).bind List.head?).getD (-1))
theorem T3: ∀(n:Nat) (ls:List (List Int)) (out:List Int),total ls≤n→DO n ls out=DO (total ls) ls out:=by
 intro n
 induction n using Nat.strongRecOn with
 | _ n ih=>
   intro ls out hn;by_cases he:total ls=n
   ·rw[he]
   ·cases n with
    | zero=>omega
    | succ n=>
      cases hp:pick ls with
      | none=>
        cases ht:total ls with
        | zero=>simp[DO,hp]
        | succ m=>simp[DO,hp]
      | some x=>
        have h1:=H0 hp;cases ht:total ls with
        | zero=>omega
        | succ m=>
          simp only[DO,hp];rw[ih n (by omega) _ _ (by omega),ih m (by omega) _ _ (by omega)]
theorem Ml {ls:List (List Int)} {x:Int} {out:List Int} (hp:pick ls=some x):DO (total ls) ls out=DO (total (ls.map fun l=>l.filter (· != x))) (ls.map fun l=>l.filter (· != x)) (out++[x]):=by
 have h1:=H0 hp;cases ht:total ls with
 | zero=>omega
 | succ m=>
   simp only[DO,hp];exact T3 m _ _ (by omega)
theorem O3 {ls:List (List Int)} {out:List Int} (hp:pick ls=none):DO (total ls) ls out=(out,ls.all List.isEmpty):=by
 cases ht:total ls with
 | zero=>rfl
 | succ m=>simp only[DO,hp]
def FH (ls:List (List Int)) (l:List Int):Bool:=match l with| []=>false|x::_=>free ls x
theorem Hb (ls:List (List Int)) (k:Nat):Dv ls k=(((ls.take k).find? (FH ls)).bind List.head?).getD (-1):=rfl
theorem H2 {ls:List (List Int)} (hok:Lf ls) {k:Nat} (h:Dv ls k<0):(ls.take k).find? (FH ls)=none:=by
 rw[Hb]at h;cases hf:(ls.take k).find? (FH ls)with
 | none=>rfl
 | some l=>
   rw[hf]at h;have hm:=List.mem_of_mem_take (List.mem_of_find?_eq_some hf);have hg:=List.find?_some hf;cases l with
   | nil=>cases hg
   | cons x r=>
     have:=(hok.2 _ hm).2 x (.head _);simp at h;omega
theorem T1 {ls:List (List Int)} (hok:Lf ls) {k:Nat} (hk:k<ls.length) (h:Dv ls k<0):Dv ls (k+1)=if FH ls ls[k]then(ls[k].head?).getD (-1)else -1:=by
 rw[Hb,List.take_succ_eq_append_getElem hk,List.find?_append,H2 hok h];by_cases hg:FH ls ls[k]=true
 ·simp[hg]
 ·simp[hg]
theorem Ot {ls:List (List Int)} {k:Nat} (h:0≤Dv ls k):pick ls=some (Dv ls k):=by
 rw[Hb]at *;show((ls.find? (FH ls)).bind List.head?)=_;cases hf:(ls.take k).find? (FH ls)with
 | none=>rw[hf]at h;simp at h
 | some l=>
   have h1:ls.find? (FH ls)=some l:=by
    have:=List.take_append_drop k ls;rw[←this,List.find?_append,this,hf];rfl
   rw[h1];rw[hf]at h;cases l with
   | nil=>simp at h
   | cons x r=>simp
theorem I4 {ls:List (List Int)} (hok:Lf ls) {k:Nat} {l:List Int} (hl:ls[k]? =some l) (h:Dv ls k<0):Dv ls (k+1)=if FH ls l then(l.head?).getD (-1)else -1:=by
 obtain⟨hk,rfl⟩:=Hi.1 hl;exact T1 hok hk h
theorem Xn {ls:List (List Int)} {l:List Int} (h:l∈ls):l.length≤total ls:=by
 induction ls with
 | nil=>cases h
 | cons a r ih=>
   simp only[total,FC,List.sum_cons]at *;rcases GB.1 h with rfl|h
   ·omega
   ·have:=ih h;omega
theorem br (ls:List (List Int)) (f:Bool) (hok:Lf ls) (ht:total ls<Ad):Pure Tryz.prog 195 [.l (En ls) f] (.t [.l (iL (CN ls).1) false,.b (CN ls).2]):=by
 have hM:=Mx;refine l6 nb ?_
 conv=>whnf
 repeat((first|(refine Ax ?_;intro K U)|(refine AZ ?_;intro I C G F)|(apply G;clear F C G I)|refine Bk ?_|refine Dk ?_|(apply U;clear U K)|fail);conv=>whnf)
 refine EF (fun(x:List (List Int)×Bool×V×List Int)=>total x.1) (fun x=>[(0,.l (En x.1) x.2.1),(4,x.2.2.1)]) (fun x=>[.own x.2.2.1 1 (iL x.2.2.2)])
  (fun x=>Lf x.1∧x.2.2.2.length+total x.1≤total ls∧DO (total x.1) x.1 x.2.2.2=CN ls) (ls,f,.l [] true,[]) rfl ⟨hok,by simp,rfl⟩ (Ey Sat.nil 1) ?_
 rintro⟨ls',f',v,out⟩ σ ⟨hok',hlen,hm⟩ hs;dsimp only at hok' hlen hm hs;have hlm:ls'.length≤Ad:=by have:=hok'.1;omega
 conv=>whnf
 repeat((first|(refine Ax ?_;intro K U)|(refine AZ ?_;intro I C G F)|(apply G;clear F C G I)|refine Bk ?_|refine Dk ?_|(apply U;clear U K)|fail);conv=>whnf)
 have hJ :=P3 U (fun(y:Int×Bool)=>[(5,.i .i64 y.1),(6,.b y.2)]) (fun _=>[.own v 1 (iL out)]) (fun y=>(0≤y.1∧pick ls'=some y.1)∨(y.1<0∧pick ls'=none∧y.2=ls'.any fun l=> !l.isEmpty))
  [(0,.l (En ls') f'),(4,v),(5,.pn),(6,.pn)] (by
  rintro⟨nx,lf⟩ σ hor hs;dsimp only at hor
  conv=>whnf
  repeat((first|refine⟨rfl,?_⟩|(refine Ax ?_;intro K U)|(refine AZ ?_;intro I C G F)|(apply G;clear F C G I)|refine B1 ?_|(apply U;clear U K)|fail);conv=>whnf)
  refine fork (fun hneg=>?_) (fun hneg=>?_)
  ·conv=>whnf
   repeat((first|(refine Ax ?_;intro K U)|(refine AZ ?_;intro I C G F)|(apply G;clear F C G I)|refine EM ?_|(apply U;clear U K)|(clear U K));conv=>whnf)
   rcases hor with⟨h0,_⟩|⟨_,hp,rfl⟩
   ·omega
   ·rw[O3 hp]at hm
    refine BV ?_;rw[←hm];refine .t (.cons (hs.NC 0 rfl) (.cons ?_ .nil));have:(!ls'.any fun l=> !l.isEmpty)=ls'.all List.isEmpty:=by simp[List.all_eq_not_any_not]
    rw[←this];exact .refl _
  ·conv=>whnf
   repeat((first|(refine Ax ?_;intro K U)|(refine AZ ?_;intro I C G F)|refine B3 ?_|(apply U;clear U K)|fail);conv=>whnf)
   rcases hor with⟨_,hp⟩|⟨h0,_⟩
   ·have hlt:=H0 hp
    refine Ft hs 0 (x:=nx) rfl (by omega) Bq fun v' σ hs=>?_
    conv=>whnf
    repeat((first|(refine Ax ?_;intro K U)|(refine AZ ?_;intro I C G F)|(apply G;clear F C G I)|refine Bk ?_|refine Dk ?_|(apply U;clear U K)|fail);conv=>whnf)
    refine B4 ls'.length (fun k u=>[(8,u),(9,eI (A6 k))]) (fun k u=>[.own v' 1 (iL (out++[nx])),.own u 1 (En ((ls'.take k).map fun l=>l.filter (· != nx)))]) (fun _ _=>True) (.l [] true) rfl trivial (Ey hs 1) ?_;rintro k u σ hk - hs
    conv=>whnf
    repeat((first|refine⟨rfl,?_⟩|refine FG ?_|(refine Ax ?_;intro K U)|(refine AZ ?_;intro I C G F)|(apply G;clear F C G I)|refine B1 ?_|(apply U;clear U K)|fail);conv=>whnf)
    refine GI hk hlm (fun l hl hlt'=>?_) fun hk=>?_
    ·conv=>whnf
     repeat((first|(refine Ax ?_;intro K U)|(refine AZ ?_;intro I C G F)|refine B3 ?_|refine Bk ?_|(apply U;clear U K)|fail);conv=>whnf)
     refine Io hl hlm rfl ?_
     conv=>whnf
     repeat((first|refine Bz ?_|fail);conv=>whnf)
     refine(Oe _ _ _ (hok'.2 _ (B2 hl)).1).use ?_
     conv=>whnf
     refine Ft hs 1 (x:=l.filter (· != nx)) rfl (by have:=hok'.1;simp;omega) DJ fun u' σ' hs'=>?_
     conv=>whnf
     repeat((first|refine⟨rfl,?_⟩|(refine AZ ?_;intro I C G F)|(apply G;clear F C G I)|(apply U;clear U K)|(clear U K));conv=>whnf)
     refine⟨hlt',u',rfl,trivial,?_⟩;rw[AR hl,SN];exact hs'
    ·rw[Ar hk]at hs
     conv=>whnf
     repeat((first|(refine AZ ?_;intro I C G F)|refine Dl ?_|(apply U;clear U K)|(clear U K));conv=>whnf)
     refine ie hs 1 rfl fun σ' hs'=>?_
     conv=>whnf
     repeat((first|(apply G;clear F C G I)|fail);conv=>whnf)
     refine⟨(ls'.map fun l=>l.filter (· != nx),false,v',out++[nx]),hlt,rfl,⟨hok'.filter nx,by simp;omega,?_⟩,hs'⟩;rw[←Ml hp];exact hm
   ·omega)
 clear U
 ·refine B4 ls'.length (fun k (_:Unit)=>[(5,.i .i64 (Dv ls' k)),(6,.b ((ls'.take k).any fun l=> !l.isEmpty)),(7,eI (A6 k))]) (fun _ _=>[.own v 1 (iL out)]) (fun _ _=>True) () rfl trivial hs ?_
  rintro k - σ hk - hs
  conv=>whnf
  repeat((first|refine⟨rfl,?_⟩|refine FG ?_|(refine Ax ?_;intro K U)|(refine AZ ?_;intro I C G F)|fail);conv=>whnf)
  refine⟨fun h=>?_,fun h=>?_⟩<;>(try rw[h])
  ·have hlt:=of_decide_eq_true h
   rw[AL (by have:=hok'.1;omega)]at hlt;have hlt:=Zx hlt;have hl:=Cu hlt;have hb:=hok'.2 _ (List.getElem_mem hlt);generalize ls'[k]=l at *
   conv=>whnf
   repeat((first|refine⟨rfl,?_⟩|refine Lx ?_|(apply G;clear F C G I)|refine B1 ?_|(apply U;clear U K)|fail);conv=>whnf)
   refine fork (fun hneg=>?_) (fun hneg=>?_)
   ·conv=>whnf
    repeat((first|(refine Ax ?_;intro K U)|(refine AZ ?_;intro I C G F)|refine B3 ?_|refine Bk ?_|(apply U;clear U K)|fail);conv=>whnf)
    refine Io hl hlm rfl ?_
    conv=>whnf
    repeat((first|refine⟨rfl,?_⟩|refine Bz ?_|refine FG ?_|(apply G;clear F C G I)|refine B1 ?_|(apply U;clear U K)|fail);conv=>whnf)
    refine fork (fun hp=>?_) (fun hp=>?_)
    ·simp only[BE]at hp
     obtain⟨x,r,rfl⟩: ∃x r,l=x::r:=by cases l with
      | nil=>simp at hp
      | cons x r=>exact⟨x,r,rfl⟩
     have hany:((ls'.take (k+1)).any fun l=> !l.isEmpty)=true:=by
      rw[AR hl];simp
     conv=>whnf
     repeat((first|(refine Ax ?_;intro K U)|(refine AZ ?_;intro I C G F)|(apply G;clear F C G I)|(apply U;clear U K)|fail);conv=>whnf)
     refine Io hl hlm rfl ?_
     conv=>whnf
     repeat((first|refine Bz ?_|fail);conv=>whnf)
     refine Se 0 rfl rfl rfl ?_
     conv=>whnf
     repeat((first|refine Bz ?_|fail);conv=>whnf)
     refine(fP _ _ _ hlm fun l hl=>(hok'.2 l hl).1).use ?_
     conv=>whnf
     repeat((first|(apply G;clear F C G I)|refine B1 ?_|(apply U;clear U K)|fail);conv=>whnf)
     refine⟨fun hf=>?_,fun hf=>?_⟩
     ·conv=>whnf
      repeat((first|(refine AZ ?_;intro I C G F)|fail);conv=>whnf)
      refine Io hl hlm rfl ?_
      conv=>whnf
      repeat((first|refine Bz ?_|fail);conv=>whnf)
      refine Se 0 rfl rfl rfl ?_
      conv=>whnf
      repeat((first|refine⟨rfl,?_⟩|refine Bz ?_|(refine AZ ?_;intro I C G F)|(apply G;clear F C G I)|(apply U;clear U K)|fail);conv=>whnf)
      refine⟨hlt,(),?_,trivial,hs⟩;have:Dv ls' (k+1)=x:=by rw[I4 hok' hl hneg];simp[FH,hf]
      dsimp only;rw[this,hany];rfl
     ·conv=>whnf
      repeat((first|refine⟨rfl,?_⟩|(refine AZ ?_;intro I C G F)|(apply G;clear F C G I)|refine B3 ?_|(apply U;clear U K)|fail);conv=>whnf)
      refine⟨hlt,(),?_,trivial,hs⟩;have:Dv ls' (k+1)=Dv ls' k:=by rw[I4 hok' hl hneg,Hb ls' k,H2 hok' hneg];simp[FH,hf]
      dsimp only;rw[this,hany];rfl
    ·simp only[BE]at hp
     obtain rfl:l= []:=dD.1 (by omega)
     conv=>whnf
     repeat((first|refine⟨rfl,?_⟩|(refine AZ ?_;intro I C G F)|(apply G;clear F C G I)|refine B3 ?_|(apply U;clear U K)|fail);conv=>whnf)
     refine⟨hlt,(),?_,trivial,hs⟩;have:Dv ls' (k+1)=Dv ls' k:=by rw[I4 hok' hl hneg,Hb ls' k,H2 hok' hneg];simp[FH]
     have hany:((ls'.take (k+1)).any fun l=> !l.isEmpty)=((ls'.take k).any fun l=> !l.isEmpty):=by
      rw[AR hl,List.any_append];simp
     dsimp only;rw[this,hany];rfl
   ·conv=>whnf
    repeat((first|refine Dl ?_|(clear U K));conv=>whnf)
    refine hJ (Dv ls' k,(ls'.take k).any fun l=> !l.isEmpty) _ _ rfl (.inl ⟨by omega,?_⟩) hs;exact Ot (by omega)
  ·have hlt:=of_decide_eq_false h
   rw[AL (by have:=hok'.1;omega)]at hlt;have hke:=XF hk hlt
   conv=>whnf
   repeat((first|refine RY ?_|(apply G;clear F C G I)|refine B1 ?_|refine Dl ?_|(apply U;clear U K)|(clear U K));conv=>whnf)
   refine hJ (Dv ls' k,(ls'.take k).any fun l=> !l.isEmpty) _ _ rfl ?_ hs;rw[Ar hke];by_cases h0:0≤Dv ls' k
   ·exact .inl ⟨h0,Ot h0⟩
   ·refine .inr ⟨by omega,?_,rfl⟩
    have:=H2 hok' (k:=k) (by omega);rw[Ar hke]at this;show((ls'.find? (FH ls')).bind List.head?)=none;rw[this];rfl
def D5 (g os:List (List Int)) (c:Int):List Int:=
 match EY g os c with
 | none=>[]
 | some l=>if(CN l).2 then [c]++(CN l).1++[0]else []
def Bj (g:List (List Int)):Nat→List (List Int)
 | 0=>[[0]]
 | k+1=>Bj g k++[D5 g (Bj g k) ((k:Int)+1)]
def B9 (g:List (List Int)):List (List Int):=Bj g (2+g.length)
def IK (g:List (List Int)):Prop:=g.length≤16∧ ∀(i:Nat) (l:List Int),g[i]? =some l→l.length≤3∧l.Nodup∧ ∀c∈l,(3:Int)≤c∧c<3+(i:Int)
theorem Cj (g:List (List Int)): ∀k,(Bj g k).length=k+1
 | 0=>rfl
 | k+1=>by simp[Bj,Cj g k]
theorem H4: ∀(n:Nat) (ls:List (List Int)) (out:List Int),(DO n ls out).1.length≤out.length+n
 | 0,ls,out=>by simp[DO]
 | n + 1,ls,out=>by
   simp only[DO];split
   ·simp
   ·rename_i x _
    have:=H4 n (ls.map fun l=>l.filter (· != x)) (out++[x]);simp only[PT,List.length_singleton]at this;refine Nat.le_trans this ?_;omega
theorem T0 {ls:List (List Int)} (h: ∀l∈ls,∀x∈l,(0:Int)≤x) {x:Int} (hp:pick ls=some x):0≤x:=by
 unfold pick at hp;rw[Option.bind_eq_some_iff]at hp;obtain⟨l,h1,h2⟩:=hp;have hm:=List.mem_of_find?_eq_some h1;cases l with
 | nil=>cases h2
 | cons y r=>cases h2;exact h _ hm _ (.head _)
theorem Jj: ∀(n:Nat) (ls:List (List Int)) (out:List Int),(∀l∈ls,∀x∈l,(0:Int)≤x)→(∀x∈out,(0:Int)≤x)→ ∀x∈(DO n ls out).1,(0:Int)≤x
 | 0,ls,out,_,h2=>h2
 | n + 1,ls,out,h1,h2=>by
   simp only[DO];split
   ·exact h2
   ·rename_i y hy
    refine Jj n _ _ (fun l hl x hx=>?_) fun x hx=>?_
    ·obtain⟨l',hl',rfl⟩:=Lc.1 hl
     exact h1 _ hl' _ (JZ.1 hx).1
    ·rcases Fk.1 hx with hx|hx
     ·exact h2 x hx
     ·rw[KN.1 hx];exact T0 h1 hy
theorem Da {g:List (List Int)} (hg:IK g) {c p:Int} (hp:p∈A5 g c):3≤p∧p<c:=by
 unfold A5 at hp;split at hp
 ·cases hp
 ·rename_i hc
  rw[DL]at hp;cases hq:g[(c - 3).toNat]? with
  | none=>rw[hq]at hp;cases hp
  | some l=>
    rw[hq]at hp;obtain⟨_,_,h⟩:=hg.2 _ _ hq;have:=h p hp;omega
theorem C7 {g:List (List Int)} (hg:IK g) (c:Int):(A5 g c).length≤3:=by
 unfold A5;split
 ·simp
 ·rw[DL]
  cases hq:g[(c - 3).toNat]? with
  | none=>simp
  | some l=>exact(hg.2 _ _ hq).1
theorem Gn {g os:List (List Int)} {c:Int} {ls:List (List Int)} (h:EY g os c=some ls):ls=(A5 g c).map (fun p=>(os.getD p.toNat []).filter (· != 0))++[A5 g c]:=by
 unfold EY at h;split at h
 ·cases h
 ·exact(Option.some.inj h).symm
theorem TX {os:List (List Int)} {B:Nat} (h: ∀o∈os,o.length≤B) (n:Nat):(os.getD n []).length≤B:=by
 rw[DL];cases hq:os[n]? with
 | none=>simp
 | some l=>exact h _ (B2 hq)
theorem OL {os:List (List Int)} {Q:Int→Prop} (h: ∀o∈os,∀x∈o,Q x) (n:Nat): ∀x∈os.getD n [],Q x:=by
 rw[DL];cases hq:os[n]? with
 | none=>simp
 | some l=>exact h _ (B2 hq)
theorem FW {g os:List (List Int)} {c:Int} {ls:List (List Int)} (h:EY g os c=some ls) {B:Nat} (Z: ∀o∈os,o.length≤B):total ls≤(A5 g c).length*(B+1):=by
 rw[Gn h];simp only[total,SN,List.map_map,List.sum_append,FC,List.map_nil,List.sum_cons,List.sum_nil,Nat.add_zero]
 have: ∀ps:List Int,(ps.map (List.length∘fun p=>(os.getD p.toNat []).filter (· != 0))).sum≤ps.length*B:=fun ps=>by
  induction ps with
  | nil=>simp
  | cons p r ih=>
    simp only[FC,List.sum_cons,Function.comp,LX,Nat.succ_mul];have h1:=LV (· != 0) (os.getD p.toNat []);have h2:=TX Z p.toNat;simp only[Function.comp_def]at *;omega
 have:=this (A5 g c);rw[Nat.mul_add,Nat.mul_one];simp only[Function.comp_def]at *;omega
theorem T2 {g os:List (List Int)} {c:Int} {B:Nat} (Z: ∀o∈os,o.length≤B):(D5 g os c).length≤(A5 g c).length*(B+1)+2:=by
 unfold D5;split
 ·simp
 ·rename_i ls h
  have h1:=FW h Z;have h2:=H4 (total ls) ls [];simp only[List.length_nil,G6]at h2;split
  ·simp only[PT,List.length_singleton,CN]
   omega
  ·simp
theorem PS {g os:List (List Int)} {c:Int} (hg:IK g) (hc:0≤c) (h: ∀o∈os,∀x∈o,(0:Int)≤x): ∀x∈D5 g os c,0≤x:=by
 unfold D5;split
 ·simp
 ·rename_i ls hl
  split
  ·intro x hx
   have hls: ∀l∈ls,∀x∈l,(0:Int)≤x:=by
    rw[Gn hl];intro l hl x hx;rcases Fk.1 hl with hl|hl
    ·obtain⟨p,_,rfl⟩:=Lc.1 hl
     exact OL h p.toNat x (JZ.1 hx).1
    ·rw[KN.1 hl]at hx
     have:=Da hg hx;omega
   simp only[Fk,KN]at hx;rcases hx with(rfl|hx)|rfl
   ·exact hc
   ·exact Jj _ _ _ hls (by simp) x hx
   ·exact Int.le_refl _
  ·simp
def Im (k:Nat):Nat:=5*3 ^ (k - 3) - 3
theorem jK (n:Nat):1≤3 ^ n:=Nat.one_le_pow _ _ (by omega)
theorem IB {g:List (List Int)} (hg:IK g): ∀(k:Nat),∀o∈Bj g k,o.length≤Im k∧ ∀x∈o,(0:Int)≤x
 | 0,o,ho=>by
   simp only[Bj,KN]at ho;subst ho;simp[Im]
 | k + 1,o,ho=>by
   have ih:=IB hg k
   have hmono:Im k≤Im (k+1):=by
    unfold Im;have:3 ^ (k - 3)≤3 ^ (k+1 - 3):=Nat.pow_le_pow_right (by omega) (by omega);omega
   simp only[Bj,Fk,KN]at ho;rcases ho with ho|rfl
   ·exact⟨Nat.le_trans (ih o ho).1 hmono,(ih o ho).2⟩
   ·refine⟨?_,PS hg (by omega) fun o ho=>(ih o ho).2⟩
    have h1:=T2 (g:=g) (c:=(k:Int)+1) fun o ho=>(ih o ho).1
    by_cases hk:k<3
    ·have:A5 g ((k:Int)+1)= []:=by
      apply List.eq_nil_iff_forall_not_mem.2;intro p hp;have:=Da hg hp;omega
     rw[this]at h1
     have:Im (k+1)=2:=by
      have:k+1 - 3=0:=by omega
      simp[Im,this]
     simpa[this]using h1
    ·have h2:=C7 hg ((k:Int)+1)
     have h3:(A5 g ((k:Int)+1)).length*(Im k+1)≤3*(Im k+1):=SO _ h2;have:k+1 - 3=(k - 3)+1:=by omega
     unfold Im at *;rw[this,Nat.pow_succ];have:=jK (k - 3);omega
theorem XM {k:Nat} (h:k≤18):Im k≤71744535:=by
 unfold Im;have:3 ^ (k - 3)≤3 ^ 15:=Nat.pow_le_pow_right (by omega) (by omega);have e:(3:Nat) ^ 15=14348907:=by decide
 omega
theorem E9 {g:List (List Int)}: ∀ {k j:Nat},j≤k→(Bj g k)[j]? =(Bj g j)[j]?
 | 0,j,h=>by(obtain rfl:j=0:=by omega);rfl
 | k+1,j,h=>by
   by_cases e:j=k+1
   ·subst e;rfl
   ·rw[←E9 (k:=k) (by omega),Bj,dF (by rw[Cj];omega)]
theorem VL {g os:List (List Int)} {c:Int} {ls:List (List Int)} (hg:IK g) (h:EY g os c=some ls) {B:Nat} (Z: ∀o∈os,o.length≤B∧ ∀x∈o,(0:Int)≤x) (hb:B≤100000000):Lf ls∧total ls<Ad:=by
 have h3:=C7 hg c;have ht:=FW h fun o ho=>(Z o ho).1
 have:(A5 g c).length*(B+1)≤3*(B+1):=SO _ h3;have htl:total ls<Ad:=by simp only[Ad];omega
 refine⟨⟨?_,fun l hl=>⟨?_,?_⟩⟩,htl⟩
 ·rw[Gn h]
  simp only[PT,BE,List.length_singleton,Ad];omega
 ·have:=Xn hl
  simp only[Ad]at *;omega
 ·intro x hx
  rw[Gn h]at hl;rcases Fk.1 hl with hl|hl
  ·obtain⟨p,_,rfl⟩:=Lc.1 hl
   exact OL (fun o ho=>(Z o ho).2) p.toNat x (JZ.1 hx).1
  ·rw[KN.1 hl]at hx
   have:=Da hg hx;omega
theorem X9 (g:List (List Int)) (f:Bool) (hg:IK g):Pure Tryz.prog 155 [.l (En g) f] (.l (En (B9 g)) false):=by
 refine mh nb ?_
 conv=>whnf
 repeat((first|(refine Ax ?_;intro K U)|(refine AZ ?_;intro I C G F)|(apply G;clear F C G I)|(apply U;clear U K)|fail);conv=>whnf)
 have hg16:=hg.1;have hgm:g.length≤Ad:=by simp only[Ad];omega
 refine⟨.l (En [[0]]) true,emp,fun _ _ h=>h,.l (fun _=>rfl) (.cons (.cons (.l (fun h=>(by cases h)) (.refl _ _ _)) .nil) .nil),?_⟩
 conv=>whnf
 repeat((first|(refine Ax ?_;intro K U)|(refine AZ ?_;intro I C G F)|(apply G;clear F C G I)|refine Bk ?_|refine Dk ?_|(apply U;clear U K)|fail);conv=>whnf)
 refine B4 (2+g.length) (fun k v=>[(3,v),(4,eI (KX 1 k))]) (fun k v=>[.own v 1 (En (Bj g k))]) (fun _ _=>True) (.l (En [[0]]) true) rfl trivial (df Sat.nil (by simp)) ?_;rintro k v σ hk - hs;have hc1:KX 1 k=(k:Int)+1:=by rw[NV (by omega) (by omega)];omega
 have hw:IntKind.i64.wrap (3+((En g).length:Nat))=3+(g.length:Int):=by rw[BE,wrap64 (by omega) (by omega)]
 conv=>whnf
 repeat((first|refine⟨rfl,?_⟩|refine FG ?_|(refine Ax ?_;intro K U)|(refine AZ ?_;intro I C G F)|(apply G;clear F C G I)|refine B1 ?_|(apply U;clear U K)|fail);conv=>whnf)
 rw[hc1];rw[hw];refine fork (fun hlt=>?_) (fun hlt=>?_)
 ·have hlt':k<2+g.length:=by omega
  have Z:=IB hg k;have hb18:Im k≤71744535:=XM (by omega);have hc2:KX 1 (k+1)=IntKind.i64.wrap ((k:Int)+1+1):=by rw[KX,hc1]
  conv=>whnf
  repeat((first|(refine Ax ?_;intro K U)|(refine AZ ?_;intro I C G F)|refine B3 ?_|refine Bk ?_|(apply U;clear U K)|fail);conv=>whnf)
  refine⟨.l (iL []) false,σ,fun _ _ h=>h,.l (fun h=>(by cases h)) (.refl _ _ _),?_⟩
  conv=>whnf
  repeat((first|(refine Ax ?_;intro K U)|(refine AZ ?_;intro I C G F)|(apply G;clear F C G I)|(apply U;clear U K)|fail);conv=>whnf)
  refine(bu g (Bj g k) f v ((k:Int)+1) (by omega) hgm (fun o ho=>by have:=(Z o ho).1;simp only[Ad];omega) (by have:=C7 hg ((k:Int)+1);omega)
   (fun p hp=>by have:=Da hg hp;rw[Cj];omega)).use (rest:=[]) hs ?_
  rintro r post σ' ⟨rfl,rfl⟩ hs;cases hl:EY g (Bj g k) ((k:Int)+1)with
  | none=>
    conv=>whnf
    repeat((first|refine RY ?_|(refine Ax ?_;intro K U)|(refine AZ ?_;intro I C G F)|(apply G;clear F C G I)|refine B1 ?_|refine B3 ?_|(apply U;clear U K)|fail);conv=>whnf)
    refine Ft hs 0 (x:=[]) rfl (by rw[Cj];simp only[Ad];omega) DJ fun v' σ' hs'=>?_
    conv=>whnf
    refine⟨v',σ',fun _ _ h=>h,.refl _,?_⟩
    conv=>whnf
    repeat((first|refine⟨rfl,?_⟩|(refine AZ ?_;intro I C G F)|(apply G;clear F C G I)|(apply U;clear U K)|(clear U K));conv=>whnf)
    refine⟨hlt',v',?_,trivial,?_⟩
    ·skip
     rw[hc2];rfl
    ·have:D5 g (Bj g k) ((k:Int)+1)= []:=by simp[D5,hl,]
     rw[Bj,this];exact hs'
  | some ls=>
    obtain⟨hok,htot⟩:=VL hg hl Z (by omega)
    conv=>whnf
    repeat((first|refine Lx ?_|(refine Ax ?_;intro K U)|(refine AZ ?_;intro I C G F)|(apply G;clear F C G I)|refine B1 ?_|(apply U;clear U K)|fail);conv=>whnf)
    refine(br ls false hok htot).use ?_;have hml:=H4 (total ls) ls [];simp only[List.length_nil,G6]at hml
    conv=>whnf
    repeat((first|(refine Ax ?_;intro K U)|(refine AZ ?_;intro I C G F)|(apply G;clear F C G I)|refine B1 ?_|(apply U;clear U K)|fail);conv=>whnf)
    refine⟨fun h=>?_,fun h=>?_⟩<;>(try rw[h])
    ·conv=>whnf
     repeat((first|(refine AZ ?_;intro I C G F)|fail);conv=>whnf)
     refine HL (df hs (by simp)) 1 (xs:=[(k:Int)+1]) rfl (by simp[CN];have:=FW hl fun o ho=>(Z o ho).1;have h3:=C7 hg ((k:Int)+1);have:(A5 g ((k:Int)+1)).length*(Im k+1)≤3*(Im k+1):=SO _ h3;simp only[Ad]at *;omega) Bq fun u σ1 hs=>?_
     conv=>whnf
     refine Ft hs 1 (x:=0) rfl (by simp[CN];have:=FW hl fun o ho=>(Z o ho).1;have h3:=C7 hg ((k:Int)+1);have:(A5 g ((k:Int)+1)).length*(Im k+1)≤3*(Im k+1):=SO _ h3;simp only[Ad]at *;omega) Bq fun u σ1 hs=>?_
     conv=>whnf
     refine ie hs 1 rfl fun σ' hs=>?_
     conv=>whnf
     repeat((first|(refine AZ ?_;intro I C G F)|(apply G;clear F C G I)|(apply U;clear U K)|fail);conv=>whnf)
     refine Ft hs 0 (x:=([(k:Int)+1]++(CN ls).1++[0])) rfl (by rw[Cj];simp only[Ad];omega) DJ fun v' σ' hs'=>?_
     conv=>whnf
     refine⟨v',σ',fun _ _ h=>h,.refl _,?_⟩
     conv=>whnf
     repeat((first|refine⟨rfl,?_⟩|(refine AZ ?_;intro I C G F)|(apply G;clear F C G I)|(apply U;clear U K)|(clear U K));conv=>whnf)
     refine⟨hlt',v',?_,trivial,?_⟩
     ·skip
      rw[hc2];rfl
     ·have:D5 g (Bj g k) ((k:Int)+1)=([(k:Int)+1]++(CN ls).1++[0]):=by simp[D5,hl,h]
      rw[Bj,this];exact hs'
    ·conv=>whnf
     repeat((first|(refine AZ ?_;intro I C G F)|refine B3 ?_|(apply U;clear U K)|fail);conv=>whnf)
     refine Ft hs 0 (x:=[]) rfl (by rw[Cj];simp only[Ad];omega) DJ fun v' σ' hs'=>?_
     conv=>whnf
     refine⟨v',σ',fun _ _ h=>h,.refl _,?_⟩
     conv=>whnf
     repeat((first|refine⟨rfl,?_⟩|(refine AZ ?_;intro I C G F)|(apply G;clear F C G I)|(apply U;clear U K)|(clear U K));conv=>whnf)
     refine⟨hlt',v',?_,trivial,?_⟩
     ·skip
      rw[hc2];rfl
     ·have:D5 g (Bj g k) ((k:Int)+1)= []:=by simp[D5,hl,h]
      rw[Bj,this];exact hs'
 ·conv=>whnf
  repeat((first|(refine Ax ?_;intro K U)|(refine AZ ?_;intro I C G F)|(apply G;clear F C G I)|refine Dl ?_|refine EM ?_|(apply U;clear U K)|(clear U K));conv=>whnf)
  have hke:k=2+g.length:=by omega
  subst hke;exact EX hs 0 rfl rfl
end Go.Gl
namespace Go.Gl
def par (ps:List (List Int)) (c:Nat):List Int:=if c<3 then []else ps.getD (c - 3) []
def ordered (ps:List (List Int)):Prop:= ∀c p,p∈par ps c→3≤p∧p<(c:Int)
def ZD (ps:List (List Int)):Nat→Nat→Nat→Bool
 | 0,c,b=>c==b
 | f+1,c,b=>c==b||(par ps c).any fun p=>ZD ps f p.toNat b
def JV (ps:List (List Int)) (c b:Nat):Bool:=ZD ps c c b
theorem J5 {ps:List (List Int)} (ho:ordered ps): ∀(f c b:Nat),c≤f→ZD ps f c b=JV ps c b
 | 0,c,b,h=>by(obtain rfl:c=0:=by omega);rfl
 | f + 1,c,b,h=>by
   cases c with
   | zero=>
     have:par ps 0= []:=rfl;simp[JV,ZD,this]
   | succ c=>
     simp only[JV,ZD];congr 1
     have key: ∀l:List Int,(∀p∈l,p∈par ps (c+1))→(l.any fun p=>ZD ps f p.toNat b)=l.any fun p=>ZD ps c p.toNat b:=by
      intro l hl
      induction l with
      | nil=>rfl
      | cons p r ih=>
        have hp:=ho (c+1) p (hl p (.head _));simp only[Q6];rw[ih fun q hq=>hl q (.tail _ hq),J5 ho f p.toNat b (by omega),J5 ho c p.toNat b (by omega)]
     exact key _ fun p hp=>hp
theorem E4 {ps:List (List Int)} (ho:ordered ps) (c b:Nat):JV ps c b=(c==b||(par ps c).any fun p=>JV ps p.toNat b):=by
 cases c with
 | zero=>simp[JV,ZD,par]
 | succ c=>
   simp only[JV,ZD];congr 1
   have key: ∀l:List Int,(∀p∈l,p∈par ps (c+1))→(l.any fun p=>ZD ps c p.toNat b)=l.any fun p=>ZD ps p.toNat p.toNat b:=by
    intro l hl
    induction l with
    | nil=>rfl
    | cons p r ih=>
      have hp:=ho (c+1) p (hl p (.head _));simp only[Q6];rw[ih fun q hq=>hl q (.tail _ hq),J5 ho c p.toNat b (by omega)];rfl
   exact key _ fun p hp=>hp
theorem Fg {ps:List (List Int)} (ho:ordered ps) (c:Nat):JV ps c c=true:=by rw[E4 ho];simp
theorem Zn {ps:List (List Int)} (ho:ordered ps): ∀(c b:Nat),JV ps c b=true→b≤c:=by
 intro c
 induction c using Nat.strongRecOn with
 | _ c ih=>
   intro b h;rw[E4 ho]at h;simp only[Fx,D1,JY]at h;rcases h with rfl|⟨p,hp,h⟩
   ·omega
   ·have:=ho c p hp
    have:=ih p.toNat (by omega) b h;omega
theorem L2 {ps:List (List Int)} (ho:ordered ps): ∀(a b c:Nat),JV ps a b=true→JV ps b c=true→JV ps a c=true:=by
 intro a
 induction a using Nat.strongRecOn with
 | _ a ih=>
   intro b c h k;rw[E4 ho]at h ⊢;simp only[Fx,D1,JY]at h ⊢;rcases h with rfl|⟨p,hp,h⟩
   ·rw[E4 ho]at k
    simpa using k
   ·have:=ho a p hp
    exact .inr ⟨p,hp,ih p.toNat (by omega) b c h k⟩
def Fc (bs:List Bool) (i:Nat):List Int→List Bool
 | []=>bs
 | p::r=>Fc (bs.set p.toNat (bs.getD p.toNat false||bs.getD i false)) i r
theorem LM (i:Nat): ∀(a b:List Int) (bs:List Bool),Fc bs i (a++b)=Fc (Fc bs i a) i b
 | [],b,bs=>rfl
 | p::r,b,bs=>by simp only[List.cons_append,Fc];exact LM i r b _
theorem MB (i:Nat): ∀(l:List Int) (bs:List Bool),(Fc bs i l).length=bs.length
 | [],bs=>rfl
 | p::r,bs=>by simp only[Fc];rw[MB i r];simp
def G7 (ps:List (List Int)) (n c:Nat):Nat→List Bool
 | 0=>(List.replicate n false).set c true
 | k+1=>Fc (G7 ps n c k) (c - k) (par ps (c - k))
theorem Kj (ps:List (List Int)) (n c:Nat): ∀k,(G7 ps n c k).length=n
 | 0=>by simp[G7]
 | k+1=>by simp only[G7];rw[MB,Kj ps n c k]
theorem EV {bs:List Bool} {j:Nat} {x:Bool} (hj:j<bs.length) (b:Nat):(bs.set j x).getD b false=if b=j then x else bs.getD b false:=by
 simp only[DL,List.getElem?_set];by_cases h:j=b
 ·subst h;simp[hj]
 ·rw[if_neg h,if_neg (fun e=>h e.symm)]
theorem MC {i:Nat}: ∀(l:List Int) (bs:List Bool),(∀p∈l,0≤p∧p.toNat<bs.length∧p.toNat<i)→ ∀b,(Fc bs i l).getD b false=(bs.getD b false||(bs.getD i false&&l.contains (b:Int)))
 | [],bs,_,b=>by simp[Fc]
 | p ::r,bs,h,b=>by
   obtain⟨h1,h2,h3⟩:=h p (.head _);simp only[Fc];have hi:i≠p.toNat:=by omega
   rw[MC r _ (fun q hq=>by have:=h q (.tail _ hq);simpa using this),EV h2,EV h2,if_neg hi];by_cases hb:b=p.toNat
   ·subst hb
    have:((p.toNat:Nat):Int)=p:=by omega
    simp only[if_true,this,List.contains_cons,beq_self_eq_true,Bool.true_or,Bool.and_true];cases bs.getD p.toNat false<;>cases bs.getD i false<;>simp
   ·rw[if_neg hb]
    have:((b:Int)==p)=false:=by simp;omega
    simp only[List.contains_cons,this,Bool.false_or]
theorem S4 {ps:List (List Int)} (ho:ordered ps) {n c:Nat} (hc:c<n): ∀k,k≤c - 2→(∀b,(G7 ps n c k).getD b false=true→JV ps c b=true)∧(G7 ps n c k).getD c false=true∧
 (∀j p,c - k<j→(G7 ps n c k).getD j false=true→p∈par ps j→(G7 ps n c k).getD p.toNat false=true)
 | 0,_=>by
   have hg: ∀b,(G7 ps n c 0).getD b false=decide (b=c):=fun b=>by
    simp only[G7];rw[EV (by simpa using hc)];by_cases h:b=c
    ·simp[h]
    ·rw[if_neg h]
     simp[h,DL,List.getElem?_replicate];split<;>rfl
   refine⟨fun b hb=>?_,by rw[hg];simp,fun j p hj hb hp=>?_⟩
   ·rw[hg]at hb
    simp only[CX]at hb;subst hb;exact Fg ho _
   ·rw[hg]at hb
    simp only[CX]at hb;omega
 | k + 1,hk=>by
   obtain⟨h1,h2,h3⟩:=S4 ho hc k (by omega)
   have hpar: ∀p∈par ps (c - k),0≤p∧p.toNat<(G7 ps n c k).length∧p.toNat<c - k:=fun p hp=>by
    have:=ho _ p hp;rw[Kj];omega
   have hg: ∀b,(G7 ps n c (k+1)).getD b false=((G7 ps n c k).getD b false||((G7 ps n c k).getD (c - k) false&&(par ps (c - k)).contains (b:Int))):=fun b=>by
    simp only[G7];exact MC _ _ hpar b
   refine⟨fun b hb=>?_,by rw[hg,h2];rfl,fun j p hj hb hp=>?_⟩
   ·rw[hg]at hb
    simp only[Fx,BZ,List.contains_iff_mem]at hb;rcases hb with hb|⟨hb,hm⟩
    ·exact h1 b hb
    ·refine L2 ho c (c - k) b (h1 _ hb) ?_
     rw[E4 ho];simp only[Fx,JY];exact .inr ⟨b,hm,by simpa using Fg ho b⟩
   ·have hjp:=ho j p hp
    have hb':(G7 ps n c k).getD j false=true:=by
     rw[hg]at hb;simp only[Fx,BZ,List.contains_iff_mem]at hb;rcases hb with hb|⟨_,hm⟩
     ·exact hb
     ·have:=ho _ _ hm
      omega
    rw[hg];by_cases e:j=c - k
    ·subst e
     rw[hb'];have:((p.toNat:Nat):Int)=p:=by omega
     simp only[this,Fm,Fx,List.contains_iff_mem];exact .inr hp
    ·rw[h3 j p (by omega) hb' hp]
     rfl
theorem WN {ps:List (List Int)} (ho:ordered ps) {n c:Nat} (hc:c<n) (b:Nat):(G7 ps n c (c - 2)).getD b false=JV ps c b:=by
 obtain⟨h1,h2,h3⟩:=S4 ho hc (c - 2) (JU _)
 have key: ∀a,(G7 ps n c (c - 2)).getD a false=true→ ∀b,JV ps a b=true→(G7 ps n c (c - 2)).getD b false=true:=by
  intro a
  induction a using Nat.strongRecOn with
  | _ a ih=>
    intro ha b hb;rw[E4 ho]at hb;simp only[Fx,D1,JY]at hb;rcases hb with rfl|⟨p,hp,hb⟩
    ·exact ha
    ·have:=ho a p hp
     exact ih p.toNat (by omega) (h3 a p (by omega) ha hp) b hb
 cases hb:JV ps c b with
 | true=>exact key c h2 b hb
 | false=>
   cases hq:(G7 ps n c (c - 2)).getD b false with
   | false=>rfl
   | true=>rw[h1 b hq]at hb;cases hb
end Go.Gl
namespace Go.Gl
open Go.Proofs
attribute [local irreducible] BL A4 Aj AW AM Ai AV AX AN Ah AS AU A8 BJ Sat Ac BF Ak W
theorem jm (g:List (List Int)) (f:Bool) (c:Int) (hg:IK g) (h0:0≤c) (h1:c<3+g.length):Pure Tryz.prog 124 [.l (En g) f,eI c] (.t [.l (iL ((B9 g).getD c.toNat [])) false,.b (!((B9 g).getD c.toNat []).isEmpty)]):=by
 refine nT nb ?_
 conv=>whnf
 repeat((first|(refine Ax ?_;intro K U)|(refine AZ ?_;intro I C G F)|(apply G;clear F C G I)|(apply U;clear U K)|fail);conv=>whnf)
 refine(X9 g f hg).use ?_
 conv=>whnf
 have hlen:=Cj g (2+g.length);have hlt:c.toNat<(B9 g).length:=by unfold B9;omega
 have hq:=Cu hlt;refine Se c.toNat hq (by omega) rfl ?_
 conv=>whnf
 repeat((first|refine⟨rfl,?_⟩|refine Bz ?_|refine FG ?_|(refine Ax ?_;intro K U)|(refine AZ ?_;intro I C G F)|(apply G;clear F C G I)|refine EM ?_|(apply U;clear U K)|fail);conv=>whnf)
 refine AI ?_;rw[DL,hq,Option.getD_some];cases(B9 g)[c.toNat]with
 | nil=>rfl
 | cons _ _=>simp
def vJ (w:AK):Prop:=w.parents.length≤1000∧(∀l∈w.parents,l.length≤Ad)∧w.owner.length≤Ad
theorem Zr {ps:List (List Int)} {c:Nat} (h3:3≤c) (hc:c<3+ps.length):ps[c - 3]? =some (par ps c):=by
 unfold par;rw[if_neg (by omega),DL,Cu (by omega)];rfl
theorem WI {bs:List Bool} {j:Nat} (h:j<bs.length):(bL bs)[j]? =some [.b (bs.getD j false)]:=by
 rw[LZ,DL,Cu h];rfl
theorem Ux (bs:List Bool) (j:Nat) (x:Bool):(bL bs).set j [.b x]=bL (bs.set j x):=by
 simp[bL,List.map_set]
theorem pN (w:AK) (c:Nat) (hw:vJ w) (ho:ordered w.parents) (hc:c<3+w.parents.length):Pure Tryz.prog 153 [.a (A2 w),eI c] (.l (bL (G7 w.parents (3+w.parents.length) c (c - 2))) false):=by
 obtain⟨hw1,hw2,hw3⟩:=hw;have hmL:3+w.parents.length≤Ad:=by simp only[Ad];omega
 refine ml nb ?_
 conv=>whnf
 repeat((first|refine⟨rfl,?_⟩|refine Bz ?_|refine FG ?_|(refine Ax ?_;intro K U)|(refine AZ ?_;intro I C G F)|(apply G;clear F C G I)|(apply U;clear U K)|fail);conv=>whnf)
 rw[show IntKind.i64.wrap (3+((En w.parents).length:Nat))=((3+w.parents.length:Nat):Int) by rw[BE,wrap64 (by omega) (by omega)];omega];refine vF Sat.nil (by omega) fun v σ hs hv=>?_
 obtain⟨id,rfl⟩:=hv
 conv=>whnf
 repeat((first|(refine Ax ?_;intro K U)|(refine AZ ?_;intro I C G F)|(apply G;clear F C G I)|(apply U;clear U K)|fail);conv=>whnf)
 refine dJ hs 0 c rfl rfl (by simpa using hc) ?_
 conv=>whnf
 refine K5 hs 0 rfl (e:=[.b false]) (by simp[hc]) rfl rfl rfl rfl rfl fun σ hs=>?_
 have e0:(List.replicate (3+w.parents.length) [V.b false]).set c [V.b true]=bL (G7 w.parents (3+w.parents.length) c 0):=by
  simp only[G7];rw[←Ux];simp[bL]
 conv=>whnf
 repeat((first|(refine Ax ?_;intro K U)|(refine AZ ?_;intro I C G F)|(apply G;clear F C G I)|refine Bk ?_|refine Dk ?_|(apply U;clear U K)|fail);conv=>whnf)
 refine B4 (c - 2) (fun k (_:Unit)=>[(6,eI (My c k))]) (fun k _=>[.own (.sl id (3+w.parents.length) (3+w.parents.length)) 1 (bL (G7 w.parents (3+w.parents.length) c k))]) (fun _ _=>True) () rfl trivial (e0 ▸ hs) ?_;rintro k - σ hk - hs;have hd:My c k=(c:Int) - k:=Rz (by omega) (by omega);have hul:=Kj w.parents (3+w.parents.length) c k
 conv=>whnf
 repeat((first|refine⟨rfl,?_⟩|(refine Ax ?_;intro K U)|(refine AZ ?_;intro I C G F)|(apply G;clear F C G I)|refine B1 ?_|(apply U;clear U K)|fail);conv=>whnf)
 refine fork (fun hlt=>?_) (fun hlt=>?_)
 ·rw [hd]at hlt
  have h3:3≤c - k:=by omega
  have hpar:=Zr (ps:=w.parents) h3 (by omega);have hpl:=hw2 _ (B2 hpar)
  conv=>whnf
  repeat((first|refine⟨rfl,?_⟩|refine Bz ?_|(refine Ax ?_;intro K U)|(refine AZ ?_;intro I C G F)|refine B3 ?_|refine Bk ?_|(apply U;clear U K)|fail);conv=>whnf)
  refine Se (c - k - 3) hpar (by rw[hd,wrap64 (by omega) (by omega)];omega) rfl ?_
  conv=>whnf
  repeat((first|refine Bz ?_|refine FG ?_|(apply G;clear F C G I)|refine Bk ?_|refine Dk ?_|(apply U;clear U K)|fail);conv=>whnf)
  refine B4 (par w.parents (c - k)).length (fun j (_:Unit)=>[(29,eI (A6 j))]) (fun j _=>[.own (.sl id (3+w.parents.length) (3+w.parents.length)) 1 (bL (Fc (G7 w.parents (3+w.parents.length) c k) (c - k) ((par w.parents (c - k)).take j)))]) (fun _ _=>True) () rfl trivial hs ?_;rintro j - σ hj - hs;have hml:=MB (c - k) ((par w.parents (c - k)).take j) (G7 w.parents (3+w.parents.length) c k)
  conv=>whnf
  repeat((first|refine⟨rfl,?_⟩|(refine Ax ?_;intro K U)|(refine AZ ?_;intro I C G F)|(apply G;clear F C G I)|refine B1 ?_|(apply U;clear U K)|fail);conv=>whnf)
  refine GI hj hpl (fun p hp hjlt=>?_) fun hj=>?_
  ·have hpp:=ho _ p (B2 hp)
   have hm:(Fc (G7 w.parents (3+w.parents.length) c k) (c - k) ((par w.parents (c - k)).take (j+1)))=(Fc (G7 w.parents (3+w.parents.length) c k) (c - k) ((par w.parents (c - k)).take j)).set p.toNat
    ((Fc (G7 w.parents (3+w.parents.length) c k) (c - k) ((par w.parents (c - k)).take j)).getD p.toNat false||(Fc (G7 w.parents (3+w.parents.length) c k) (c - k) ((par w.parents (c - k)).take j)).getD (c - k) false):=by
    rw[AR hp,LM];rfl
   generalize hbs:Fc (G7 w.parents (3+w.parents.length) c k) (c - k) ((par w.parents (c - k)).take j)=bs at *;have hlp:p.toNat<bs.length:=by omega
   have hlc:c - k<bs.length:=by omega
   conv=>whnf
   repeat((first|(refine Ax ?_;intro K U)|(refine AZ ?_;intro I C G F)|refine B3 ?_|refine Bk ?_|(apply U;clear U K)|fail);conv=>whnf)
   refine Io hp hpl rfl ?_
   conv=>whnf
   repeat((first|refine Bz ?_|(refine AZ ?_;intro I C G F)|(apply G;clear F C G I)|(apply U;clear U K)|fail);conv=>whnf)
   refine dJ hs 0 p.toNat rfl (by omega) (by simpa using hlp) ?_
   conv=>whnf
   refine Hv hs 0 rfl (WI hlp) ?_
   conv=>whnf
   cases hb:bs.getD p.toNat false with
   | true=>
     rw[hb]at hm
     conv=>whnf
     repeat((first|refine XP ?_|fail);conv=>whnf)
     refine dJ hs 0 p.toNat rfl (by omega) (by simpa using hlp) ?_
     conv=>whnf
     refine K5 hs 0 rfl (WI hlp) rfl rfl rfl rfl rfl fun σ hs=>?_
     conv=>whnf
     repeat((first|refine⟨rfl,?_⟩|(refine AZ ?_;intro I C G F)|(apply G;clear F C G I)|(apply U;clear U K)|(clear U K));conv=>whnf)
     refine⟨hjlt,(),rfl,trivial,?_⟩;rw[hm,←Ux];exact hs
   | false=>
     rw[hb]at hm
     conv=>whnf
     repeat((first|refine R3 ?_|fail);conv=>whnf)
     refine dJ hs 0 (c - k) rfl (by rw[hd];omega) (by simpa using hlc) ?_
     conv=>whnf
     repeat((first|refine R3 ?_|fail);conv=>whnf)
     refine Hv hs 0 rfl (WI hlc) ?_
     conv=>whnf
     refine dJ hs 0 p.toNat rfl (by omega) (by simpa using hlp) ?_
     conv=>whnf
     refine K5 hs 0 rfl (WI hlp) rfl rfl rfl rfl rfl fun σ hs=>?_
     conv=>whnf
     repeat((first|refine⟨rfl,?_⟩|(refine AZ ?_;intro I C G F)|(apply G;clear F C G I)|(apply U;clear U K)|(clear U K));conv=>whnf)
     refine⟨hjlt,(),rfl,trivial,?_⟩;rw[hm,←Ux];exact hs
  ·rw[Ar hj]at hs
   conv=>whnf
   repeat((first|refine⟨rfl,?_⟩|(refine AZ ?_;intro I C G F)|(apply G;clear F C G I)|refine Dl ?_|(apply U;clear U K)|(clear U K));conv=>whnf)
   refine⟨by omega,(),rfl,trivial,hs⟩
 ·rw[hd]at hlt
  conv=>whnf
  repeat((first|(refine Ax ?_;intro K U)|(refine AZ ?_;intro I C G F)|(apply G;clear F C G I)|refine Dl ?_|refine EM ?_|(apply U;clear U K)|(clear U K));conv=>whnf)
  have:k=c - 2:=by omega
  subst this;exact EX hs 0 rfl rfl
end Go.Gl
namespace Go.Gl
variable {P:Program} {σ σ':AH}
mutual
def FD:V→Prop
 | .i k n=>k.min≤n∧n≤k.max
 | .rp cs=>Hk cs
 | .l es _=>es.length≤Ad∧Sb es
 | .f _ a b=>Hk a∧Hk b
 | .KT _ v=>FD v
 | .a cs=>Hk cs
 | .t vs=>Hk vs
 | _=>True
def Hk:List V→Prop
 | []=>True
 | v::r=>FD v∧Hk r
def Sb:List (List V)→Prop
 | []=>True
 | e::r=>Hk e∧Sb r
end
mutual
theorem gh {H:Nat→Nat→Option Value}: ∀(v:V) (c:Value),Ae H v c→FD v
 | .b _,_,_| .s _,_,_| .pn,_,_| .p _ _,_,_| .sl _ _ _,_,_| .sv _ _ _ _,_,_| .pe _ _ _ _,_,_| .m _,_,_| .mn,_,_| .Ng,_,_| .Ie,_,_| .any,_,_=>by simp only[FD]
 | .i k n,_,h=>by
   simp only[Ae]at h;simp only[FD];exact h.2
 | .rp cs,_,h=>by
   simp only[Ae]at h;obtain⟨b,o,rfl,h⟩:=h;simp only[FD];exact Iz cs o h
 | .l es full,_,h=>by
   simp only[Ae]at h;obtain⟨a,cap,h1,h2,h3,h4,h5,h6⟩:=h;simp only[FD];refine⟨h4,?_⟩;cases es with
   | nil=>exact trivial
   | cons e es=>
     obtain⟨b,o,sz,h7,h8⟩:=h6 (by simp);exact Z7 (e::es) o h8
 | .f fn first cap,_,h=>by
   simp only[Ae]at h;obtain⟨f',c',h1,h2,h3,h4,h5⟩:=h;simp only[FD];exact⟨Iz first 0 h3,Iz cap 0 h5⟩
 | .KT t v,_,h=>by
   simp only[Ae]at h;obtain⟨c',h1,h2⟩:=h;simp only[FD];exact gh v c' h2
 | .a cs,_,h=>by
   simp only[Ae]at h;obtain⟨c',h1,h2,h3⟩:=h;simp only[FD];exact Iz cs 0 h3
 | .t cs,_,h=>by
   simp only[Ae]at h;obtain⟨c',h1,h2,h3⟩:=h;simp only[FD];exact Iz cs 0 h3
theorem Iz {H:Nat→Nat→Option Value} {g:Nat→Option Value}: ∀(vs:List V) (o:Nat),Be H g o vs→Hk vs
 | [],_,_=>trivial
 | v::vs,o,h=>by
   simp only[Be]at h;obtain⟨⟨c,h1,h2⟩,h3⟩:=h;exact⟨gh v c h2,Iz vs (o+1) h3⟩
theorem Z7 {H:Nat→Nat→Option Value} {g:Nat→Option Value} {sz:Nat}: ∀(es:List (List V)) (o:Nat),BW H g sz o es→Sb es
 | [],_,_=>trivial
 | e::es,o,h=>by
   simp only[BW]at h;obtain⟨h1,h2,h3⟩:=h;exact⟨Iz e o h2,Z7 es (o+sz) h3⟩
end
theorem BL.fit {f:FuncId} {args:List V} {Q:R→AH→Prop} (hok:okF P f=true) (h:Hk args→BL P f args σ Q):BL P f args σ Q:=
 ⟨hok,fun Λ w cs G hv=>(h (Iz args 0 hv.2)).2 Λ w cs G hv⟩
theorem Pure.fit {f:FuncId} {args:List V} {v:V} (hok:okF P f=true) (h:Hk args→Pure P f args v):Pure P f args v:=BL.fit hok h
theorem Bh.fit {f:FuncId} {args:List V} {pre:List At} {Φ:R→List At→Prop} (hok:okF P f=true) (h:Hk args→Bh P f args pre Φ):Bh P f args pre Φ:=fun σ hs=>BL.fit hok fun hf=>h hf σ hs
theorem cK {es:List (List V)}:Sb es↔ ∀e∈es,Hk e:=by
 induction es with
 | nil=>simp[Sb]
 | cons e r ih=>simp[Sb,ih]
theorem I3 {α:Type} {enc:α→List V} {xs:List α}:Sb (xs.map enc)↔ ∀x∈xs,Hk (enc x):=by
 rw[cK];simp
theorem Fq {es:List (List V)} {f:Bool}:FD (.l es f)↔es.length≤Ad∧Sb es:=Iff.rfl
theorem G0 {cs:List V}:FD (.a cs)↔Hk cs:=Iff.rfl
theorem Ry {cs:List V}:FD (.rp cs)↔Hk cs:=Iff.rfl
theorem DZ {v:V} {r:List V}:Hk (v::r)↔FD v∧Hk r:=Iff.rfl
theorem drop_cons {α:Type} {xs:List α} {k:Nat} {x:α} (h:xs[k]? =some x):xs.drop k=x::xs.drop (k+1):=by
 obtain⟨hk,rfl⟩:=Hi.1 h;exact List.drop_eq_getElem_cons hk
theorem Al {α:Type} {xs:List α} {k:Nat} (h:k=xs.length):xs.drop k= []:=List.drop_of_length_le (by omega)
end Go.Gl
namespace Go.Gl
variable {P:Program} {σ:AH} {env:Env}
class SW (AD:Prop) (G':outParam Prop):Prop where
 h:G'→AD
theorem st {AD G':Prop} [i:SW AD G'] (h:G'):AD:=i.h h
theorem sq {l:List Nat} {a b:AJ} {Q:As→Env→AH→Prop} (h: ∀K:Env→AH→Prop,(∀env σ,(pk l env fun E=>W P b Q E σ)→K env σ)→W P a (As.andThen K Q) env σ):W P (.seq l a b) Q env σ:=Ax h
class vH (AD:Prop) (G':outParam Prop):Prop where
 h:G'→AD
theorem si {AD G':Prop} [i:vH AD G'] (h:G'):AD:=i.h h
instance {ops:List Af} {Q:As→Env→AH→Prop}:vH (W P (.Av ops) Q env σ) (∀(I:Env→AH→Prop) (C:Env→V→AH→Prop),(∀env σ,Q .normal env σ→I env σ)→(∀env v σ,Q (.C8 v) env σ→C env v σ)→WT P ops I C env σ):=⟨AZ⟩
instance {l:List Nat} {ops:List DE} {Q:As→Env→AH→Prop}:vH (W P (.BX l ops) Q env σ) (∀(I:Env→AH→Prop) (C:V→AH→Prop),(∀env σ,(pk l env fun E=>Q .normal E σ)→I env σ)→(∀v σ,(∀σ',Sub σ σ'→Q (.C8 v) [] σ')→C v σ)→WD P ops I C env σ):=⟨gD⟩
instance {c:CM} {a b:AJ} {Q:As→Env→AH→Prop}:SW (W P (.cond c a b) Q env σ) (match ev env c with
 | some (.b t)=>(t=true→W P a Q env σ)∧(t=false→W P b Q env σ)
 | _=>False):=⟨B1⟩
instance {id:Nat} {a:AJ} {Q:As→Env→AH→Prop}:SW (W P (.block id a) Q env σ) (W P a (As.inBlock id Q) env σ):=⟨Bk⟩
instance {l:List Nat} {a:AJ} {Q:As→Env→AH→Prop}:SW (W P (.loop l a) Q env σ) (pk l env fun E=>Ak l a (W P a) Q E σ):=⟨Dk⟩
instance {id:Nat} {Q:As→Env→AH→Prop}:SW (W P (.exit id) Q env σ) (Q (.exit id) env σ):=⟨Dl⟩
instance {Q:As→Env→AH→Prop}:SW (W P .ret Q env σ) (Q .ret env σ):=⟨EM⟩
instance {Q:As→Env→AH→Prop}:SW (W P .skip Q env σ) (Q .normal env σ):=⟨B3⟩
instance {a:AJ} {Q:As→Env→AH→Prop}:SW (W P (.scope a) Q env σ) (W P a Q env σ):=⟨c7⟩
instance {l:List Nat} {g:CM} {ps:List Nat} {a b:AJ} {Q:As→Env→AH→Prop}:SW (W P (.De l g ps a b) Q env σ) (match ev env g with
 | some (.f (.func gf) [] cap)=>pk l env fun E=> ∀L,σ L=none→BL P gf (.f (.yield L) [] []::cap) (BC σ L (.loop .ready E (B7 P ps a b))) (J4 L Q env)
 | _=>False):=⟨c8⟩
instance {A B:Prop}:SW ((true=true→A)∧(true=false→B)) A:=⟨Lx⟩
instance {A B:Prop}:SW ((false=true→A)∧(false=false→B)) B:=⟨RY⟩
instance {A B:Prop}:SW ((false=false→A)∧(false=true→B)) A:=⟨R3⟩
instance {A B:Prop}:SW ((true=false→A)∧(true=true→B)) B:=⟨XP⟩
instance {A B:Prop} {b:Bool}:SW ((b=true→A)∧(b= !true→B)) ((b=true→A)∧(b=false→B)):=⟨id⟩
instance {A B:Prop} {b:Bool}:SW ((b=false→A)∧(b= !false→B)) ((b=false→A)∧(b=true→B)):=⟨id⟩
instance {agg:Option Nat} {cs:List V} {K:V→Prop}:SW (Ac σ agg (.rp cs) K) (cut agg cs 0 K):=⟨fun h=>h⟩
instance {es:List (List V)} {f:Bool} {K:V→Prop}:SW (BF (.l es f) K) (K (.i .i64 es.length)):=⟨FG⟩
theorem kc {K A:Env→AH→Prop} (h:A env σ) (hk: ∀env σ,A env σ→K env σ:=by assumption):K env σ:=hk _ _ h
theorem kp {K A:Env→V→AH→Prop} {v:V} (h:A env v σ) (hk: ∀env v σ,A env v σ→K env v σ:=by assumption):K env v σ:=hk _ _ _ h
theorem rk {x:Af} {r:List Af} {A:Prop} (h1:HN P x env σ) (h2:E6 P r env σ∧A):E6 P (x::r) env σ∧A:=⟨⟨h1,h2.1⟩,h2.2⟩
theorem dr {A:Prop} (h:A):E6 P [] env σ∧A:=⟨trivial,h⟩
class BP (b v:Bool) (p:outParam Prop):Prop where
 h:b=v→p
theorem bp {b v:Bool} {p:Prop} [i:BP b v p] (h:b=v):p:=i.h h
instance (priority:=low) {b v:Bool}:BP b v (b=v):=⟨id⟩
instance (priority:=mid) {p:Prop} [Decidable p]:BP (decide p) true p:=⟨of_decide_eq_true⟩
instance (priority:=mid) {p:Prop} [Decidable p]:BP (decide p) false (¬p):=⟨of_decide_eq_false⟩
instance {a b:Int}:BP (decide (a<b)) false (b≤a):=⟨fun h=>Int.not_lt.1 (of_decide_eq_false h)⟩
instance {a b:Int}:BP (decide (a≤b)) false (b<a):=⟨fun h=>Int.not_le.1 (of_decide_eq_false h)⟩
instance {a b:Int}:BP (a==b) true (a=b):=⟨fun h=>by simpa using h⟩
instance {a b:Int}:BP (a==b) false (a≠b):=⟨fun h=>by simpa using h⟩
instance {a b:Int}:BP (a != b) true (a≠b):=⟨fun h=>by simpa using h⟩
instance {a b:Int}:BP (a != b) false (a=b):=⟨fun h=>by simpa using h⟩
instance {b:Bool} {p:Prop} [i:BP b false p]:BP (!b) true p:=⟨fun h=>i.h (by simpa using h)⟩
instance {b:Bool} {p:Prop} [i:BP b true p]:BP (!b) false p:=⟨fun h=>i.h (by simpa using h)⟩
instance {b x v:Bool} {p:Prop} [i:BP b v p]:BP (bif false then x else b) v p:=⟨i.h⟩
instance {b x v:Bool} {p:Prop} [i:BP b v p]:BP (bif true then b else x) v p:=⟨i.h⟩
theorem fc {α:Type} {enc:α→List V} {xs:List α} {k:Nat} {A B:Prop} (h1: ∀x,xs[k]? =some x→k<xs.length→decide (A6 k<((xs.map enc).length:Nat))=true→A) (h2:k=xs.length→decide (A6 k<((xs.map enc).length:Nat))=false→B) (hk:k≤xs.length:=by assumption) (hm:xs.length≤Ad:=by first|assumption|omega|simp[Ad]<;>omega) :
 (decide (A6 k<((xs.map enc).length:Nat))=true→A)∧(decide (A6 k<((xs.map enc).length:Nat))=false→B):=
 ⟨fun h=>(GI (enc:=enc) (A:=A) (B:=True) hk hm (fun x hx hlt=>h1 x hx hlt h) fun _=>trivial).1 h,fun h=>(GI (enc:=enc) (A:=True) (B:=B) hk hm (fun _ _ _=>trivial) fun he=>h2 he h).2 h⟩
theorem ix {α:Type} {enc:α→List V} {xs:List α} {f:Bool} {sz:Nat} {K:V→Prop} {ki:IntKind} {k:Nat} {x:α} (h:K (.rp (enc x))) (hx:xs[k]? =some x:=by assumption) (hm:xs.length≤Ad:=by first|assumption|omega|simp[Ad]<;>omega) (hs:(enc x).length=sz:=by first|rfl|simp) :
 AW sz none (.l (xs.map enc) f) (.i ki (A6 k)) K:=Io hx hm hs h
theorem iq {α:Type} {enc:α→List V} {xs:List α} {f:Bool} {sz:Nat} {K:V→Prop} {ki:IntKind} {j:Int} (h: ∀x,xs[j.toNat]? =some x→K (.rp (enc x))) (h0:0≤j:=by omega) (h1:j<xs.length:=by omega) (hs: ∀x,(enc x).length=sz:=by intro x;first|rfl|simp|(rw[Bd];rfl)) :
 AW sz none (.l (xs.map enc) f) (.i ki j) K:=by
 have hlt:j.toNat<xs.length:=by omega
 exact Se j.toNat (Cu hlt) (by omega) (hs _) (h _ (Cu hlt))
theorem vA {α:Type} {enc:α→List V} {xs:List α} {f:Bool} {sz:Nat} {ki:IntKind} {k:Nat} {K:V→AH→Prop} (h:K (.l ((xs.take k).map enc) (f&&decide ((k:Int)=((xs.map enc).length:Nat)))) σ) (hl:k≤xs.length:=by first|assumption|omega) (hm:xs.length≤Ad:=by first|assumption|omega) (hs: ∀x,(enc x).length=sz:=by intro x;first|rfl|simp|(rw[Bd];rfl)) :
 AV σ sz (.l (xs.map enc) f) none (some (.i ki (A6 k))) none K:=by
 rw[AL (by omega)];refine⟨fun e he=>?_,?_⟩
 ·obtain⟨x,_,rfl⟩:=Lc.1 he
  exact hs x
 ·simp only[ND,BE]
  refine⟨by omega,by omega,by omega,?_⟩;rw[Ih];simpa[List.map_take]using h
theorem NB {xs:List Fact} {f:Bool} {K:V→Prop} {ki:IntKind} {k:Nat} {x:Fact} (h:K (.rp (xF x))) (hx:xs[k]? =some x:=by assumption) (hm:xs.length≤Ad:=by first|assumption|omega):AW 6 none (.l (xs.map Fv) f) (.i ki (A6 k)) K:=by
 refine Io hx hm (by rw[Bd];rfl) ?_;rw[Bd];exact h
theorem Pw {a0:At} {l:List At}:(a0::l)[0]? =some a0:=rfl
theorem Pv {a0 a1:At} {l:List At}:(a0::a1::l)[1]? =some a1:=rfl
theorem Pu {a0 a1 a2:At} {l:List At}:(a0::a1::a2::l)[2]? =some a2:=rfl
theorem Pt {a0 a1 a2 a3:At} {l:List At}:(a0::a1::a2::a3::l)[3]? =some a3:=rfl
theorem Ps {a0 a1 a2 a3 a4:At} {l:List At}:(a0::a1::a2::a3::a4::l)[4]? =some a4:=rfl
theorem Pr {a0 a1 a2 a3 a4 a5:At} {l:List At}:(a0::a1::a2::a3::a4::a5::l)[5]? =some a5:=rfl
theorem ld {l:List At} {i n off:Nat} {agg:Option Nat} {vs:List V} {K:V→Prop} (hk:cut agg vs off K) (h:Sat σ l:=by assumption)
 (hi:l[i]? =some (.box n vs):=by first|exact Pw|exact Pv|exact Pu|exact Pt|exact Ps|exact Pr):Ac σ agg (.p n off) K:=Sr h i hi hk
theorem s1 {l:List At} {i n off:Nat} {vs:List V} {x:V} {K:AH→Prop} (hk: ∀σ',Sat σ' (l.set i (.box n (vs.set off x)))→K σ') (h:Sat σ l:=by assumption)
 (hi:l[i]? =some (.box n vs):=by first|exact Pw|exact Pv|exact Pu|exact Pt|exact Ps|exact Pr)
 (h1:Db x=true:=by first|rfl|exact Gu (by assumption) 0 rfl|exact Gu (by assumption) 1 rfl|exact Gu (by assumption) 2 rfl|exact Gu (by assumption) 3 rfl|simp) (ho:off+1≤vs.length:=by exact Nat.le_of_ble_eq_true rfl):AX σ 1 (.p n off) x K:=
 Kl h i hi h1 ho hk
theorem sn {l:List At} {i n off sz:Nat} {vs vc:List V} {x:V} {K:AH→Prop} (hk: ∀σ',Sat σ' (l.set i (.box n (putAt vs off vc)))→K σ') (h:Sat σ l:=by assumption)
 (hi:l[i]? =some (.box n vs):=by first|exact Pw|exact Pv|exact Pu|exact Pt|exact Ps|exact Pr)
 (hc:cellsOf x=some vc:=by rfl) (hl:vc.length=sz:=by rfl) (h1:vc.all Db=true:=by first|rfl|simp) (ho:off+sz≤vs.length:=by exact Nat.le_of_ble_eq_true rfl):AX σ sz (.p n off) x K:=
 Ho h i hi hc hl h1 ho hk
theorem J0:EP (fun f:Fact=>Fv f) 6:=fun f=>by
 simp only[Bd];refine⟨rfl,fun v hv=>?_⟩;simp only[GB,List.not_mem_nil,or_false]at hv;rcases hv with rfl|rfl|rfl|rfl|rfl|rfl<;>rfl
theorem Km:EP (fun l:List Fact=>[V.l (facts l) false]) 1:=fun x=>⟨rfl,fun v hv=>by simp at hv;subst hv;rfl⟩
theorem af {α:Type} {enc:α→List V} {sz:Nat} {ys:List α} {g:Bool} {K:V→Prop} (hk:K (.l (ys.map enc) false)) (hg:EP enc sz:=by first|exact Bq|exact DJ|exact NR|exact J0|exact Km) {b:Nat} (hl:ys.length≤Ad∧ys.length*b≤140737488355328:=by first|assumption|omega) :
 Ai b σ sz (.l [] true) (.l (ys.map enc) g) K:=Z5 hg hl hk
theorem al {l:List At} {o:O} {n:Nat} {K:Prop} {σ':AH} (e:BC σ n o=σ') (hk:Sat σ' (l++[.obj n o])→K) (hn:σ n=none:=by assumption) (h:Sat σ l:=by assumption):K:=hk (e ▸ ZO h hn)
theorem oi {l:List At} {i:Nat} {v:V} {sz:Nat} {es:List (List V)} {ki:IntKind} {j:Int} {K:V→Prop} (hk:K (Fu v sz j.toNat)) (h:Sat σ l:=by assumption)
 (hi:l[i]? =some (.own v sz es):=by first|exact Pw|exact Pv|exact Pu|exact Pt|exact Ps|exact Pr) (h0:0≤j:=by omega) (h1:j<es.length:=by first|omega|(simp only[BE]at *;omega)):AW sz none v (.i ki j) K:=
 dJ h i j.toNat hi (by omega) (by omega) hk
theorem oc {l:List At} {i:Nat} {v:V} {sz k:Nat} {es:List (List V)} {ki:IntKind} {K:V→Prop} (hk:K (Fu v sz k)) (h:Sat σ l:=by assumption)
 (hi:l[i]? =some (.own v sz es):=by first|exact Pw|exact Pv|exact Pu|exact Pt|exact Ps|exact Pr) (h1:k<es.length:=by first|omega|(simp only[BE]at *;omega)) (hm:k≤Ad:=by first|omega|(simp only[Ad];omega)):AW sz none v (.i ki (A6 k)) K:=
 dJ h i k hi (AL (by omega)) h1 hk
theorem ol {α:Type} {enc:α→List V} {xs:List α} {l:List At} {i:Nat} {v:V} {sz k:Nat} {agg:Option Nat} {K:V→Prop} (hk: ∀x,xs[k]? =some x→cut agg (enc x) 0 K) (h:Sat σ l:=by assumption)
 (hi:l[i]? =some (.own v sz (xs.map enc)):=by first|exact Pw|exact Pv|exact Pu|exact Pt|exact Ps|exact Pr) (h1:k<xs.length:=by first|omega|(simp only[BE]at *;omega)):Ac σ agg (Fu v sz k) K:=
 Hv h i hi (by rw[LZ,Cu h1];rfl) (hk _ (Cu h1))
theorem oset {α:Type} {enc:α→List V} {xs:List α} {y:α} {l:List At} {i:Nat} {v x:V} {sz k:Nat} {vc:List V} {K:AH→Prop} (hk: ∀σ',Sat σ' (l.set i (.own v sz ((xs.set k y).map enc)))→K σ') (h:Sat σ l:=by assumption)
 (hi:l[i]? =some (.own v sz (xs.map enc)):=by first|exact Pw|exact Pv|exact Pu|exact Pt|exact Ps|exact Pr) (hc:cellsOf x=some vc:=by rfl) (he:vc=enc y:=by rfl) (hg:EP enc sz:=by first|exact Bq|exact DJ|exact NR|exact J0|exact Km)
 (hv:(B6 v).isSome=true:=by assumption) (h1:k<xs.length:=by first|omega|(simp only[BE]at *;omega)):AX σ sz (Fu v sz k) x K:=by
 subst he;refine K5 h i hi (by rw[LZ,Cu h1];rfl) hc (hg y).1 (Em.2 fun v hv=>(hg y).2 v hv) (hg _).1 hv fun σ' hs=>hk σ' ?_
 rw[List.map_set];exact hs
theorem GO {b sz:Nat} {v:V} {e:List V} {f:Bool} {K:V→AH→Prop} (h:AM b σ sz v (.l [e] f) fun v' σ'=>(B6 v').isSome=true→K v' σ'):AM b σ sz v (.l [e] f) K:=by
 obtain⟨h1,h2,h3⟩:=h;refine⟨h1,h2,?_⟩;cases v with
 | l es full=>exact⟨h3.1,h3.2.1,fun e=>(by cases e),fun e=>⟨(h3.2.2.2 e).1,fun n cap hn hc=>(h3.2.2.2 e).2 n cap hn hc rfl⟩⟩
 | sl n len cap=>
   simp only at h3 ⊢;split at h3
   ·exact⟨h3.1,h3.2.1,h3.2.2.1,h3.2.2.2.1,fun n' cap' hn hc=>h3.2.2.2.2 n' cap' hn hc rfl⟩
   ·exact h3.elim
 | _=>exact h3.elim
theorem aq {l:List At} {i:Nat} {α:Type} {enc:α→List V} {sz:Nat} {xs:List α} {x:α} {v:V} {f:Bool} {e:List V} {K:V→AH→Prop} (hk: ∀v' σ',Sat σ' (l.set i (.own v' sz ((xs++[x]).map enc)))→(B6 v').isSome=true→K v' σ') (h:Sat σ l:=by assumption)
 (hi:l[i]? =some (.own v sz (xs.map enc)):=by first|exact Pw|exact Pv|exact Pu|exact Pt|exact Ps|exact Pr)
 (he:e=enc x:=by rfl) (hg:EP enc sz:=by first|exact Bq|exact DJ|exact NR|exact J0|exact Km)
 {b:Nat} (hl:xs.length<Ad∧(xs.length+1)*b≤140737488355328:=by first|assumption|omega|(simp only[PT,BE,LX,List.length_nil,LW,iF,List.length_replicate,Ad]at *;omega)):AM b σ sz v (.l [e] f) K:=
 GO (Ft h i hi hl hg hk he)
end Go.Gl
namespace Go.Gl
open Go.Proofs
attribute [local irreducible] BL A4 Aj AW AM Ai AV AX AN Ah AS AU A8 BJ Sat Ac BF Ak W
theorem Ss {w:AK} (h:FD (.a (A2 w))):w.parents.length≤Ad∧(∀l∈w.parents,l.length≤Ad)∧w.owner.length≤Ad:=by
 simp only[A2,G0,DZ,Fq,I3,BE]at h;exact⟨h.1.1,fun l hl=>(h.1.2 l hl).1.1,h.2.1.1⟩
theorem Jf {xs:List Int} {g:Bool} (h:FD (.l (iL xs) g)):xs.length≤Ad:=by
 simp only[Fq,BE]at h;exact h.1
theorem IM {f:Fact} (h:FD (.a (xF f))):f.kids.length≤Ad∧f.path.length≤Ad∧ ∀k∈f.kids,FD (.a (xF k)):=by
 simp only[G0,DZ,Fq,I3,BE]at h;exact⟨h.2.2.2.2.2.1.1,h.2.2.1.1,fun k hk=>by have:=h.2.2.2.2.2.1.2 k hk;rw[Bd]at this;exact this⟩
def Nh (w:AK) (c:Int):Bool:=decide (0≤c)&&decide (c<3+w.parents.length)
theorem cb (w:AK) (c:Int):Pure Tryz.prog 157 [.a (A2 w),eI c] (.b (Nh w c)):=by
 refine Pure.fit (by kernel_rfl) fun hf=>?_
 have⟨h1,h2,h3⟩:=Ss hf.1;have hM:=Mx;refine mf nb ?_
 conv=>whnf
 repeat'((first|apply st|(apply sq;intro K U)|(apply si;intro A B Y Z)|(apply Y;clear Z B Y A)|(apply U;clear U K)|refine⟨rfl,?_⟩|(constructor<;>intro hc<;>(try rw[hc])<;>(replace hc:=bp hc))|fail)<;>conv=>whnf)
 ·exact AI (by rw[BE,wrap64 (by omega) (by omega)];simp[Nh,hc])
 ·exact AI (by simp[Nh,hc];intros;omega)
def HF (w:AK) (s:Int):Bool:=decide (0≤s)&&decide (s<w.owner.length)
def E3 (w:AK) (p:List Int):Bool:=p.all (HF w)&&decide (p.length≤2)
theorem eR (w:AK) (p:List Int) (g:Bool):Pure Tryz.prog 158 [.a (A2 w),.l (iL p) g] (.b (E3 w p)):=by
 refine Pure.fit (by kernel_rfl) fun hf=>?_
 have⟨h1,h2,h3⟩:=Ss hf.1;have h4:=Jf hf.2.1;have hM:=Mx;refine mc nb ?_
 conv=>whnf
 repeat'((first|apply st|(apply sq;intro K U)|(apply si;intro A B Y Z)|(apply Y;clear Z B Y A)|(apply U;clear U K)|fail)<;>conv=>whnf)
 refine B4 p.length (fun k (_:Unit)=>[(9,eI (A6 k))]) (fun _ _=>[]) (fun k _=>p.all (HF w)=(p.drop k).all (HF w)) () rfl rfl Sat.nil ?_;rintro k - σ hk hn hs
 conv=>whnf
 repeat'((first|apply st|(apply sq;intro K U)|(apply si;intro A B Y Z)|(apply Y;clear Z B Y A)|(apply U;clear U K)|refine⟨rfl,?_⟩|refine ix ?_|(refine fc (fun x hx hlt hc=>?_) (fun hk hc=>?_)<;>(try rw[hc])<;>clear hc)|(constructor<;>intro hc<;>(try rw[hc])<;>(replace hc:=bp hc)<;>(try simp(disch:=omega) only[BE,wrap64,AL]at hc))|clear U K)<;>conv=>whnf)
 ·exact AI (by rw[E3,hn,drop_cons hx];simp[HF,hc];intros;omega)
 ·exact⟨hlt,(),rfl,by rw[hn,drop_cons hx];simp[HF, *],hs⟩
 ·exact AI (by rw[E3,hn,drop_cons hx];simp[HF,hc];intros;omega)
 ·exact AI (by rw[E3,hn,Al hk];simp;omega)
def Br (f:Fact):Bool:=f.op==2||f.op==3||f.op==4
theorem Wq (f:Fact):Pure Tryz.prog 129 [.a (xF f)] (.b (Br f)):=by
 refine nM nb ?_
 conv=>whnf
 repeat'((first|apply st|(apply sq;intro K U)|(apply si;intro A B Y Z)|(apply Y;clear Z B Y A)|(apply U;clear U K)|refine⟨rfl,?_⟩|(constructor<;>intro hc<;>(try rw[hc])<;>(replace hc:=bp hc))|fail)<;>conv=>whnf)
 all_goals exact AI (by simp[Br, *])
def Df:List (Int→Int)→Int→Int→Int
 | [],n,_=>n
 | k::r,n,most=>if n≤most then Df r (n+k (most - n)) most else n
def CZ (f:Fact):Int→Int:=f.HC fun _ l most=>Df l 1 most
theorem Hc (f:Fact) (most:Int):CZ f most=Df (f.kids.map CZ) 1 most:=by
 rw[CZ,Fact.Dj];rfl
theorem Ox {most:Int}: ∀(l:List (Int→Int)) (n:Int),(∀g∈l,∀m,0≤m→1≤g m∧g m≤m+1)→1≤n→n≤most+1→1≤Df l n most∧Df l n most≤most+1
 | [],n,_,h1,h2=>⟨h1,h2⟩
 | g ::r,n,h,h1,h2=>by
   rw[Df];split
   ·have:=h g (List.mem_cons_self ..) (most - n) (by omega)
    exact Ox r _ (fun g hg=>h g (List.mem_cons_of_mem _ hg)) (by omega) (by omega)
   ·exact⟨h1,h2⟩
theorem KD (f:Fact): ∀m,0≤m→1≤CZ f m∧CZ f m≤m+1:=by
 induction f using Fact.ind with
 | h f ih=>
   intro m hm;rw[Hc];refine Ox _ _ (fun g hg=>?_) (by omega) (by omega);obtain⟨k,hk,rfl⟩:=Lc.1 hg;exact ih k hk
theorem bf (f:Fact): ∀most:Int,0≤most→most≤1000→Pure Tryz.prog 156 [.a (xF f),eI most] (eI (CZ f most)):=by
 induction f using Fact.ind with
 | h f ih=>
   intro most h0 h1;refine Pure.fit (by kernel_rfl) fun hf=>?_
   have⟨h2,h3,h4⟩:=IM hf.1;have hM:=Mx;refine mg nb ?_
   conv=>whnf
   repeat'((first|apply st|(apply sq;intro K U)|(apply si;intro A B Y Z)|(apply Y;clear Z B Y A)|(apply U;clear U K)|fail)<;>conv=>whnf)
   refine B4 f.kids.length (fun k (n:Int)=>[(5,eI n),(6,eI (A6 k))]) (fun _ _=>[]) (fun k n=>1≤n∧n≤most+1∧CZ f most=Df ((f.kids.drop k).map CZ) n most) 1 rfl ⟨by omega,by omega,by rw[List.drop_zero];exact Hc f most⟩ Sat.nil ?_;rintro k n σ hk ⟨hn1,hn2,hn⟩ hs
   conv=>whnf
   repeat'((first|apply st|(apply sq;intro K U)|(apply si;intro A B Y Z)|(apply Y;clear Z B Y A)|(apply U;clear U K)|refine⟨rfl,?_⟩|refine⟨nb,?_⟩|refine NB ?_|(refine fc (fun x hx hlt hc=>?_) (fun hk hc=>?_)<;>(try rw[hc])<;>clear hc)|(constructor<;>intro hc<;>(try rw[hc])<;>(replace hc:=bp hc))|clear U K)<;>conv=>whnf)
   ·rw[wrap64 (by omega) (by omega)]
    have hb:=KD x (most - n) (by omega);refine(ih x (B2 hx) (most - n) (by omega) (by omega)).use ?_
    conv=>whnf
    repeat'((first|(apply si;intro A B Y Z)|(apply Y;clear Z B Y A)|(apply U;clear U K)|refine⟨rfl,?_⟩|clear U K)<;>conv=>whnf)
    rw[wrap64 (by omega) (by omega)];exact⟨hlt,_,rfl,⟨by omega,by omega,by rw[hn,drop_cons hx,FC,Df,if_pos hc]⟩,hs⟩
   ·exact AI (by rw[hn,drop_cons hx,FC,Df,if_neg (by omega)])
   ·exact AI (by rw[hn,Al hk];rfl)
theorem bg (f:Fact):Pure Tryz.prog 126 [.a (xF f)] (eI (CZ f 24)):=by
 refine nQ nb ?_
 conv=>whnf
 repeat'((first|apply st|(apply sq;intro K U)|(apply si;intro A B Y Z)|(apply Y;clear Z B Y A)|(apply U;clear U K)|refine⟨nb,?_⟩|fail)<;>conv=>whnf)
 refine(bf f 24 (by omega) (by omega)).use ?_
 conv=>whnf
 repeat'((first|apply st|(apply Y;clear Z B Y A)|(apply U;clear U K)|fail)<;>conv=>whnf)
 exact AI rfl
def La (f:Fact):Nat:=f.HC fun _ l=>1+l.sum
theorem J1 (f:Fact):La f=1+(f.kids.map La).sum:=Fact.Dj _ f
theorem XI {f k:Fact} (h:k∈f.kids):La k<La f:=by
 have: ∀l:List Fact,k∈l→La k≤(l.map La).sum:=fun l=>by
  induction l with
  | nil=>intro h;cases h
  | cons x r ih=>
    intro h;simp only[FC,List.sum_cons];rcases GB.1 h with rfl|h
    ·omega
    ·have:=ih h;omega
 have:=this _ h;rw[J1 f];omega
theorem Ow {most:Int}: ∀(l:List Fact) (n:Int),(∀k∈l,∀m,0≤m→CZ k m≤m→CZ k m=La k)→0≤n→Df (l.map CZ) n most≤most→Df (l.map CZ) n most=n+(l.map La).sum
 | [],n,_,_,_=>by simp[Df]
 | k :: r, n,h,h0,h1=>by
   simp only[FC,Df]at *;split at h1
   ·rename_i hc
    rw[if_pos hc];have hb:=KD k (most - n) (by omega)
    have hge: ∀(l:List Fact) (a:Int),a≤Df (l.map CZ) a most:=fun l=>by
     induction l with
     | nil=>intro a;exact Int.le_refl _
     | cons y l ih=>
       intro a;simp only[FC,Df];split
       ·have:=KD y (most - a) (by omega)
        have:=ih (a+CZ y (most - a));omega
       ·exact Int.le_refl _
    have h2:=hge r (n+CZ k (most - n));have h3:=h k (List.mem_cons_self ..) (most - n) (by omega) (by omega);have h4:=Ow r (n+CZ k (most - n)) (fun k' hk'=>h k' (List.mem_cons_of_mem _ hk')) (by omega) h1;simp only[List.sum_cons];omega
   ·rename_i hc
    omega
theorem KC (f:Fact): ∀m,0≤m→CZ f m≤m→CZ f m=La f:=by
 induction f using Fact.ind with
 | h f ih=>
   intro m h0 h1;rw[Hc]at *;rw[Ow f.kids 1 ih (by omega) h1,J1];omega
def HA (a b:Int):Int:=if a<b then b else a
def EL (f:Fact):Int:=f.HC fun _ l=>l.foldl HA 0+1
theorem F7 (f:Fact):EL f=(f.kids.map EL).foldl HA 0+1:=Fact.Dj _ f
theorem Jl {m:Int}: ∀(l:List Int) (a:Int),(∀x∈l,x≤m)→a≤m→l.foldl HA a≤m
 | [],_,_,h=>h
 | x::r,a,h,h'=>by
   refine Jl r _ (fun y hy=>h y (List.mem_cons_of_mem _ hy)) ?_;have:=h x (List.mem_cons_self ..);unfold HA;split<;>omega
theorem FX: ∀(l:List Int) (a:Int),a≤l.foldl HA a
 | [],_=>Int.le_refl _
 | x::r,a=>by
   refine Int.le_trans ?_ (FX r _);unfold HA;split<;>omega
theorem Vl (f:Fact):1≤EL f∧EL f≤La f:=by
 induction f using Fact.ind with
 | h f ih=>
   rw[F7];have h1:=FX (f.kids.map EL) 0
   have h2:(f.kids.map EL).foldl HA 0≤(La f:Int) - 1:=by
    refine Jl _ _ (fun x hx=>?_) (by have:=J1 f;omega);obtain⟨k,hk,rfl⟩:=Lc.1 hx;have:=(ih k hk).2;have:=XI hk;omega
   omega
theorem Ee {α:Type} {xs:List α} {k:Nat} {x:α} {β:Type} (g:α→β) (h:β→β→β) (a:β) (hx:xs[k]? =some x):((xs.take (k+1)).map g).foldl h a=h (((xs.take k).map g).foldl h a) (g x):=by
 rw[AR hx,SN,List.foldl_append];rfl
theorem cV (f:Fact):La f≤Ad→Pure Tryz.prog 127 [.a (xF f)] (eI (EL f)):=by
 induction f using Fact.ind with
 | h f ih=>
   intro hc;refine Pure.fit (by kernel_rfl) fun hf=>?_
   have⟨h2,h3,h4⟩:=IM hf.1;have hM:=Mx;refine nP nb ?_
   conv=>whnf
   repeat'((first|apply st|(apply sq;intro K U)|(apply si;intro A B Y Z)|(apply Y;clear Z B Y A)|(apply U;clear U K)|fail)<;>conv=>whnf)
   refine B4 f.kids.length (fun k (_:Unit)=>[(3,eI (((f.kids.take k).map EL).foldl HA 0)),(9,eI (A6 k))]) (fun _ _=>[]) (fun _ _=>True) () rfl trivial Sat.nil ?_;rintro k - σ hk - hs
   conv=>whnf
   repeat'((first|apply st|(apply sq;intro K U)|(apply si;intro A B Y Z)|(apply Y;clear Z B Y A)|(apply U;clear U K)|refine⟨rfl,?_⟩|refine⟨nb,?_⟩|refine NB ?_|refine ld ?_|refine sn fun σ hs=>?_|(refine fc (fun x hx hlt hc=>?_) (fun hk hc=>?_)<;>(try rw[hc])<;>clear hc)|(intro nn hnn;generalize hg:BC _ nn _=σ;refine al hg fun hs=>?_;clear hg)|clear U K)<;>conv=>whnf)
   ·refine(ih x (B2 hx) (by have:=XI (B2 hx);omega)).use ?_
    conv=>whnf
    repeat'((first|(apply si;intro A B Y Z)|(apply Y;clear Z B Y A)|(apply U;clear U K)|refine⟨rfl,?_⟩|clear U K)<;>conv=>whnf)
    exact⟨hlt,(),by rw[Ee _ _ _ hx];rfl,trivial,Sat.nil⟩
   ·have:=Vl f
    rw[F7]at this;exact AI (by rw[Ar hk,wrap64 (by omega) (by omega),←F7])
def DM (f:Fact):Int:=f.HC fun f l=>l.foldl HA (if Br f then f.arg+1 else 0)
theorem D7 (f:Fact):DM f=(f.kids.map DM).foldl HA (if Br f then f.arg+1 else 0):=Fact.Dj _ f
def Nw (f:Fact):Bool:=f.HC fun f l=>decide (0≤f.arg)&&decide (f.arg<3)&&l.all id
theorem LF (f:Fact):Nw f=(decide (0≤f.arg)&&decide (f.arg<3)&&(f.kids.map Nw).all id):=Fact.Dj _ f
theorem bJ (f:Fact):Nw f=true→Pure Tryz.prog 95 [.a (xF f)] (eI (DM f)):=by
 induction f using Fact.ind with
 | h f ih=>
   intro ha;refine Pure.fit (by kernel_rfl) fun hf=>?_
   have⟨h2,h3,h4⟩:=IM hf.1;have hM:=Mx;rw[LF]at ha;simp only[BZ,CX,List.all_map,Em]at ha;refine qA nb ?_
   conv=>whnf
   repeat'((first|apply st|(apply sq;intro K U)|(apply si;intro A B Y Z)|(apply Y;clear Z B Y A)|(apply U;clear U K)|refine⟨nb,?_⟩|fail)<;>conv=>whnf)
   refine(Wq f).use ?_
   conv=>whnf
   repeat'((first|apply st|(apply sq;intro K U)|(apply si;intro A B Y Z)|(apply Y;clear Z B Y A)|(apply U;clear U K)|refine⟨rfl,?_⟩|(constructor<;>intro hc<;>(try rw[hc])<;>(replace hc:=bp hc))|fail)<;>conv=>whnf)
   ·refine B4 f.kids.length (fun k (_:Unit)=>[(3,eI (((f.kids.take k).map DM).foldl HA (if Br f then f.arg+1 else 0))),(14,eI (A6 k))]) (fun _ _=>[]) (fun _ _=>True) () (by rw[wrap64 (by omega) (by omega),if_pos hc];rfl) trivial Sat.nil ?_
    rintro k - σ hk - hs
    conv=>whnf
    repeat'((first|apply st|(apply sq;intro K U)|(apply si;intro A B Y Z)|(apply Y;clear Z B Y A)|(apply U;clear U K)|refine⟨rfl,?_⟩|refine⟨nb,?_⟩|refine NB ?_|refine ld ?_|refine sn fun σ hs=>?_|(refine fc (fun x hx hlt hc=>?_) (fun hk hc=>?_)<;>(try rw[hc])<;>clear hc)|(intro nn hnn;generalize hg:BC _ nn _=σ;refine al hg fun hs=>?_;clear hg)|clear U K)<;>conv=>whnf)
    ·refine(ih x (B2 hx) (ha.2 x (B2 hx))).use ?_
     conv=>whnf
     repeat'((first|(apply si;intro A B Y Z)|(apply Y;clear Z B Y A)|(apply U;clear U K)|refine⟨rfl,?_⟩|clear U K)<;>conv=>whnf)
     exact⟨hlt,(),by rw[Ee _ _ _ hx];rfl,trivial,Sat.nil⟩
    ·exact AI (by rw[Ar hk,←D7])
   ·refine B4 f.kids.length (fun k (_:Unit)=>[(3,eI (((f.kids.take k).map DM).foldl HA (if Br f then f.arg+1 else 0))),(14,eI (A6 k))]) (fun _ _=>[]) (fun _ _=>True) () (by rw[if_neg (c:=Br f=true) (by simp[hc])];rfl) trivial Sat.nil ?_
    rintro k - σ hk - hs
    conv=>whnf
    repeat'((first|apply st|(apply sq;intro K U)|(apply si;intro A B Y Z)|(apply Y;clear Z B Y A)|(apply U;clear U K)|refine⟨rfl,?_⟩|refine⟨nb,?_⟩|refine NB ?_|refine ld ?_|refine sn fun σ hs=>?_|(refine fc (fun x hx hlt hc=>?_) (fun hk hc=>?_)<;>(try rw[hc])<;>clear hc)|(intro nn hnn;generalize hg:BC _ nn _=σ;refine al hg fun hs=>?_;clear hg)|clear U K)<;>conv=>whnf)
    ·refine(ih x (B2 hx) (ha.2 x (B2 hx))).use ?_
     conv=>whnf
     repeat'((first|(apply si;intro A B Y Z)|(apply Y;clear Z B Y A)|(apply U;clear U K)|refine⟨rfl,?_⟩|clear U K)<;>conv=>whnf)
     exact⟨hlt,(),by rw[Ee _ _ _ hx];rfl,trivial,Sat.nil⟩
    ·exact AI (by rw[Ar hk,←D7])
def CF (op:Int):Nat:=if op=5 then 1 else if op=6∨op=7 then 2 else 0
def SV (w:AK) (f:Fact):Bool:=
 if f.op=2 then f.n==0&&Nh w f.cls else if f.op=3∨f.op=4 then f.cls==0&&(decide (-1000000000≤f.n)&&decide (f.n≤1000000000))else f.op==1||f.op==5||f.op==6||f.op==7
def DC (w:AK) (f:Fact):Bool:=
 SV w f&&(f.kids.length==CF f.op&&(decide (0≤f.arg)&&(decide (f.arg<3)&&(E3 w f.path&&(Br f||(f.arg==0&&(f.path.length==0&&(f.cls==0&&f.n==0))))))))
def Bi (w:AK) (f:Fact):Bool:=f.HC fun f l=>DC w f&&l.all id
theorem Cg (w:AK) (f:Fact):Bi w f=(DC w f&&f.kids.all (Bi w)):=by rw[Bi,Fact.Dj,List.all_map];rfl
theorem OE {w:AK} {f:Fact} (h:DC w f=false):Bi w f=false:=by rw[Cg,h,Bool.false_and]
theorem qy {f:Fact} (h1:Br f=false) (h2:f.arg=0) (h3:(f.path.length:Int) > 0):true= !(Br f||(f.arg==0&&(f.path.length==0&&(f.cls==0&&f.n==0)))):=by
 have:(f.path.length==0)=false:=by simp;intro e;rw[e]at h3;simp at h3
 rw[this,h1,h2];rfl
theorem ee (w : AK) (f:Fact):Pure Tryz.prog 128 [.a (A2 w),.a (xF f)] (.b (Bi w f)):=by
 induction f using Fact.ind with
 | h f ih=>
   refine Pure.fit (by kernel_rfl) fun hf=>?_
   have⟨h2,h3,h4⟩:=IM hf.2.1;have⟨w1,w2,w3⟩:=Ss hf.1;have hM:=Mx;refine nN nb ?_
   conv=>whnf
   repeat'((first|apply st|(apply sq;intro K U)|(apply si;intro A B Y Z)|(apply Y;clear Z B Y A)|(apply U;clear U K)|refine⟨rfl,?_⟩|fail)<;>conv=>whnf)
   have hJ :=P3 U (fun(_:Unit)=>[(5,eI (CF f.op))]) (fun _=>[]) (fun _=>SV w f=true) [(2,.rp (A2 w)),(3,.rp (xF f)),(5,eI 0)] (by
    clear U;rintro - σ ho -
    conv=>whnf
    repeat'((first|apply st|(apply sq;intro K U)|(apply si;intro A B Y Z)|refine⟨rfl,?_⟩|fail)<;>conv=>whnf)
    have hJ :=P3 U (fun(b:Bool)=>[(66,.b b)]) (fun _=>[]) (fun b=>b= !(f.kids.length==CF f.op&&(decide (0≤f.arg)&&(decide (f.arg<3)&&E3 w f.path)))) [(2,.rp (A2 w)),(3,.rp (xF f)),(66,.b false)] (by
     clear U;rintro b σ hb -
     conv=>whnf
     repeat'((first|apply st|fail)<;>conv=>whnf)
     have hJ :=P3 U (fun(_:Unit)=>[]) (fun _=>[]) (fun _=>b=false) [(2,.rp (A2 w)),(3,.rp (xF f))] (by
      clear U;rintro - σ hb' -;rw[hb']at hb
      conv=>whnf
      repeat'((first|apply st|(apply sq;intro K U)|(apply si;intro A B Y Z)|refine⟨nb,?_⟩|refine Pure.use (Wq _) ?_|fail)<;>conv=>whnf)
      have hJ:=P3 U (fun(b:Bool)=>[(90,.b b)]) (fun _=>[]) (fun b=>b= !(Br f||(f.arg==0&&(f.path.length==0&&(f.cls==0&&f.n==0))))) [(2,.rp (A2 w)),(3,.rp (xF f)),(90,.b false)] (by
       clear U;rintro b σ hb2 -
       conv=>whnf
       repeat'((first|apply st|fail)<;>conv=>whnf)
       have hJ:=P3 U (fun(_:Unit)=>[]) (fun _=>[]) (fun _=>b=false) [(2,.rp (A2 w)),(3,.rp (xF f))] (by
        clear U;rintro - σ hb' -;rw[hb']at hb2
        have hh:DC w f=true:=by
         have hb:(f.kids.length==CF f.op&&(decide (0≤f.arg)&&(decide (f.arg<3)&&E3 w f.path)))=true:=by rw[←Bool.not_eq_false',←hb]
         have hb2:(Br f||(f.arg==0&&(f.path.length==0&&(f.cls==0&&f.n==0))))=true:=by rw[←Bool.not_eq_false',←hb2]
         simp only[BZ]at hb;simp only[DC,ho,hb.1,hb.2,hb2,Bool.and_self]
        conv=>whnf
        repeat'((first|apply st|(apply sq;intro K U)|(apply si;intro A B Y Z)|(apply Y;clear Z B Y A)|(apply U;clear U K)|fail)<;>conv=>whnf)
        refine B4 f.kids.length (fun k (_:Unit)=>[(94,eI (A6 k))]) (fun _ _=>[]) (fun k _=>Bi w f=(f.kids.drop k).all (Bi w)) () rfl (by rw[Cg,hh];rfl) Sat.nil ?_;rintro k - σ hk hn hs
        conv=>whnf
        repeat'((first|apply st|(apply sq;intro K U)|(apply si;intro A B Y Z)|(apply Y;clear Z B Y A)|(apply U;clear U K)|refine⟨rfl,?_⟩|refine⟨nb,?_⟩|refine NB ?_|refine ld ?_|refine sn fun σ hs=>?_|(refine fc (fun x hx hlt hc=>?_) (fun hk hc=>?_)<;>(try rw[hc])<;>clear hc)|(intro nn hnn;generalize hg:BC _ nn _=σ;refine al hg fun hs=>?_;clear hg)|clear U K)<;>conv=>whnf)
        ·have hxm:=B2 hx
         refine(ih x hxm).use ?_
         conv=>whnf
         repeat'((first|apply st|(apply sq;intro K U)|(apply si;intro A B Y Z)|(apply Y;clear Z B Y A)|(apply U;clear U K)|refine⟨rfl,?_⟩|(constructor<;>intro hc<;>(try rw[hc])<;>(replace hc:=bp hc))|clear U K)<;>conv=>whnf)
         ·exact AI (by rw[hn,drop_cons hx];simp[hc])
         ·exact⟨hlt,(),rfl,by rw[hn,drop_cons hx];simp[hc],Sat.nil⟩
        ·exact AI (by rw[hn,Al hk];rfl))
       clear U
       conv=>whnf
       repeat'((first|apply st|(apply sq;intro K U)|(apply si;intro A B Y Z)|(apply Y;clear Z B Y A)|(apply U;clear U K)|(constructor<;>intro hc<;>(try rw[hc])<;>(replace hc:=bp hc))|fail)<;>conv=>whnf)
       ·have hx:(Br f||(f.arg==0&&(f.path.length==0&&(f.cls==0&&f.n==0))))=false:=by rw[←Bool.not_eq_true',←hb2,hc]
        exact AI (by rw[OE];simp only[DC,hx,Bool.and_false])
       ·exact hJ () _ _ rfl hc Sat.nil)
      clear U;clear hb
      conv=>whnf
      repeat'((first|apply st|(apply Y;clear Z B Y A)|refine⟨rfl,?_⟩|(constructor<;>intro hc<;>(try rw[hc])<;>(replace hc:=bp hc)<;>(try simp(disch:=omega) only[BE,wrap64,AL]at hc))|fail)<;>conv=>whnf)
      ·have hp:f.path.length=0:=by omega
       exact hJ _ _ _ rfl (by rw[hp];simp[*,bne]) Sat.nil
      ·exact hJ true _ _ rfl (by simp[*]) Sat.nil
      ·exact hJ true _ _ rfl (qy (by assumption) (by assumption) hc) Sat.nil
      ·exact hJ true _ _ rfl (by simp[*]) Sat.nil
      ·exact hJ false _ _ rfl (by simp[*]) Sat.nil)
     clear U
     conv=>whnf
     repeat'((first|apply st|(apply sq;intro K U)|(apply si;intro A B Y Z)|(apply Y;clear Z B Y A)|(apply U;clear U K)|(constructor<;>intro hc<;>(try rw[hc])<;>(replace hc:=bp hc))|fail)<;>conv=>whnf)
     ·have hx:(f.kids.length==CF f.op&&(decide (0≤f.arg)&&(decide (f.arg<3)&&E3 w f.path)))=false:=by rw[←Bool.not_eq_true',←hb,hc]
      exact AI (by rw[OE];simp only[DC];simp only[Bool.and_eq_false_iff]at hx ⊢;rcases hx with h|h|h|h<;>simp[h])
     ·exact hJ () _ _ rfl hc Sat.nil)
    clear U
    conv=>whnf
    repeat'((first|apply st|(apply Y;clear Z B Y A)|refine⟨rfl,?_⟩|refine⟨nb,?_⟩|refine Pure.use (eR _ _ _) ?_|(constructor<;>intro hc<;>(try rw[hc])<;>(replace hc:=bp hc)<;>(try simp(disch:=omega) only[BE,wrap64,AL]at hc))|fail)<;>conv=>whnf)
    all_goals exact hJ _ _ _ rfl (by simp[*]<;>omega) Sat.nil)
   clear U
   conv=>whnf
   repeat'((first|apply st|(apply sq;intro K U)|(apply si;intro A B Y Z)|(apply Y;clear Z B Y A)|(apply U;clear U K)|refine⟨rfl,?_⟩|refine⟨nb,?_⟩|refine Pure.use (cb _ _) ?_|(constructor<;>intro hc<;>(try rw[hc])<;>(replace hc:=bp hc))|fail)<;>conv=>whnf)
   all_goals first
    | exact AI (by rw[OE];simp only[DC,SV];simp[*]<;>omega)
    | exact hJ () _ _ (by simp[CF, *];rfl) (by simp[SV, *]<;>omega) Sat.nil
def RJ (n:Int):Bool:=decide (-1000000000≤n)&&decide (n≤1000000000)
theorem gb (n:Int):Pure Tryz.prog 125 [eI n] (.b (RJ n)):=by
 refine nS nb ?_
 conv=>whnf
 repeat'((first|apply st|(apply sq;intro K U)|(apply si;intro A B Y Z)|(apply Y;clear Z B Y A)|(apply U;clear U K)|refine⟨rfl,?_⟩|(constructor<;>intro hc<;>(try rw[hc])<;>(replace hc:=bp hc))|fail)<;>conv=>whnf)
 all_goals exact AI (by simp[RJ, *]<;>omega)
def Jc (k:Int):Bool:=k==1||k==4
theorem jc (k:Int):Pure Tryz.prog 97 [eI k] (.b (Jc k)):=by
 refine p9 nb ?_
 conv=>whnf
 repeat'((first|apply st|(apply sq;intro K U)|(apply si;intro A B Y Z)|(apply Y;clear Z B Y A)|(apply U;clear U K)|refine⟨rfl,?_⟩|(constructor<;>intro hc<;>(try rw[hc])<;>(replace hc:=bp hc))|fail)<;>conv=>whnf)
 all_goals exact AI (by simp[Jc, *])
theorem GG {p:Prog} (h:FD (.a (BK p))):p.AQ.length≤Ad∧p.DA.length≤Ad∧p.methods.length≤Ad∧p.nodes.length≤Ad:=by
 simp only[BK,G0,DZ,Fq,BE]at h;exact⟨h.1.1,h.2.2.1.1,h.2.2.2.1.1,h.2.2.2.2.1.1⟩
def It (p:Prog) (x:Node):Int:=
 if x.op=1∨x.op=2∨x.op=3∨x.op=6∨x.op=18 then 0 else
 if x.op=4∨x.op=8∨x.op=17 then 1 else
 if x.op=7∨x.op=9∨x.op=11∨x.op=12∨x.op=13∨x.op=14∨x.op=15∨x.op=16 then 2 else
 if x.op=10 then 3 else
 if x.op=5∧0≤x.n∧x.n<p.DA.length then p.DA.getD x.n.toNat 0 else -1
theorem fC (p:Prog) (x:Node):Pure Tryz.prog 130 [.a (BK p),.a (Iu x)] (eI (It p x)):=by
 refine Pure.fit (by kernel_rfl) fun hf=>?_
 have⟨p1,p2,p3,p4⟩:=GG hf.1;have hM:=Mx;refine nK nb ?_
 conv=>whnf
 repeat'((first|apply st|(apply sq;intro K U)|(apply si;intro A B Y Z)|(apply Y;clear Z B Y A)|(apply U;clear U K)|refine⟨rfl,?_⟩|refine iq fun x hx=>?_|(constructor<;>intro hc<;>(try rw[hc])<;>(replace hc:=bp hc)<;>(try simp(disch:=omega) only[BE,wrap64,AL]at hc))|clear U K)<;>conv=>whnf)
 all_goals first
  | (refine AI ?_;simp[It, *];done)
  | (refine AI ?_;simp[It, *];intros;omega)
  | (have hd:=(Hi.1 hx).2;refine AI ?_;simp[It, *];done)
def Lh (p:Prog) (x:Node) (size:Int):Bool:=
 if x.op=1 then RJ x.n else if x.op=3 then decide (0≤x.n)&&decide (x.n<size)else if x.op=4∨x.op=7 then decide (0≤x.n)&&decide (x.n<p.AT)else
 if x.op=5 then decide (0≤x.n)&&decide (x.n<p.DA.length)else if x.op=6∨x.op=8 then decide (3≤x.n)&&decide (x.n<3+p.AQ.length)else x.n==0
theorem YC (p:Prog) (x:Node) (size:Int):Pure Tryz.prog 131 [.a (BK p),.a (Iu x),eI size] (.b (Lh p x size)):=by
 refine Pure.fit (by kernel_rfl) fun hf=>?_
 have⟨p1,p2,p3,p4⟩:=GG hf.1;have hM:=Mx;refine nJ nb ?_
 conv=>whnf
 repeat'((first|apply st|(apply sq;intro K U)|(apply si;intro A B Y Z)|(apply Y;clear Z B Y A)|(apply U;clear U K)|refine⟨rfl,?_⟩|refine Pure.use (gb _) ?_|(constructor<;>intro hc<;>(try rw[hc])<;>(replace hc:=bp hc))|clear U K)<;>conv=>whnf)
 all_goals first
  | (refine AI ?_;simp[Lh, *];done)
  | (refine AI ?_;rw[BE,wrap64 (by omega) (by omega)];simp[Lh, *];done)
  | (refine AI ?_;simp[Lh, *];intros;omega)
def M0 (ps:List (List Int)) (a b:Int):Bool:=a==b||(b==0||(decide (3≤a)&&JV ps a.toNat b.toNat))
theorem cq (w:AK) (a b:Int) (hl:w.parents.length≤1000) (ho:ordered w.parents) (ha:0≤a) (ha':a<3+w.parents.length) (hb:0≤b) (hb':b<3+w.parents.length):Pure Tryz.prog 120 [.a (A2 w),eI a,eI b] (.b (M0 w.parents a b)):=by
 refine Pure.fit (by kernel_rfl) fun hf=>?_
 have⟨w1,w2,w3⟩:=Ss hf.1;have hM:=Mx;refine nY nb ?_
 conv=>whnf
 repeat'((first|apply st|(apply sq;intro K U)|(apply si;intro A B Y Z)|(apply Y;clear Z B Y A)|(apply U;clear U K)|refine⟨rfl,?_⟩|refine⟨nb,?_⟩|(constructor<;>intro hc<;>(try rw[hc])<;>(replace hc:=bp hc))|clear U K)<;>conv=>whnf)
 ·exact AI (by simp[M0,hc])
 ·exact AI (by simp[M0, *];omega)
 ·have hc':0≤a:=ha
  obtain⟨a,rfl⟩: ∃n:Nat,a=n:=⟨a.toNat,by omega⟩
  refine(pN w a ⟨hl,w2,w3⟩ ho (by omega)).use ?_;have hul:=Kj w.parents (3+w.parents.length) a (a - 2)
  conv=>whnf
  repeat'((first|apply st|(apply sq;intro K U)|(apply si;intro A B Y Z)|(apply Y;clear Z B Y A)|(apply U;clear U K)|refine iq fun x hx=>?_|fail)<;>conv=>whnf)
  refine AI ?_;have hu:=WN ho (n:=3+w.parents.length) (c:=a) (by omega) b.toNat;rw[DL,hx]at hu;simp at hu;have e1:((a:Int)==b)=false:=by simpa using ‹(a:Int)≠b›
  have e2:(b==0)=false:=by simpa using ‹b≠0›
  simp[M0,e1,e2,hc,hu]
 ·exact AI (by simp[M0,hc])
structure Ld (w:AK):Prop where
 len:w.parents.length≤60
 ord:ordered w.parents
 own: ∀c∈w.owner,(3:Int)≤c∧c<3+w.parents.length
 iX:w.owner.length≤40
def CV (w:AK) (s:Int):Int:=w.owner.getD s.toNat 0
def hasB (w:AK) (c s:Int):Bool:=decide (3≤c)&&M0 w.parents c (CV w s)
theorem jy (w:AK) (c s:Int) (hw:Ld w) (hc0:0≤c) (hc1:c<3+w.parents.length) (hs0:0≤s) (hs1:s<w.owner.length):Pure Tryz.prog 122 [.a (A2 w),eI c,eI s] (.b (hasB w c s)):=by
 refine Pure.fit (by kernel_rfl) fun hf=>?_
 have⟨w1,w2,w3⟩:=Ss hf.1;have hM:=Mx;have hl:=hw.len;refine nX nb ?_
 conv=>whnf
 repeat'((first|apply st|(apply sq;intro K U)|(apply si;intro A B Y Z)|(apply Y;clear Z B Y A)|(apply U;clear U K)|apply dr|refine⟨rfl,?_⟩|refine⟨nb,?_⟩|refine iq fun x hx=>?_|(constructor<;>intro hc<;>(try rw[hc])<;>(replace hc:=bp hc))|fail)<;>conv=>whnf)
 ·have:=hw.own x (B2 hx)
  refine(cq w c x (by omega) hw.ord hc0 hc1 (by omega) (by omega)).use ?_
  conv=>whnf
  repeat'((first|apply st|(apply Y;clear Z B Y A)|(apply U;clear U K)|apply dr|fail)<;>conv=>whnf)
  exact AI (by simp[hasB,CV,hx,hc])
 ·exact AI (by simp[hasB];omega)
end Go.Gl
