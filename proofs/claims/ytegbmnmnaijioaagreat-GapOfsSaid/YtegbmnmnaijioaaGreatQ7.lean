import Derived.Test.YtegbmnmnaijioaaGreatQ6
set_option linter.all false
set_option linter.defProp false
set_option maxHeartbeats 8000000
noncomputable section
namespace Go.Gl
open Go.Proofs
attribute [local irreducible] Au Am Ab AR AK AY AQ AS AJ AX AN AP Ao Az Sat AU Ax Ad W
def pick (ls:List (List Int)):Option Int:=(ls.find? fun l=>match l with| []=>false|x::_=>free ls x).bind List.head?
def total (ls:List (List Int)):Nat:=(ls.map List.length).sum
def DO:Nat->List (List Int)->List Int->List Int×Bool
 | 0,ls,out=>(out,ls.all List.isEmpty)
 | n+1,ls,out=>match pick ls with
   | none=>(out,ls.all List.isEmpty)
   | some x=>DO n (ls.map fun l=>l.filter (· != x)) (out++[x])
def CR (ls:List (List Int)):List Int×Bool:=DO (total ls) ls []
def Iw {ls:List (List Int)} {x:Int} (h:pick ls=some x):total (ls.map fun l=>l.filter (· != x))<total ls:=by
 unfold pick at h;rw[Option.bind_eq_some_iff]at h;obtain⟨l,h1,h2⟩:=h;have hm:=List.mem_of_find?_eq_some h1;clear h1;cases l with
 | nil=>cases h2
 | cons y r=>
   simp only[List.head?_cons,JD]at h2;subst h2
   have hle: ∀ls:List (List Int),total (ls.map fun l=>l.filter (· != y))<=total ls:=fun ls=>by
    induction ls with
    | nil=>simp[total]
    | cons a bs ih=>
      have:=Oc (· != y) a;simp only[total,E3,List.sum_cons]at *;omega
   induction ls with
   | nil=>cases hm
   | cons a bs ih=>
     rcases GR.1 hm with rfl|hm
     .have h1:=hle bs
      have h2:=Oc (· != y) r;simp only[total,E3,List.sum_cons]at *;have:((y::r).filter (· != y)).length<=r.length:=by simpa using h2
      simp only[Ky];omega
     .have h1:=ih hm
      have h2:=Oc (· != y) a;simp only[total,E3,List.sum_cons]at *;omega
def Na (ls:List (List Int)):Prop:=ls.length<=1000000/\ ∀l∈ls,l.length<=AZ/\ ∀x∈l,0<=x
def Na.filter {ls:List (List Int)} (h:Na ls) (x:Int):Na (ls.map fun l=>l.filter (· != x)):=by
 refine⟨by rw[B2];exact h.1,fun l hl=>?_⟩;obtain⟨l',hl',rfl⟩:=IX.1 hl;obtain⟨h1,h2⟩:=h.2 l' hl';exact⟨Nat.le_trans (Oc _ _) h1,fun y hy=>h2 y (JX.1 hy).1⟩
def D3 (ls:List (List Int)) (k:Nat):Int:=((((ls.take k).find? fun l=>match l with| []=>false|x::_=>free ls x).bind List.head?).getD (-1))
def Xu : ∀ (n:Nat) (ls:List (List Int)) (out:List Int),total ls<=n->DO n ls out=DO (total ls) ls out:=by
 intro n
 induction n using Nat.strongRecOn with
 | _ n ih=>
   intro ls out hn;by_cases he:total ls=n
   .rw[he]
   .cases n with
    | zero=>omega
    | succ n=>
      cases hp:pick ls with
      | none=>
        cases ht:total ls with
        | zero=>simp[DO,hp]
        | succ m=>simp[DO,hp]
      | some x=>
        have h1:=Iw hp;cases ht:total ls with
        | zero=>omega
        | succ m=>
          simp only[DO,hp];rw[ih n (by omega) _ _ (by omega),ih m (by omega) _ _ (by omega)]
def O2 {ls:List (List Int)} {x:Int} {out:List Int} (hp:pick ls=some x):DO (total ls) ls out=DO (total (ls.map fun l=>l.filter (· != x))) (ls.map fun l=>l.filter (· != x)) (out++[x]):=by
 have h1:=Iw hp;cases ht:total ls with
 | zero=>omega
 | succ m=>
   simp only[DO,hp];exact Xu m _ _ (by omega)
def Rm {ls:List (List Int)} {out:List Int} (hp:pick ls=none):DO (total ls) ls out=(out,ls.all List.isEmpty):=by
 cases ht:total ls with
 | zero=>rfl
 | succ m=>simp only[DO,hp]
def FW (ls:List (List Int)) (l:List Int):Bool:=match l with| []=>false|x::_=>free ls x
def IL (ls:List (List Int)) (k:Nat):D3 ls k=(((ls.take k).find? (FW ls)).bind List.head?).getD (-1):=rfl
def Iy {ls:List (List Int)} (hok:Na ls) {k:Nat} (h:D3 ls k<0):(ls.take k).find? (FW ls)=none:=by
 rw[IL]at h;cases hf:(ls.take k).find? (FW ls)with
 | none=>rfl
 | some l=>
   rw[hf]at h;have hm:=List.mem_of_mem_take (List.mem_of_find?_eq_some hf);have hg:=List.find?_some hf;cases l with
   | nil=>cases hg
   | cons x r=>
     have:=(hok.2 _ hm).2 x (.head _);simp at h;omega
def Xs {ls:List (List Int)} (hok:Na ls) {k:Nat} (hk:k<ls.length) (h:D3 ls k<0):D3 ls (k+1)=if FW ls ls[k]then(ls[k].head?).getD (-1)else -1:=by
 rw[IL,List.take_succ_eq_append_getElem hk,List.find?_append,Iy hok h];by_cases hg:FW ls ls[k]=true
 .simp[hg]
 .simp[hg]
def Rf {ls:List (List Int)} {k:Nat} (h:0<=D3 ls k):pick ls=some (D3 ls k):=by
 rw[IL]at *;show((ls.find? (FW ls)).bind List.head?)=_;cases hf:(ls.take k).find? (FW ls)with
 | none=>rw[hf]at h;simp at h
 | some l=>
   have h1:ls.find? (FW ls)=some l:=by
    have:=List.take_append_drop k ls;rw[<-this,List.find?_append,this,hf];rfl
   rw[h1];rw[hf]at h;cases l with
   | nil=>simp at h
   | cons x r=>simp
def J8 {ls:List (List Int)} (hok:Na ls) {k:Nat} {l:List Int} (hl:ls[k]? =some l) (h:D3 ls k<0):D3 ls (k+1)=if FW ls l then(l.head?).getD (-1)else -1:=by
 obtain⟨hk,rfl⟩:=JC.1 hl;exact Xs hok hk h
def dG {ls:List (List Int)} {l:List Int} (h:l∈ls):l.length<=total ls:=by
 induction ls with
 | nil=>cases h
 | cons a r ih=>
   simp only[total,E3,List.sum_cons]at *;rcases GR.1 h with rfl|h
   .omega
   .have:=ih h;omega
def lO (ls:List (List Int)) (f:Bool) (hok:Na ls) (ht:total ls<AZ):Pure zP 332 [.l (EK ls) f] (.t [.l (iL (CR ls).1) false,.b (CR ls).2]):=by
 have hM:=Mx;refine vX kZ ?_
 conv=>whnf
 repeat((first|(refine GH ?_;intro K U)|(refine DP ?_;intro KR KP hR hP)|(refine hR _ _ ?_;clear hP;clear KP;clear hR;clear KR)|refine IG ?_|refine P1 ?_|(apply U;clear U K)|fail);conv=>whnf)
 refine D1 (fun(x:List (List Int)×Bool×V×List Int)=>total x.1) (fun x=>[(0,.l (EK x.1) x.2.1),(4,x.2.2.1)]) (fun x=>[.own x.2.2.1 1 (iL x.2.2.2)])
  (fun x=>Na x.1/\x.2.2.2.length+total x.1<=total ls/\DO (total x.1) x.1 x.2.2.2=CR ls) (ls,f,.l [] true,[]) rfl ⟨hok,by simp,rfl⟩ (Dw Sat.nil 1) ?_
 rintro⟨ls',f',v,out⟩ Z ⟨hok',hlen,hm⟩ hs;dsimp only at hok' hlen hm hs;have hlm:ls'.length<=AZ:=by have:=hok'.1;omega
 conv=>whnf
 repeat((first|(refine GH ?_;intro K U)|(refine DP ?_;intro KR KP hR hP)|(refine hR _ _ ?_;clear hP;clear KP;clear hR;clear KR)|refine IG ?_|refine P1 ?_|(apply U;clear U K)|fail);conv=>whnf)
 have hJ :=Sz U (fun(y:Int×Bool)=>[(5,.i .i64 y.1),(6,.b y.2)]) (fun _=>[.own v 1 (iL out)]) (fun y=>(0<=y.1/\pick ls'=some y.1)\/(y.1<0/\pick ls'=none/\y.2=ls'.any fun l=> !l.isEmpty))
  [(0,.l (EK ls') f'),(4,v),(5,.pn),(6,.pn)] (by
  rintro⟨nx,lf⟩ Z hor hs;dsimp only at hor
  conv=>whnf
  repeat((first|refine⟨rfl,?_⟩|(refine GH ?_;intro K U)|(refine DP ?_;intro KR KP hR hP)|(refine hR _ _ ?_;clear hP;clear KP;clear hR;clear KR)|refine Iu ?_|(apply U;clear U K)|fail);conv=>whnf)
  refine fork (fun hneg=>?_) (fun hneg=>?_)
  .conv=>whnf
   repeat((first|(refine GH ?_;intro K U)|(refine DP ?_;intro KR KP hR hP)|(refine hR _ _ ?_;clear hP;clear KP;clear hR;clear KR)|refine ju ?_|(apply U;clear U K)|(clear U K));conv=>whnf)
   rcases hor with⟨h0,_⟩|⟨_,hp,rfl⟩
   .omega
   .rw[Rm hp]at hm
    refine A8 ?_;rw[<-hm];refine .t (.cons (hs.GC 0 rfl) (.cons ?_ .nil));have:(!ls'.any fun l=> !l.isEmpty)=ls'.all List.isEmpty:=by simp[List.all_eq_not_any_not]
    rw[<-this];exact .refl _
  .conv=>whnf
   repeat((first|(refine GH ?_;intro K U)|(refine DP ?_;intro KR KP hR hP)|refine KZ ?_|(apply U;clear U K)|fail);conv=>whnf)
   rcases hor with⟨_,hp⟩|⟨h0,_⟩
   .have hlt:=Iw hp
    refine GN hs 0 (x:=nx) rfl (by omega) Bm fun v' Z hs=>?_
    conv=>whnf
    repeat((first|(refine GH ?_;intro K U)|(refine DP ?_;intro KR KP hR hP)|(refine hR _ _ ?_;clear hP;clear KP;clear hR;clear KR)|refine IG ?_|refine P1 ?_|(apply U;clear U K)|fail);conv=>whnf)
    refine Bw ls'.length (fun k u=>[(8,u),(9,eI (A6 k))]) (fun k u=>[.own v' 1 (iL (out++[nx])),.own u 1 (EK ((ls'.take k).map fun l=>l.filter (· != nx)))]) (fun _ _=>True) (.l [] true) rfl trivial (Dw hs 1) ?_;rintro k u Z hk - hs
    conv=>whnf
    repeat((first|refine⟨rfl,?_⟩|refine WH ?_|(refine GH ?_;intro K U)|(refine DP ?_;intro KR KP hR hP)|(refine hR _ _ ?_;clear hP;clear KP;clear hR;clear KR)|refine Iu ?_|(apply U;clear U K)|fail);conv=>whnf)
    refine Gp hk hlm (fun l hl hlt'=>?_) fun hk=>?_
    .conv=>whnf
     repeat((first|(refine GH ?_;intro K U)|(refine DP ?_;intro KR KP hR hP)|refine KZ ?_|refine IG ?_|(apply U;clear U K)|fail);conv=>whnf)
     refine Jn hl hlm rfl ?_
     conv=>whnf
     repeat((first|refine KO ?_|fail);conv=>whnf)
     refine(RQ _ _ _ (hok'.2 _ (Bo hl)).1).use ?_
     conv=>whnf
     refine GN hs 1 (x:=l.filter (· != nx)) rfl (by have:=hok'.1;simp;omega) DK fun u' Z' hs'=>?_
     conv=>whnf
     repeat((first|refine⟨rfl,?_⟩|(refine DP ?_;intro KR KP hR hP)|(refine hR _ _ ?_;clear hP;clear KP;clear hR;clear KR)|(apply U;clear U K)|(clear U K));conv=>whnf)
     refine⟨hlt',u',rfl,trivial,?_⟩;rw[AO hl,SN];exact hs'
    .rw[Aq hk]at hs
     conv=>whnf
     repeat((first|(refine DP ?_;intro KR KP hR hP)|refine P2 ?_|(apply U;clear U K)|(clear U K));conv=>whnf)
     refine s6 hs 1 rfl fun Z' hs'=>?_
     conv=>whnf
     repeat((first|(refine hR _ _ ?_;clear hP;clear KP;clear hR;clear KR)|fail);conv=>whnf)
     refine⟨(ls'.map fun l=>l.filter (· != nx),false,v',out++[nx]),hlt,rfl,⟨hok'.filter nx,by simp;omega,?_⟩,hs'⟩;rw[<-O2 hp];exact hm
   .omega)
 clear U
 .refine Bw ls'.length (fun k (_:Unit)=>[(5,.i .i64 (D3 ls' k)),(6,.b ((ls'.take k).any fun l=> !l.isEmpty)),(7,eI (A6 k))]) (fun _ _=>[.own v 1 (iL out)]) (fun _ _=>True) () rfl trivial hs ?_
  rintro k - Z hk - hs
  conv=>whnf
  repeat((first|refine⟨rfl,?_⟩|refine WH ?_|(refine GH ?_;intro K U)|(refine DP ?_;intro KR KP hR hP)|fail);conv=>whnf)
  refine⟨fun h=>?_,fun h=>?_⟩<;>(try rw[h])
  .have hlt:=of_decide_eq_true h
   rw[Ae (by have:=hok'.1;omega)]at hlt;have hlt:=ij hlt;have hl:=Cr hlt;have hb:=hok'.2 _ (List.getElem_mem hlt);generalize ls'[k]=l at *
   conv=>whnf
   repeat((first|refine⟨rfl,?_⟩|refine je ?_|(refine hR _ _ ?_;clear hP;clear KP;clear hR;clear KR)|refine Iu ?_|(apply U;clear U K)|fail);conv=>whnf)
   refine fork (fun hneg=>?_) (fun hneg=>?_)
   .conv=>whnf
    repeat((first|(refine GH ?_;intro K U)|(refine DP ?_;intro KR KP hR hP)|refine KZ ?_|refine IG ?_|(apply U;clear U K)|fail);conv=>whnf)
    refine Jn hl hlm rfl ?_
    conv=>whnf
    repeat((first|refine⟨rfl,?_⟩|refine KO ?_|refine WH ?_|(refine hR _ _ ?_;clear hP;clear KP;clear hR;clear KR)|refine Iu ?_|(apply U;clear U K)|fail);conv=>whnf)
    refine fork (fun hp=>?_) (fun hp=>?_)
    .simp only[B2]at hp
     obtain⟨x,r,rfl⟩: ∃x r,l=x::r:=by cases l with
      | nil=>simp at hp
      | cons x r=>exact⟨x,r,rfl⟩
     have hany:((ls'.take (k+1)).any fun l=> !l.isEmpty)=true:=by
      rw[AO hl];simp
     conv=>whnf
     repeat((first|(refine GH ?_;intro K U)|(refine DP ?_;intro KR KP hR hP)|(refine hR _ _ ?_;clear hP;clear KP;clear hR;clear KR)|(apply U;clear U K)|fail);conv=>whnf)
     refine Jn hl hlm rfl ?_
     conv=>whnf
     repeat((first|refine KO ?_|fail);conv=>whnf)
     refine V6 0 rfl rfl rfl ?_
     conv=>whnf
     repeat((first|refine KO ?_|fail);conv=>whnf)
     refine(qB _ _ _ hlm fun l hl=>(hok'.2 l hl).1).use ?_
     conv=>whnf
     repeat((first|(refine hR _ _ ?_;clear hP;clear KP;clear hR;clear KR)|refine Iu ?_|(apply U;clear U K)|fail);conv=>whnf)
     refine⟨fun hf=>?_,fun hf=>?_⟩
     .conv=>whnf
      repeat((first|(refine DP ?_;intro KR KP hR hP)|fail);conv=>whnf)
      refine Jn hl hlm rfl ?_
      conv=>whnf
      repeat((first|refine KO ?_|fail);conv=>whnf)
      refine V6 0 rfl rfl rfl ?_
      conv=>whnf
      repeat((first|refine⟨rfl,?_⟩|refine KO ?_|(refine DP ?_;intro KR KP hR hP)|(refine hR _ _ ?_;clear hP;clear KP;clear hR;clear KR)|(apply U;clear U K)|fail);conv=>whnf)
      refine⟨hlt,(),?_,trivial,hs⟩;have:D3 ls' (k+1)=x:=by rw[J8 hok' hl hneg];simp[FW,hf]
      dsimp only;rw[this,hany];rfl
     .conv=>whnf
      repeat((first|refine⟨rfl,?_⟩|(refine DP ?_;intro KR KP hR hP)|(refine hR _ _ ?_;clear hP;clear KP;clear hR;clear KR)|refine KZ ?_|(apply U;clear U K)|fail);conv=>whnf)
      refine⟨hlt,(),?_,trivial,hs⟩;have:D3 ls' (k+1)=D3 ls' k:=by rw[J8 hok' hl hneg,IL ls' k,Iy hok' hneg];simp[FW,hf]
      dsimp only;rw[this,hany];rfl
    .simp only[B2]at hp
     obtain rfl:l= []:=YE.1 (by omega)
     conv=>whnf
     repeat((first|refine⟨rfl,?_⟩|(refine DP ?_;intro KR KP hR hP)|(refine hR _ _ ?_;clear hP;clear KP;clear hR;clear KR)|refine KZ ?_|(apply U;clear U K)|fail);conv=>whnf)
     refine⟨hlt,(),?_,trivial,hs⟩;have:D3 ls' (k+1)=D3 ls' k:=by rw[J8 hok' hl hneg,IL ls' k,Iy hok' hneg];simp[FW]
     have hany:((ls'.take (k+1)).any fun l=> !l.isEmpty)=((ls'.take k).any fun l=> !l.isEmpty):=by
      rw[AO hl,List.any_append];simp
     dsimp only;rw[this,hany];rfl
   .conv=>whnf
    repeat((first|refine P2 ?_|(clear U K));conv=>whnf)
    refine hJ (D3 ls' k,(ls'.take k).any fun l=> !l.isEmpty) _ _ rfl (.inl ⟨by omega,?_⟩) hs;exact Rf (by omega)
  .have hlt:=of_decide_eq_false h
   rw[Ae (by have:=hok'.1;omega)]at hlt;have hke:=bg hk hlt
   conv=>whnf
   repeat((first|refine jf ?_|(refine hR _ _ ?_;clear hP;clear KP;clear hR;clear KR)|refine Iu ?_|refine P2 ?_|(apply U;clear U K)|(clear U K));conv=>whnf)
   refine hJ (D3 ls' k,(ls'.take k).any fun l=> !l.isEmpty) _ _ rfl ?_ hs;rw[Aq hke];by_cases h0:0<=D3 ls' k
   .exact .inl ⟨h0,Rf h0⟩
   .refine .inr ⟨by omega,?_,rfl⟩
    have:=Iy hok' (k:=k) (by omega);rw[Aq hke]at this;show((ls'.find? (FW ls')).bind List.head?)=none;rw[this];rfl
def EF (g os:List (List Int)) (c:Int):List Int:=
 match Eb g os c with
 | none=>[]
 | some l=>if(CR l).2 then [c]++(CR l).1++[0]else []
def Bf (g:List (List Int)):Nat->List (List Int)
 | 0=>[[0]]
 | k+1=>Bf g k++[EF g (Bf g k) ((k:Int)+1)]
def CD (g:List (List Int)):List (List Int):=Bf g (2+g.length)
def JM (g:List (List Int)):Prop:=g.length<=16/\ ∀(i:Nat) (l:List Int),g[i]? =some l->l.length<=3/\l.Nodup/\ ∀c∈l,(3:Int)<=c/\c<3+(i:Int)
def Co (g:List (List Int)): ∀k,(Bf g k).length=k+1
 | 0=>rfl
 | k+1=>by simp[Bf,Co g k]
def I1: ∀(n:Nat) (ls:List (List Int)) (out:List Int),(DO n ls out).1.length<=out.length+n
 | 0,ls,out=>by simp[DO]
 | n + 1,ls,out=>by
   simp only[DO];split
   .simp
   .rename_i x _
    have:=I1 n (ls.map fun l=>l.filter (· != x)) (out++[x]);simp only[NW,List.length_singleton]at this;refine Nat.le_trans this ?_;omega
def Xr {ls:List (List Int)} (h: ∀l∈ls,∀x∈l,(0:Int)<=x) {x:Int} (hp:pick ls=some x):0<=x:=by
 unfold pick at hp;rw[Option.bind_eq_some_iff]at hp;obtain⟨l,h1,h2⟩:=hp;have hm:=List.mem_of_find?_eq_some h1;cases l with
 | nil=>cases h2
 | cons y r=>cases h2;exact h _ hm _ (.head _)
def LF: ∀(n:Nat) (ls:List (List Int)) (out:List Int),(∀l∈ls,∀x∈l,(0:Int)<=x)->(∀x∈out,(0:Int)<=x)-> ∀x∈(DO n ls out).1,(0:Int)<=x
 | 0,ls,out,_,h2=>h2
 | n + 1,ls,out,h1,h2=>by
   simp only[DO];split
   .exact h2
   .rename_i y hy
    refine LF n _ _ (fun l hl x hx=>?_) fun x hx=>?_
    .obtain⟨l',hl',rfl⟩:=IX.1 hl
     exact h1 _ hl' _ (JX.1 hx).1
    .rcases Du.1 hx with hx|hx
     .exact h2 x hx
     .rw[KF.1 hx];exact Xr h1 hy
def Di {g:List (List Int)} (hg:JM g) {c p:Int} (hp:p∈A4 g c):3<=p/\p<c:=by
 unfold A4 at hp;split at hp
 .cases hp
 .rename_i hc
  rw[C4]at hp;cases hq:g[(c - 3).toNat]? with
  | none=>rw[hq]at hp;cases hp
  | some l=>
    rw[hq]at hp;obtain⟨_,_,h⟩:=hg.2 _ _ hq;have:=h p hp;omega
def C8 {g:List (List Int)} (hg:JM g) (c:Int):(A4 g c).length<=3:=by
 unfold A4;split
 .simp
 .rw[C4]
  cases hq:g[(c - 3).toNat]? with
  | none=>simp
  | some l=>exact(hg.2 _ _ hq).1
def HP {g os:List (List Int)} {c:Int} {ls:List (List Int)} (h:Eb g os c=some ls):ls=(A4 g c).map (fun p=>(os.getD p.toNat []).filter (· != 0))++[A4 g c]:=by
 unfold Eb at h;split at h
 .cases h
 .exact(Option.some.inj h).symm
def XD {os:List (List Int)} {B:Nat} (h: ∀o∈os,o.length<=B) (n:Nat):(os.getD n []).length<=B:=by
 rw[C4];cases hq:os[n]? with
 | none=>simp
 | some l=>exact h _ (Bo hq)
def Q3 {os:List (List Int)} {Q:Int->Prop} (h: ∀o∈os,∀x∈o,Q x) (n:Nat): ∀x∈os.getD n [],Q x:=by
 rw[C4];cases hq:os[n]? with
 | none=>simp
 | some l=>exact h _ (Bo hq)
def Fv {g os:List (List Int)} {c:Int} {ls:List (List Int)} (h:Eb g os c=some ls) {B:Nat} (hB: ∀o∈os,o.length<=B):total ls<=(A4 g c).length*(B+1):=by
 rw[HP h];simp only[total,SN,y5,List.sum_append,E3,List.map_nil,List.sum_cons,List.sum_nil,Nat.add_zero]
 have: ∀ps:List Int,(ps.map (List.length∘fun p=>(os.getD p.toNat []).filter (· != 0))).sum<=ps.length*B:=fun ps=>by
  induction ps with
  | nil=>simp
  | cons p r ih=>
    simp only[E3,List.sum_cons,Function.comp,Ky,Nat.succ_mul];have h1:=Oc (· != 0) (os.getD p.toNat []);have h2:=XD hB p.toNat;simp only[Function.comp_def]at *;omega
 have:=this (A4 g c);rw[Nat.mul_add,Nat.mul_one];simp only[Function.comp_def]at *;omega
def Xt {g os:List (List Int)} {c:Int} {B:Nat} (hB: ∀o∈os,o.length<=B):(EF g os c).length<=(A4 g c).length*(B+1)+2:=by
 unfold EF;split
 .simp
 .rename_i ls h
  have h1:=Fv h hB;have h2:=I1 (total ls) ls [];simp only[List.length_nil,G8]at h2;split
  .simp only[NW,List.length_singleton,CR]
   omega
  .simp
def SM {g os:List (List Int)} {c:Int} (hg:JM g) (hc:0<=c) (h: ∀o∈os,∀x∈o,(0:Int)<=x): ∀x∈EF g os c,0<=x:=by
 unfold EF;split
 .simp
 .rename_i ls hl
  split
  .intro x hx
   have hls: ∀l∈ls,∀x∈l,(0:Int)<=x:=by
    rw[HP hl];intro l hl x hx;rcases Du.1 hl with hl|hl
    .obtain⟨p,_,rfl⟩:=IX.1 hl
     exact Q3 h p.toNat x (JX.1 hx).1
    .rw[KF.1 hl]at hx
     have:=Di hg hx;omega
   simp only[Du,KF]at hx;rcases hx with(rfl|hx)|rfl
   .exact hc
   .exact LF _ _ _ hls (by simp) x hx
   .exact Int.le_refl _
  .simp
def Jl (k:Nat):Nat:=5*3 ^ (k - 3) - 3
def td (n:Nat):1<=3 ^ n:=Nat.one_le_pow _ _ (by omega)
def I9 {g : List (List Int)} (hg:JM g): ∀(k:Nat),∀o∈Bf g k,o.length<=Jl k/\ ∀x∈o,(0:Int)<=x
 | 0,o,ho=>by
   simp only[Bf,KF]at ho;subst ho;simp[Jl]
 | k + 1,o,ho=>by
   have ih:=I9 hg k
   have hmono:Jl k<=Jl (k+1):=by
    unfold Jl;have:3 ^ (k - 3)<=3 ^ (k+1 - 3):=Nat.pow_le_pow_right (by omega) (by omega);omega
   simp only[Bf,Du,KF]at ho;rcases ho with ho|rfl
   .exact⟨Nat.le_trans (ih o ho).1 hmono,(ih o ho).2⟩
   .refine⟨?_,SM hg (by omega) fun o ho=>(ih o ho).2⟩
    have h1:=Xt (g:=g) (c:=(k:Int)+1) fun o ho=>(ih o ho).1
    by_cases hk:k<3
    .have:A4 g ((k:Int)+1)= []:=by
      apply List.eq_nil_iff_forall_not_mem.2;intro p hp;have:=Di hg hp;omega
     rw[this]at h1
     have:Jl (k+1)=2:=by
      have:k+1 - 3=0:=by omega
      simp[Jl,this]
     simpa[this]using h1
    .have h2:=C8 hg ((k:Int)+1)
     have h3:(A4 g ((k:Int)+1)).length*(Jl k+1)<=3*(Jl k+1):=Vi _ h2;have:k+1 - 3=(k - 3)+1:=by omega
     unfold Jl at *;rw[this,Nat.pow_succ];have:=td (k - 3);omega
def cA {k:Nat} (h:k<=18):Jl k<=71744535:=by
 unfold Jl;have:3 ^ (k - 3)<=3 ^ 15:=Nat.pow_le_pow_right (by omega) (by omega);have e:(3:Nat) ^ 15=14348907:=by decide
 omega
def FM {g:List (List Int)}: ∀ {k j:Nat},j<=k->(Bf g k)[j]? =(Bf g j)[j]?
 | 0,j,h=>by(obtain rfl:j=0:=by omega);rfl
 | k+1,j,h=>by
   by_cases e:j=k+1
   .subst e;rfl
   .rw[<-FM (k:=k) (by omega),Bf,cQ (by rw[Co];omega)]
def ZJ {g os:List (List Int)} {c:Int} {ls:List (List Int)} (hg:JM g) (h:Eb g os c=some ls) {B:Nat} (hB: ∀o∈os,o.length<=B/\ ∀x∈o,(0:Int)<=x) (hb:B<=100000000):Na ls/\total ls<AZ:=by
 have h3:=C8 hg c;have ht:=Fv h fun o ho=>(hB o ho).1
 have:(A4 g c).length*(B+1)<=3*(B+1):=Vi _ h3;have htl:total ls<AZ:=by simp only[AZ];omega
 refine⟨⟨?_,fun l hl=>⟨?_,?_⟩⟩,htl⟩
 .rw[HP h]
  simp only[NW,B2,List.length_singleton,AZ];omega
 .have:=dG hl
  simp only[AZ]at *;omega
 .intro x hx
  rw[HP h]at hl;rcases Du.1 hl with hl|hl
  .obtain⟨p,_,rfl⟩:=IX.1 hl
   exact Q3 (fun o ho=>(hB o ho).2) p.toNat x (JX.1 hx).1
  .rw[KF.1 hl]at hx
   have:=Di hg hx;omega
def df (g : List (List Int)) (f:Bool) (hg:JM g):Pure zP 297 [.l (EK g) f] (.l (EK (CD g)) false):=by
 refine wR kZ ?_
 conv=>whnf
 repeat((first|clear U K|apply st|(apply zk;intro K U)|fail);conv=>whnf)
 have hg16:=hg.1;have hgm:g.length<=AZ:=by simp only[AZ];omega
 refine⟨.l (EK [[0]]) true,emp,fun _ _ h=>h,.l (fun _=>rfl) (.cons (.cons (.l (fun h=>(by cases h)) (.refl _ _ _)) .nil) .nil),?_⟩;refine zh ?_;(repeat clear U K);repeat intro K U
 refine Bw (2+g.length) (fun k v=>[(3,v),(4,eI (MB 1 k))]) (fun k v=>[.own v 1 (EK (Bf g k))]) (fun _ _=>True) (.l (EK [[0]]) true) rfl trivial (nY Sat.nil (by simp)) ?_;rintro k v Z hk - hs;have hc1:MB 1 k=(k:Int)+1:=by rw[Pv (by omega) (by omega)];omega
 have hw:IntKind.i64.wrap (3+((EK g).length:Nat))=3+(g.length:Int):=by rw[B2,wrap64 (by omega) (by omega)]
 refine zh ?_;(repeat clear U K);repeat intro K U
 rw[hc1];rw[hw];refine fork (fun hlt=>?_) (fun hlt=>?_)
 .have hlt':k<2+g.length:=by omega
  have hB:=I9 hg k;have hb18:Jl k<=71744535:=cA (by omega);have hc2:MB 1 (k+1)=IntKind.i64.wrap ((k:Int)+1+1):=by rw[MB,hc1]
  refine zh ?_;(repeat clear U K);repeat intro K U
  refine⟨.l (iL []) false,Z,fun _ _ h=>h,.l (fun h=>(by cases h)) (.refl _ _ _),?_⟩
  conv=>whnf
  repeat((first|clear U K|apply st|(apply zk;intro K U)|fail);conv=>whnf)
  refine(lS g (Bf g k) f v ((k:Int)+1) (by omega) hgm (fun o ho=>by have:=(hB o ho).1;simp only[AZ];omega) (by have:=C8 hg ((k:Int)+1);omega)
   (fun p hp=>by have:=Di hg hp;rw[Co];omega)).use (rest:=[]) hs ?_
  rintro r post Z' ⟨rfl,rfl⟩ hs;cases hl:Eb g (Bf g k) ((k:Int)+1)with
  | none=>
    refine zh ?_;(repeat clear U K);repeat intro K U
    refine GN hs 0 (x:=[]) rfl (by rw[Co];simp only[AZ];omega) DK fun v' Z' hs'=>?_
    conv=>whnf
    refine⟨v',Z',fun _ _ h=>h,.refl _,?_⟩;refine zh ?_;(repeat clear U K);repeat intro K U
    refine⟨hlt',v',?_,trivial,?_⟩
    .skip
     rw[hc2];rfl
    .have:EF g (Bf g k) ((k:Int)+1)= []:=by simp[EF,hl,]
     rw[Bf,this];exact hs'
  | some ls=>
    obtain⟨hok,htot⟩:=ZJ hg hl hB (by omega);refine zh ?_;(repeat clear U K);repeat intro K U
    refine(lO ls false hok htot).use ?_;have hml:=I1 (total ls) ls [];simp only[List.length_nil,G8]at hml;refine zh ?_;(repeat clear U K);repeat intro K U
    refine⟨fun h=>?_,fun h=>?_⟩<;>(try rw[h])
    .conv=>whnf
     repeat((first|clear U K|(apply zk;intro K U)|fail);conv=>whnf)
     refine FV (nY hs (by simp)) 1 (xs:=[(k:Int)+1]) rfl (by simp[CR];have:=Fv hl fun o ho=>(hB o ho).1;have h3:=C8 hg ((k:Int)+1);have:(A4 g ((k:Int)+1)).length*(Jl k+1)<=3*(Jl k+1):=Vi _ h3;simp only[AZ]at *;omega) Bm fun u Z1 hs=>?_
     conv=>whnf
     refine GN hs 1 (x:=0) rfl (by simp[CR];have:=Fv hl fun o ho=>(hB o ho).1;have h3:=C8 hg ((k:Int)+1);have:(A4 g ((k:Int)+1)).length*(Jl k+1)<=3*(Jl k+1):=Vi _ h3;simp only[AZ]at *;omega) Bm fun u Z1 hs=>?_
     conv=>whnf
     refine s6 hs 1 rfl fun Z' hs=>?_
     conv=>whnf
     repeat((first|clear U K|apply st|(apply zk;intro K U)|fail);conv=>whnf)
     refine GN hs 0 (x:=([(k:Int)+1]++(CR ls).1++[0])) rfl (by rw[Co];simp only[AZ];omega) DK fun v' Z' hs'=>?_
     conv=>whnf
     refine⟨v',Z',fun _ _ h=>h,.refl _,?_⟩;refine zh ?_;(repeat clear U K);repeat intro K U
     refine⟨hlt',v',?_,trivial,?_⟩
     .skip
      rw[hc2];rfl
     .have:EF g (Bf g k) ((k:Int)+1)=([(k:Int)+1]++(CR ls).1++[0]):=by simp[EF,hl,h]
      rw[Bf,this];exact hs'
    .refine zh ?_;(repeat clear U K);repeat intro K U
     refine GN hs 0 (x:=[]) rfl (by rw[Co];simp only[AZ];omega) DK fun v' Z' hs'=>?_
     conv=>whnf
     refine⟨v',Z',fun _ _ h=>h,.refl _,?_⟩;refine zh ?_;(repeat clear U K);repeat intro K U
     refine⟨hlt',v',?_,trivial,?_⟩
     .skip
      rw[hc2];rfl
     .have:EF g (Bf g k) ((k:Int)+1)= []:=by simp[EF,hl,h]
      rw[Bf,this];exact hs'
 .refine zh ?_;(repeat clear U K);repeat intro K U
  have hke:k=2+g.length:=by omega
  subst hke;exact Ea hs 0 rfl rfl
end Go.Gl
namespace Go.Gl
def par (ps:List (List Int)) (c:Nat):List Int:=if c<3 then []else ps.getD (c - 3) []
def ordered (ps:List (List Int)):Prop:= ∀c p,p∈par ps c->3<=p/\p<(c:Int)
def ft (ps:List (List Int)):Nat->Nat->Nat->Bool
 | 0,c,b=>c==b
 | f+1,c,b=>c==b||(par ps c).any fun p=>ft ps f p.toNat b
def G9 (ps:List (List Int)) (c b:Nat):Bool:=ft ps c c b
def Lg {ps:List (List Int)} (ho:ordered ps): ∀(f c b:Nat),c<=f->ft ps f c b=G9 ps c b
 | 0,c,b,h=>by(obtain rfl:c=0:=by omega);rfl
 | f + 1,c,b,h=>by
   cases c with
   | zero=>
     have:par ps 0= []:=rfl;simp[G9,ft,this]
   | succ c=>
     simp only[G9,ft];congr 1
     have key: ∀l:List Int,(∀p∈l,p∈par ps (c+1))->(l.any fun p=>ft ps f p.toNat b)=l.any fun p=>ft ps c p.toNat b:=by
      intro l hl
      induction l with
      | nil=>rfl
      | cons p r ih=>
        have hp:=ho (c+1) p (hl p (.head _));simp only[PV];rw[ih fun q hq=>hl q (.tail _ hq),Lg ho f p.toNat b (by omega),Lg ho c p.toNat b (by omega)]
     exact key _ fun p hp=>hp
def Fa {ps:List (List Int)} (ho:ordered ps) (c b:Nat):G9 ps c b=(c==b||(par ps c).any fun p=>G9 ps p.toNat b):=by
 cases c with
 | zero=>simp[G9,ft,par]
 | succ c=>
   simp only[G9,ft];congr 1
   have key: ∀l:List Int,(∀p∈l,p∈par ps (c+1))->(l.any fun p=>ft ps c p.toNat b)=l.any fun p=>ft ps p.toNat p.toNat b:=by
    intro l hl
    induction l with
    | nil=>rfl
    | cons p r ih=>
      have hp:=ho (c+1) p (hl p (.head _));simp only[PV];rw[ih fun q hq=>hl q (.tail _ hq),Lg ho c p.toNat b (by omega)];rfl
   exact key _ fun p hp=>hp
def F4 {ps:List (List Int)} (ho:ordered ps) (c:Nat):G9 ps c c=true:=by rw[Fa ho];simp
def iJ {ps:List (List Int)} (ho:ordered ps): ∀(c b:Nat),G9 ps c b=true->b<=c:=by
 intro c
 induction c using Nat.strongRecOn with
 | _ c ih=>
   intro b h;rw[Fa ho]at h;simp only[Fm,DD,IY]at h;rcases h with rfl|⟨p,hp,h⟩
   .omega
   .have:=ho c p hp
    have:=ih p.toNat (by omega) b h;omega
def N6 {ps:List (List Int)} (ho:ordered ps): ∀(a b c:Nat),G9 ps a b=true->G9 ps b c=true->G9 ps a c=true:=by
 intro a
 induction a using Nat.strongRecOn with
 | _ a ih=>
   intro b c h k;rw[Fa ho]at h ⊢;simp only[Fm,DD,IY]at h ⊢;rcases h with rfl|⟨p,hp,h⟩
   .rw[Fa ho]at k
    simpa using k
   .have:=ho a p hp
    exact .inr ⟨p,hp,ih p.toNat (by omega) b c h k⟩
def Fy (bs:List Bool) (i:Nat):List Int->List Bool
 | []=>bs
 | p::r=>Fy (bs.set p.toNat (bs.getD p.toNat false||bs.getD i false)) i r
def NI (i:Nat): ∀(a b:List Int) (bs:List Bool),Fy bs i (a++b)=Fy (Fy bs i a) i b
 | [],b,bs=>rfl
 | p::r,b,bs=>by simp only[List.cons_append,Fy];exact NI i r b _
def OH (i:Nat): ∀(l:List Int) (bs:List Bool),(Fy bs i l).length=bs.length
 | [],bs=>rfl
 | p::r,bs=>by simp only[Fy];rw[OH i r];simp
def Ho (ps:List (List Int)) (n c:Nat):Nat->List Bool
 | 0=>(List.replicate n false).set c true
 | k+1=>Fy (Ho ps n c k) (c - k) (par ps (c - k))
def MQ (ps:List (List Int)) (n c:Nat): ∀k,(Ho ps n c k).length=n
 | 0=>by simp[Ho]
 | k+1=>by simp only[Ho];rw[OH,MQ ps n c k]
def EZ {bs:List Bool} {j:Nat} {x:Bool} (hj:j<bs.length) (b:Nat):(bs.set j x).getD b false=if b=j then x else bs.getD b false:=by
 simp only[C4,List.getElem?_set];by_cases h:j=b
 .subst h;simp[hj]
 .rw[if_neg h,if_neg (fun e=>h e.symm)]
def OI {i:Nat}: ∀(l:List Int) (bs:List Bool),(∀p∈l,0<=p/\p.toNat<bs.length/\p.toNat<i)-> ∀b,(Fy bs i l).getD b false=(bs.getD b false||(bs.getD i false&&l.contains (b:Int)))
 | [],bs,_,b=>by simp[Fy]
 | p ::r,bs,h,b=>by
   obtain⟨h1,h2,h3⟩:=h p (.head _);simp only[Fy];have hi:i≠p.toNat:=by omega
   rw[OI r _ (fun q hq=>by have:=h q (.tail _ hq);simpa using this),EZ h2,EZ h2,if_neg hi];by_cases hb:b=p.toNat
   .subst hb
    have:((p.toNat:Nat):Int)=p:=by omega
    simp only[if_true,this,List.contains_cons,beq_self_eq_true,Bool.true_or,Bool.and_true];cases bs.getD p.toNat false<;>cases bs.getD i false<;>simp
   .rw[if_neg hb]
    have:((b:Int)==p)=false:=by simp;omega
    simp only[List.contains_cons,this,Bool.false_or]
def Wj {ps:List (List Int)} (ho:ordered ps) {n c:Nat} (hc:c<n): ∀k,k<=c - 2->(∀b,(Ho ps n c k).getD b false=true->G9 ps c b=true)/\(Ho ps n c k).getD c false=true/\
    (∀j p,c - k<j->(Ho ps n c k).getD j false=true->p∈par ps j->(Ho ps n c k).getD p.toNat false=true)
 | 0,_=>by
   have hg: ∀b,(Ho ps n c 0).getD b false=decide (b=c):=fun b=>by
    simp only[Ho];rw[EZ (by simpa using hc)];by_cases h:b=c
    .simp[h]
    .rw[if_neg h]
     simp[h,C4,List.getElem?_replicate];split<;>rfl
   refine⟨fun b hb=>?_,by rw[hg];simp,fun j p hj hb hp=>?_⟩
   .rw[hg]at hb
    simp only[Cc]at hb;subst hb;exact F4 ho _
   .rw[hg]at hb
    simp only[Cc]at hb;omega
 | k + 1,hk=>by
   obtain⟨h1,h2,h3⟩:=Wj ho hc k (by omega)
   have hpar: ∀p∈par ps (c - k),0<=p/\p.toNat<(Ho ps n c k).length/\p.toNat<c - k:=fun p hp=>by
    have:=ho _ p hp;rw[MQ];omega
   have hg: ∀b,(Ho ps n c (k+1)).getD b false=((Ho ps n c k).getD b false||((Ho ps n c k).getD (c - k) false&&(par ps (c - k)).contains (b:Int))):=fun b=>by
    simp only[Ho];exact OI _ _ hpar b
   refine⟨fun b hb=>?_,by rw[hg,h2];rfl,fun j p hj hb hp=>?_⟩
   .rw[hg]at hb
    simp only[Fm,A9,List.contains_iff_mem]at hb;rcases hb with hb|⟨hb,hm⟩
    .exact h1 b hb
    .refine N6 ho c (c - k) b (h1 _ hb) ?_
     rw[Fa ho];simp only[Fm,IY];exact .inr ⟨b,hm,by simpa using F4 ho b⟩
   .have hjp:=ho j p hp
    have hb':(Ho ps n c k).getD j false=true:=by
     rw[hg]at hb;simp only[Fm,A9,List.contains_iff_mem]at hb;rcases hb with hb|⟨_,hm⟩
     .exact hb
     .have:=ho _ _ hm
      omega
    rw[hg];by_cases e:j=c - k
    .subst e
     rw[hb'];have:((p.toNat:Nat):Int)=p:=by omega
     simp only[this,EA,Fm,List.contains_iff_mem];exact .inr hp
    .rw[h3 j p (by omega) hb' hp]
     rfl
def aK {ps:List (List Int)} (ho:ordered ps) {n c:Nat} (hc:c<n) (b:Nat):(Ho ps n c (c - 2)).getD b false=G9 ps c b:=by
 obtain⟨h1,h2,h3⟩:=Wj ho hc (c - 2) (IW _)
 have key: ∀a,(Ho ps n c (c - 2)).getD a false=true-> ∀b,G9 ps a b=true->(Ho ps n c (c - 2)).getD b false=true:=by
  intro a
  induction a using Nat.strongRecOn with
  | _ a ih=>
    intro ha b hb;rw[Fa ho]at hb;simp only[Fm,DD,IY]at hb;rcases hb with rfl|⟨p,hp,hb⟩
    .exact ha
    .have:=ho a p hp
     exact ih p.toNat (by omega) (h3 a p (by omega) ha hp) b hb
 cases hb:G9 ps c b with
 | true=>exact key c h2 b hb
 | false=>
   cases hq:(Ho ps n c (c - 2)).getD b false with
   | false=>rfl
   | true=>rw[h1 b hq]at hb;cases hb
end Go.Gl
namespace Go.Gl
open Go.Proofs
attribute [local irreducible] Au Am Ab AR AK AY AQ AS AJ AX AN AP Ao Az Sat AU Ax Ad W
def uJ (g:List (List Int)) (f:Bool) (c:Int) (hg:JM g) (h0:0<=c) (h1:c<3+g.length):Pure zP 233 [.l (EK g) f,eI c] (.t [.l (iL ((CD g).getD c.toNat [])) false,.b (!((CD g).getD c.toNat []).isEmpty)]):=by
 refine xT kZ ?_
 conv=>whnf
 repeat((first|clear U K|apply st|(apply zk;intro K U)|fail);conv=>whnf)
 refine(df g f hg).use ?_
 conv=>whnf
 have hlen:=Co g (2+g.length);have hlt:c.toNat<(CD g).length:=by unfold CD;omega
 have hq:=Cr hlt;refine V6 c.toNat hq (by omega) rfl ?_;refine zh ?_;(repeat clear U K);repeat intro K U
 refine AF ?_;rw[C4,hq,Option.getD_some];cases(CD g)[c.toNat]with
 | nil=>rfl
 | cons _ _=>simp
def wFit (w:AH):Prop:=w.parents.length<=1000/\(∀l∈w.parents,l.length<=AZ)/\w.owner.length<=AZ
def iS {ps:List (List Int)} {c:Nat} (h3:3<=c) (hc:c<3+ps.length):ps[c - 3]? =some (par ps c):=by
 unfold par;rw[if_neg (by omega),C4,Cr (by omega)];rfl
def aE {bs:List Bool} {j:Nat} (h:j<bs.length):(bL bs)[j]? =some [.b (bs.getD j false)]:=by
 rw[Je,C4,Cr h];rfl
def Yw (bs:List Bool) (j:Nat) (x:Bool):(bL bs).set j [.b x]=bL (bs.set j x):=by
 simp[bL,List.map_set]
def AAL (w:AH) (c:Nat) (hw:wFit w) (ho:ordered w.parents) (hc:c<3+w.parents.length):Pure zP 333 [.a (A0 w),eI c] (.l (bL (Ho w.parents (3+w.parents.length) c (c - 2))) false):=by
 obtain⟨hw1,hw2,hw3⟩:=hw;have hmL:3+w.parents.length<=AZ:=by simp only[AZ];omega
 refine vW kZ ?_;refine zh ?_;(repeat clear U K);repeat intro K U
 rw[show IntKind.i64.wrap (3+((EK w.parents).length:Nat))=((3+w.parents.length:Nat):Int) by rw[B2,wrap64 (by omega) (by omega)];omega];refine hMk Sat.nil (by omega) fun v Z hs hv=>?_
 obtain⟨id,rfl⟩:=hv
 conv=>whnf
 repeat((first|clear U K|apply st|(apply zk;intro K U)|fail);conv=>whnf)
 refine fw hs 0 c rfl rfl (by simpa using hc) ?_
 conv=>whnf
 refine M0 hs 0 rfl (e:=[.b false]) (by simp[hc]) rfl rfl rfl rfl rfl fun Z hs=>?_
 have e0:(List.replicate (3+w.parents.length) [V.b false]).set c [V.b true]=bL (Ho w.parents (3+w.parents.length) c 0):=by
  simp only[Ho];rw[<-Yw];simp[bL]
 refine zh ?_;(repeat clear U K);repeat intro K U
 refine Bw (c - 2) (fun k (_:Unit)=>[(6,eI (PI c k))]) (fun k _=>[.own (.sl id (3+w.parents.length) (3+w.parents.length)) 1 (bL (Ho w.parents (3+w.parents.length) c k))]) (fun _ _=>True) () rfl trivial (e0 ▸ hs) ?_;rintro k - Z hk - hs;have hd:PI c k=(c:Int) - k:=VN (by omega) (by omega);have hul:=MQ w.parents (3+w.parents.length) c k;refine zh ?_;(repeat clear U K);repeat intro K U
 refine fork (fun hlt=>?_) (fun hlt=>?_)
 .rw [hd]at hlt
  have h3:3<=c - k:=by omega
  have hpar:=iS (ps:=w.parents) h3 (by omega);have hpl:=hw2 _ (Bo hpar);refine zh ?_;(repeat clear U K);repeat intro K U
  refine V6 (c - k - 3) hpar (by rw[hd,wrap64 (by omega) (by omega)];omega) rfl ?_;refine zh ?_;(repeat clear U K);repeat intro K U
  refine Bw (par w.parents (c - k)).length (fun j (_:Unit)=>[(29,eI (A6 j))]) (fun j _=>[.own (.sl id (3+w.parents.length) (3+w.parents.length)) 1 (bL (Fy (Ho w.parents (3+w.parents.length) c k) (c - k) ((par w.parents (c - k)).take j)))]) (fun _ _=>True) () rfl trivial hs ?_;rintro j - Z hj - hs;have hml:=OH (c - k) ((par w.parents (c - k)).take j) (Ho w.parents (3+w.parents.length) c k);refine zh ?_;(repeat clear U K);repeat intro K U
  refine Gp hj hpl (fun p hp hjlt=>?_) fun hj=>?_
  .have hpp:=ho _ p (Bo hp)
   have hm:(Fy (Ho w.parents (3+w.parents.length) c k) (c - k) ((par w.parents (c - k)).take (j+1)))=(Fy (Ho w.parents (3+w.parents.length) c k) (c - k) ((par w.parents (c - k)).take j)).set p.toNat
    ((Fy (Ho w.parents (3+w.parents.length) c k) (c - k) ((par w.parents (c - k)).take j)).getD p.toNat false||(Fy (Ho w.parents (3+w.parents.length) c k) (c - k) ((par w.parents (c - k)).take j)).getD (c - k) false):=by
    rw[AO hp,NI];rfl
   generalize hbs:Fy (Ho w.parents (3+w.parents.length) c k) (c - k) ((par w.parents (c - k)).take j)=bs at *;have hlp:p.toNat<bs.length:=by omega
   have hlc:c - k<bs.length:=by omega
   refine zh ?_;(repeat clear U K);repeat intro K U
   refine Jn hp hpl rfl ?_;refine zh ?_;(repeat clear U K);repeat intro K U
   refine fw hs 0 p.toNat rfl (by omega) (by simpa using hlp) ?_
   conv=>whnf
   refine Ir hs 0 rfl (aE hlp) ?_
   conv=>whnf
   cases hb:bs.getD p.toNat false with
   | true=>
     rw[hb]at hm;refine zh ?_;(repeat clear U K);repeat intro K U
     refine fw hs 0 p.toNat rfl (by omega) (by simpa using hlp) ?_
     conv=>whnf
     refine M0 hs 0 rfl (aE hlp) rfl rfl rfl rfl rfl fun Z hs=>?_
     refine zh ?_;(repeat clear U K);repeat intro K U
     refine⟨hjlt,(),rfl,trivial,?_⟩;rw[hm,<-Yw];exact hs
   | false=>
     rw[hb]at hm;refine zh ?_;(repeat clear U K);repeat intro K U
     refine fw hs 0 (c - k) rfl (by rw[hd];omega) (by simpa using hlc) ?_;refine zh ?_;(repeat clear U K);repeat intro K U
     refine Ir hs 0 rfl (aE hlc) ?_
     conv=>whnf
     refine fw hs 0 p.toNat rfl (by omega) (by simpa using hlp) ?_
     conv=>whnf
     refine M0 hs 0 rfl (aE hlp) rfl rfl rfl rfl rfl fun Z hs=>?_
     refine zh ?_;(repeat clear U K);repeat intro K U
     refine⟨hjlt,(),rfl,trivial,?_⟩;rw[hm,<-Yw];exact hs
  .rw[Aq hj]at hs
   refine zh ?_;(repeat clear U K);repeat intro K U
   refine⟨by omega,(),rfl,trivial,hs⟩
 .rw[hd]at hlt
  refine zh ?_;(repeat clear U K);repeat intro K U
  have:k=c - 2:=by omega
  subst this;exact Ea hs 0 rfl rfl
def WK {w:AH} (h:FP (.a (A0 w))):w.parents.length<=AZ/\(∀l∈w.parents,l.length<=AZ)/\w.owner.length<=AZ:=by
 simp only[A0,Hb,Dh,Ha,J5,B2]at h;exact⟨h.1.1,fun l hl=>(h.1.2 l hl).1.1,h.2.1.1⟩
def MH {xs:List Int} {g:Bool} (h:FP (.l (iL xs) g)):xs.length<=AZ:=by
 simp only[Ha,B2]at h;exact h.1
def K8 {f:Fact} (h:FP (.a (xF f))):f.kids.length<=AZ/\f.path.length<=AZ/\ ∀k∈f.kids,FP (.a (xF k)):=by
 simp only[Hb,Dh,Ha,J5,B2]at h;exact⟨h.2.2.2.2.2.1.1,h.2.2.1.1,fun k hk=>by have:=h.2.2.2.2.2.1.2 k hk;rw[Bg]at this;exact this⟩
def Sf (w:AH) (c:Int):Bool:=decide (0<=c)&&decide (c<3+w.parents.length)
def mM (w:AH) (c:Int):Pure zP 219 [.a (A0 w),eI c] (.b (Sf w c)):=by
 refine Pure.fit (by kernel_rfl) fun hf=>?_
 have⟨h1,h2,h3⟩:=WK hf.1;have hM:=Mx;refine xc kZ ?_
 conv=>whnf
 repeat'((first|clear U K|apply st|(apply zk;intro K U)|refine zn ?_|refine za (fun hc=>?_) fun hc=>?_|fail)<;>conv=>whnf)
 .exact AF (by rw[B2,wrap64 (by omega) (by omega)];simp[Sf,hc])
 .exact AF (by simp[Sf,hc];intros;omega)
def JH (w:AH) (s:Int):Bool:=decide (0<=s)&&decide (s<w.owner.length)
def FT (w:AH) (p:List Int):Bool:=p.all (JH w)&&decide (p.length<=2)
def oa (w:AH) (p:List Int) (g:Bool):Pure zP 220 [.a (A0 w),.l (iL p) g] (.b (FT w p)):=by
 refine Pure.fit (by kernel_rfl) fun hf=>?_
 have⟨h1,h2,h3⟩:=WK hf.1;have h4:=MH hf.2.1;have hM:=Mx;refine xb kZ ?_;refine zu ?_;(repeat clear U K);repeat intro K U
 refine Bw p.length (fun k (_:Unit)=>[(9,eI (A6 k))]) (fun _ _=>[]) (fun k _=>p.all (JH w)=(p.drop k).all (JH w)) () rfl rfl Sat.nil ?_;rintro k - Z hk hn hs
 conv=>whnf
 repeat'((first|clear U K|apply st|(apply zk;intro K U)|refine zn ?_|(refine fc (fun x hx hlt hc=>?_) (fun hk hc=>?_)<;>(try rw[hc])<;>clear hc)|(refine zd (fun hc=>?_) (fun hc=>?_)<;>try exact⟨⟩)|fail)<;>conv=>whnf)
 .exact AF (by rw[FT,hn,drop_cons hx];simp[JH,hc];intros;omega)
 .exact⟨hlt,(),rfl,by rw[hn,drop_cons hx];simp[JH, *],hs⟩
 .exact AF (by rw[FT,hn,drop_cons hx];simp[JH,hc];intros;omega)
 .exact AF (by rw[FT,hn,Ai hk];simp;omega)
def CI (f:Fact):Bool:=f.op==2||f.op==3||f.op==4
def bD (f:Fact):Pure zP 221 [.a (xF f)] (.b (CI f)):=by
 refine xa kZ ?_
 conv=>whnf
 repeat'((first|clear U K|apply st|(apply zk;intro K U)|refine zn ?_|refine za (fun hc=>?_) fun hc=>?_|fail)<;>conv=>whnf)
 all_goals exact AF (by simp[CI, *])
def Dk:List (Int->Int)->Int->Int->Int
 | [],n,_=>n
 | k::r,n,most=>if n<=most then Dk r (n+k (most - n)) most else n
def Cg (f:Fact):Int->Int:=f.Hu fun _ l most=>Dk l 1 most
def Kj (f:Fact) (most:Int):Cg f most=Dk (f.kids.map Cg) 1 most:=by
 rw[Cg,Fact.Ds];rfl
def Ri {most:Int}: ∀(l:List (Int->Int)) (n:Int),(∀g∈l,∀m,0<=m->1<=g m/\g m<=m+1)->1<=n->n<=most+1->1<=Dk l n most/\Dk l n most<=most+1
 | [],n,_,h1,h2=>⟨h1,h2⟩
 | g ::r,n,h,h1,h2=>by
   rw[Dk];split
   .have:=h g (List.mem_cons_self ..) (most - n) (by omega)
    exact Ri r _ (fun g hg=>h g (List.mem_cons_of_mem _ hg)) (by omega) (by omega)
   .exact⟨h1,h2⟩
def Lo (f:Fact): ∀m,0<=m->1<=Cg f m/\Cg f m<=m+1:=by
 induction f using Fact.ind with
 | h f ih=>
   intro m hm;rw[Kj];refine Ri _ _ (fun g hg=>?_) (by omega) (by omega);obtain⟨k,hk,rfl⟩:=IX.1 hg;exact ih k hk
def lI (f:Fact): ∀most:Int,0<=most->most<=1000->Pure zP 88 [.a (xF f),eI most] (eI (Cg f most)):=by
 induction f using Fact.ind with
 | h f ih=>
   intro most h0 h1;refine Pure.fit (by kernel_rfl) fun hf=>?_
   have⟨h2,h3,h4⟩:=K8 hf.1;have hM:=Mx;refine AA0 kZ ?_;refine zu ?_;(repeat clear U K);repeat intro K U
   refine Bw f.kids.length (fun k (n:Int)=>[(5,eI n),(6,eI (A6 k))]) (fun _ _=>[]) (fun k n=>1<=n/\n<=most+1/\Cg f most=Dk ((f.kids.drop k).map Cg) n most) 1 rfl ⟨by omega,by omega,by rw[List.drop_zero];exact Kj f most⟩ Sat.nil ?_;rintro k n Z hk ⟨hn1,hn2,hn⟩ hs
   conv=>whnf
   repeat'((first|clear U K|apply st|(apply zk;intro K U)|refine zn ?_|(refine fc (fun x hx hlt hc=>?_) (fun hk hc=>?_)<;>(try rw[hc])<;>clear hc)|refine za (fun hc=>?_) fun hc=>?_|fail)<;>conv=>whnf)
   .rw[wrap64 (by omega) (by omega)]
    have hb:=Lo x (most - n) (by omega);refine(ih x (Bo hx) (most - n) (by omega) (by omega)).use ?_;refine zu ?_;(repeat clear U K);repeat intro K U
    rw[wrap64 (by omega) (by omega)];exact⟨hlt,_,rfl,⟨by omega,by omega,by rw[hn,drop_cons hx,E3,Dk,if_pos hc]⟩,hs⟩
   .exact AF (by rw[hn,drop_cons hx,E3,Dk,if_neg (by omega)])
   .exact AF (by rw[hn,Ai hk];rfl)
def lJ (f:Fact):Pure zP 29 [.a (xF f)] (eI (Cg f 24)):=by
 refine ABG kZ ?_;refine zu ?_;(repeat clear U K);repeat intro K U
 refine(lI f 24 (by omega) (by omega)).use ?_;exact zW
def NU (f:Fact):Nat:=f.Hu fun _ l=>1+l.sum
def La (f:Fact):NU f=1+(f.kids.map NU).sum:=Fact.Ds _ f
def br {f k:Fact} (h:k∈f.kids):NU k<NU f:=by
 have: ∀l:List Fact,k∈l->NU k<=(l.map NU).sum:=fun l=>by
  induction l with
  | nil=>intro h;cases h
  | cons x r ih=>
    intro h;simp only[E3,List.sum_cons];rcases GR.1 h with rfl|h
    .omega
    .have:=ih h;omega
 have:=this _ h;rw[La f];omega
def Rh {most:Int}: ∀(l:List Fact) (n:Int),(∀k∈l,∀m,0<=m->Cg k m<=m->Cg k m=NU k)->0<=n->Dk (l.map Cg) n most<=most->Dk (l.map Cg) n most=n+(l.map NU).sum
 | [],n,_,_,_=>by simp[Dk]
 | k :: r, n,h,h0,h1=>by
   simp only[E3,Dk]at *;split at h1
   .rename_i hc
    rw[if_pos hc];have hb:=Lo k (most - n) (by omega)
    have hge: ∀(l:List Fact) (a:Int),a<=Dk (l.map Cg) a most:=fun l=>by
     induction l with
     | nil=>intro a;exact Int.le_refl _
     | cons y l ih=>
       intro a;simp only[E3,Dk];split
       .have:=Lo y (most - a) (by omega)
        have:=ih (a+Cg y (most - a));omega
       .exact Int.le_refl _
    have h2:=hge r (n+Cg k (most - n));have h3:=h k (List.mem_cons_self ..) (most - n) (by omega) (by omega);have h4:=Rh r (n+Cg k (most - n)) (fun k' hk'=>h k' (List.mem_cons_of_mem _ hk')) (by omega) h1;simp only[List.sum_cons];omega
   .rename_i hc
    omega
def Ln (f:Fact): ∀m,0<=m->Cg f m<=m->Cg f m=NU f:=by
 induction f using Fact.ind with
 | h f ih=>
   intro m h0 h1;rw[Kj]at *;rw[Rh f.kids 1 ih (by omega) h1,La];omega
def Kx (a b:Int):Int:=if a<b then b else a
def ES (f:Fact):Int:=f.Hu fun _ l=>l.foldl Kx 0+1
def IQ (f:Fact):ES f=(f.kids.map ES).foldl Kx 0+1:=Fact.Ds _ f
def LI {m:Int}: ∀(l:List Int) (a:Int),(∀x∈l,x<=m)->a<=m->l.foldl Kx a<=m
 | [],_,_,h=>h
 | x::r,a,h,h'=>by
   refine LI r _ (fun y hy=>h y (List.mem_cons_of_mem _ hy)) ?_;have:=h x (List.mem_cons_self ..);unfold Kx;split<;>omega
def LG: ∀(l:List Int) (a:Int),a<=l.foldl Kx a
 | [],_=>Int.le_refl _
 | x::r,a=>by
   refine Int.le_trans ?_ (LG r _);unfold Kx;split<;>omega
def Zm (f:Fact):1<=ES f/\ES f<=NU f:=by
 induction f using Fact.ind with
 | h f ih=>
   rw[IQ];have h1:=LG (f.kids.map ES) 0
   have h2:(f.kids.map ES).foldl Kx 0<=(NU f:Int) - 1:=by
    refine LI _ _ (fun x hx=>?_) (by have:=La f;omega);obtain⟨k,hk,rfl⟩:=IX.1 hx;have:=(ih k hk).2;have:=br hk;omega
   omega
def Gs {α:Type} {xs:List α} {k:Nat} {x:α} {β:Type} (g:α->β) (h:β->β->β) (a:β) (hx:xs[k]? =some x):((xs.take (k+1)).map g).foldl h a=h (((xs.take k).map g).foldl h a) (g x):=by
 rw[AO hx,SN,List.foldl_append];rfl
def mG (f:Fact):NU f<=AZ->Pure zP 148 [.a (xF f)] (eI (ES f)):=by
 induction f using Fact.ind with
 | h f ih=>
   intro hc;refine Pure.fit (by kernel_rfl) fun hf=>?_
   have⟨h2,h3,h4⟩:=K8 hf.1;have hM:=Mx;refine yN kZ ?_;refine zu ?_;(repeat clear U K);repeat intro K U
   refine Bw f.kids.length (fun k (_:Unit)=>[(3,eI (((f.kids.take k).map ES).foldl Kx 0)),(9,eI (A6 k))]) (fun _ _=>[]) (fun _ _=>True) () rfl trivial Sat.nil ?_;rintro k - Z hk - hs
   conv=>whnf
   repeat'((first|clear U K|apply st|(apply zk;intro K U)|refine zn ?_|refine zr fun Z hs=>?_|(refine fc (fun x hx hlt hc=>?_) (fun hk hc=>?_)<;>(try rw[hc])<;>clear hc)|refine zp fun nn hnn Z hs=>?_|fail)<;>conv=>whnf)
   .refine(ih x (Bo hx) (by have:=br (Bo hx);omega)).use ?_
    refine zu ?_;(repeat clear U K);repeat intro K U
    exact⟨hlt,(),by rw[Gs _ _ _ hx];rfl,trivial,Sat.nil⟩
   .have:=Zm f
    rw[IQ]at this;exact AF (by rw[Aq hk,wrap64 (by omega) (by omega),<-IQ])
def Gk (f:Fact):Int:=f.Hu fun f l=>l.foldl Kx (if CI f then f.arg+1 else 0)
def Ke (f:Fact):Gk f=(f.kids.map Gk).foldl Kx (if CI f then f.arg+1 else 0):=Fact.Ds _ f
def S2 (f:Fact):Bool:=f.Hu fun f l=>decide (0<=f.arg)&&decide (f.arg<3)&&l.all id
def RH (f:Fact):S2 f=(decide (0<=f.arg)&&decide (f.arg<3)&&(f.kids.map S2).all id):=Fact.Ds _ f
def kV (f:Fact):S2 f=true->Pure zP 156 [.a (xF f)] (eI (Gk f)):=by
 induction f using Fact.ind with
 | h f ih=>
   intro ha;refine Pure.fit (by kernel_rfl) fun hf=>?_
   have⟨h2,h3,h4⟩:=K8 hf.1;have hM:=Mx;rw[RH]at ha;simp only[A9,Cc,List.all_map,EB]at ha;refine yI kZ ?_;refine zu ?_;(repeat clear U K);repeat intro K U
   refine(bD f).use ?_
   conv=>whnf
   repeat'((first|clear U K|apply st|(apply zk;intro K U)|refine zn ?_|refine za (fun hc=>?_) fun hc=>?_|fail)<;>conv=>whnf)
   .refine Bw f.kids.length (fun k (_:Unit)=>[(3,eI (((f.kids.take k).map Gk).foldl Kx (if CI f then f.arg+1 else 0))),(14,eI (A6 k))]) (fun _ _=>[]) (fun _ _=>True) () (by rw[wrap64 (by omega) (by omega),if_pos hc];rfl) trivial Sat.nil ?_
    rintro k - Z hk - hs
    conv=>whnf
    repeat'((first|clear U K|apply st|(apply zk;intro K U)|refine zn ?_|refine zr fun Z hs=>?_|(refine fc (fun x hx hlt hc=>?_) (fun hk hc=>?_)<;>(try rw[hc])<;>clear hc)|refine zp fun nn hnn Z hs=>?_|fail)<;>conv=>whnf)
    .refine(ih x (Bo hx) (ha.2 x (Bo hx))).use ?_
     refine zu ?_;(repeat clear U K);repeat intro K U
     exact⟨hlt,(),by rw[Gs _ _ _ hx];rfl,trivial,Sat.nil⟩
    .exact AF (by rw[Aq hk,<-Ke])
   .refine Bw f.kids.length (fun k (_:Unit)=>[(3,eI (((f.kids.take k).map Gk).foldl Kx (if CI f then f.arg+1 else 0))),(14,eI (A6 k))]) (fun _ _=>[]) (fun _ _=>True) () (by rw[if_neg (c:=CI f=true) (by simp[hc])];rfl) trivial Sat.nil ?_
    rintro k - Z hk - hs
    conv=>whnf
    repeat'((first|clear U K|apply st|(apply zk;intro K U)|refine zn ?_|refine zr fun Z hs=>?_|(refine fc (fun x hx hlt hc=>?_) (fun hk hc=>?_)<;>(try rw[hc])<;>clear hc)|refine zp fun nn hnn Z hs=>?_|fail)<;>conv=>whnf)
    .refine(ih x (Bo hx) (ha.2 x (Bo hx))).use ?_
     refine zu ?_;(repeat clear U K);repeat intro K U
     exact⟨hlt,(),by rw[Gs _ _ _ hx];rfl,trivial,Sat.nil⟩
    .exact AF (by rw[Aq hk,<-Ke])
def Ch (op:Int):Nat:=if op=5 then 1 else if op=6\/op=7 then 2 else 0
def YF (w:AH) (f:Fact):Bool:=
 if f.op=2 then f.n==0&&Sf w f.cls else if f.op=3\/f.op=4 then f.cls==0&&(decide (-1000000000<=f.n)&&decide (f.n<=1000000000))else f.op==1||f.op==5||f.op==6||f.op==7
def DE (w:AH) (f:Fact):Bool:=
 YF w f&&(f.kids.length==Ch f.op&&(decide (0<=f.arg)&&(decide (f.arg<3)&&(FT w f.path&&(CI f||(f.arg==0&&(f.path.length==0&&(f.cls==0&&f.n==0))))))))
def Bb (w:AH) (f:Fact):Bool:=f.Hu fun f l=>DE w f&&l.all id
def CM (w:AH) (f:Fact):Bb w f=(DE w f&&f.kids.all (Bb w)):=by rw[Bb,Fact.Ds,List.all_map];rfl
def Qu {w:AH} {f:Fact} (h:DE w f=false):Bb w f=false:=by rw[CM,h,Bool.false_and]
def ABP {f:Fact} (h1:CI f=false) (h2:f.arg=0) (h3:(f.path.length:Int) > 0):true= !(CI f||(f.arg==0&&(f.path.length==0&&(f.cls==0&&f.n==0)))):=by
 have:(f.path.length==0)=false:=by simp;intro e;rw[e]at h3;simp at h3
 rw[this,h1,h2];rfl
def oz (w : AH) (f:Fact):Pure zP 149 [.a (A0 w),.a (xF f)] (.b (Bb w f)):=by
 induction f using Fact.ind with
 | h f ih=>
   refine Pure.fit (by kernel_rfl) fun hf=>?_
   have⟨h2,h3,h4⟩:=K8 hf.2.1;have⟨w1,w2,w3⟩:=WK hf.1;have hM:=Mx;refine yM kZ ?_
   conv=>whnf
   repeat'((first|apply st|(apply sq;intro K U)|(apply si;intro A B hA hB)|(refine hA _ _ ?_;clear hB B hA A)|(apply U;clear U K)|refine⟨rfl,?_⟩|fail)<;>conv=>whnf)
   have hJ :=Sz U (fun(_:Unit)=>[(5,eI (Ch f.op))]) (fun _=>[]) (fun _=>YF w f=true) [(2,.rp (A0 w)),(3,.rp (xF f)),(5,eI 0)] (by
    clear U;rintro - Z ho -
    conv=>whnf
    repeat'((first|apply st|(apply sq;intro K U)|(apply si;intro A B hA hB)|refine⟨rfl,?_⟩|fail)<;>conv=>whnf)
    have hJ :=Sz U (fun(b:Bool)=>[(66,.b b)]) (fun _=>[]) (fun b=>b= !(f.kids.length==Ch f.op&&(decide (0<=f.arg)&&(decide (f.arg<3)&&FT w f.path)))) [(2,.rp (A0 w)),(3,.rp (xF f)),(66,.b false)] (by
     clear U;rintro b Z hb -
     conv=>whnf
     repeat'((first|apply st|fail)<;>conv=>whnf)
     have hJ :=Sz U (fun(_:Unit)=>[]) (fun _=>[]) (fun _=>b=false) [(2,.rp (A0 w)),(3,.rp (xF f))] (by
      clear U;rintro - Z hb' -;rw[hb']at hb
      conv=>whnf
      repeat'((first|apply st|(apply sq;intro K U)|(apply si;intro A B hA hB)|refine⟨kZ,?_⟩|refine Pure.use (bD _) ?_|fail)<;>conv=>whnf)
      have hJ:=Sz U (fun(b:Bool)=>[(90,.b b)]) (fun _=>[]) (fun b=>b= !(CI f||(f.arg==0&&(f.path.length==0&&(f.cls==0&&f.n==0))))) [(2,.rp (A0 w)),(3,.rp (xF f)),(90,.b false)] (by
       clear U;rintro b Z hb2 -
       conv=>whnf
       repeat'((first|apply st|fail)<;>conv=>whnf)
       have hJ:=Sz U (fun(_:Unit)=>[]) (fun _=>[]) (fun _=>b=false) [(2,.rp (A0 w)),(3,.rp (xF f))] (by
        clear U;rintro - Z hb' -;rw[hb']at hb2
        have hh:DE w f=true:=by
         have hb:(f.kids.length==Ch f.op&&(decide (0<=f.arg)&&(decide (f.arg<3)&&FT w f.path)))=true:=by rw[<-Bool.not_eq_false',<-hb]
         have hb2:(CI f||(f.arg==0&&(f.path.length==0&&(f.cls==0&&f.n==0))))=true:=by rw[<-Bool.not_eq_false',<-hb2]
         simp only[A9]at hb;simp only[DE,ho,hb.1,hb.2,hb2,Bool.and_self]
        conv=>whnf
        repeat'((first|apply st|(apply sq;intro K U)|(apply si;intro A B hA hB)|(refine hA _ _ ?_;clear hB B hA A)|(apply U;clear U K)|fail)<;>conv=>whnf)
        refine Bw f.kids.length (fun k (_:Unit)=>[(94,eI (A6 k))]) (fun _ _=>[]) (fun k _=>Bb w f=(f.kids.drop k).all (Bb w)) () rfl (by rw[CM,hh];rfl) Sat.nil ?_;rintro k - Z hk hn hs
        conv=>whnf
        repeat'((first|apply st|(apply sq;intro K U)|(apply si;intro A B hA hB)|(refine hA _ _ ?_;clear hB B hA A)|(apply U;clear U K)|refine⟨rfl,?_⟩|refine⟨kZ,?_⟩|refine zE ?_|refine ld ?_|refine sn fun Z hs=>?_|(refine fc (fun x hx hlt hc=>?_) (fun hk hc=>?_)<;>(try rw[hc])<;>clear hc)|(intro nn hnn;generalize hg:B3 _ nn _=Z;refine al hg fun hs=>?_;clear hg)|clear U K)<;>conv=>whnf)
        .have hxm:=Bo hx
         refine(ih x hxm).use ?_
         conv=>whnf
         repeat'((first|apply st|(apply sq;intro K U)|(apply si;intro A B hA hB)|(refine hA _ _ ?_;clear hB B hA A)|(apply U;clear U K)|refine⟨rfl,?_⟩|(constructor<;>intro hc<;>(try rw[hc])<;>(replace hc:=bp hc))|clear U K)<;>conv=>whnf)
         .exact AF (by rw[hn,drop_cons hx];simp[hc])
         .exact⟨hlt,(),rfl,by rw[hn,drop_cons hx];simp[hc],Sat.nil⟩
        .exact AF (by rw[hn,Ai hk];rfl))
       clear U
       conv=>whnf
       repeat'((first|apply st|(apply sq;intro K U)|(apply si;intro A B hA hB)|(refine hA _ _ ?_;clear hB B hA A)|(apply U;clear U K)|(constructor<;>intro hc<;>(try rw[hc])<;>(replace hc:=bp hc))|fail)<;>conv=>whnf)
       .have hx:(CI f||(f.arg==0&&(f.path.length==0&&(f.cls==0&&f.n==0))))=false:=by rw[<-Bool.not_eq_true',<-hb2,hc]
        exact AF (by rw[Qu];simp only[DE,hx,Bool.and_false])
       .exact hJ () _ _ rfl hc Sat.nil)
      clear U;clear hb
      conv=>whnf
      repeat'((first|apply st|(refine hA _ _ ?_;clear hB B hA A)|refine⟨rfl,?_⟩|(constructor<;>intro hc<;>(try rw[hc])<;>(replace hc:=bp hc)<;>(try simp(disch:=omega) only[B2,wrap64,Ae]at hc))|fail)<;>conv=>whnf)
      .have hp:f.path.length=0:=by omega
       exact hJ _ _ _ rfl (by rw[hp];simp[*,bne]) Sat.nil
      .exact hJ true _ _ rfl (by simp[*]) Sat.nil
      .exact hJ true _ _ rfl (ABP (by assumption) (by assumption) hc) Sat.nil
      .exact hJ true _ _ rfl (by simp[*]) Sat.nil
      .exact hJ false _ _ rfl (by simp[*]) Sat.nil)
     clear U
     conv=>whnf
     repeat'((first|apply st|(apply sq;intro K U)|(apply si;intro A B hA hB)|(refine hA _ _ ?_;clear hB B hA A)|(apply U;clear U K)|(constructor<;>intro hc<;>(try rw[hc])<;>(replace hc:=bp hc))|fail)<;>conv=>whnf)
     .have hx:(f.kids.length==Ch f.op&&(decide (0<=f.arg)&&(decide (f.arg<3)&&FT w f.path)))=false:=by rw[<-Bool.not_eq_true',<-hb,hc]
      exact AF (by rw[Qu];simp only[DE];simp only[Bool.and_eq_false_iff]at hx ⊢;rcases hx with h|h|h|h<;>simp[h])
     .exact hJ () _ _ rfl hc Sat.nil)
    clear U
    conv=>whnf
    repeat'((first|apply st|(refine hA _ _ ?_;clear hB B hA A)|refine⟨rfl,?_⟩|refine⟨kZ,?_⟩|refine Pure.use (oa _ _ _) ?_|(constructor<;>intro hc<;>(try rw[hc])<;>(replace hc:=bp hc)<;>(try simp(disch:=omega) only[B2,wrap64,Ae]at hc))|fail)<;>conv=>whnf)
    all_goals exact hJ _ _ _ rfl (by simp[*]<;>omega) Sat.nil)
   clear U
   conv=>whnf
   repeat'((first|apply st|(apply sq;intro K U)|(apply si;intro A B hA hB)|(refine hA _ _ ?_;clear hB B hA A)|(apply U;clear U K)|refine⟨rfl,?_⟩|refine⟨kZ,?_⟩|refine Pure.use (mM _ _) ?_|(constructor<;>intro hc<;>(try rw[hc])<;>(replace hc:=bp hc))|fail)<;>conv=>whnf)
   all_goals first
    | exact AF (by rw[Qu];simp only[DE,YF];simp[*]<;>omega)
    | exact hJ () _ _ (by simp[Ch, *];rfl) (by simp[YF, *]<;>omega) Sat.nil
def UR (n:Int):Bool:=decide (-1000000000<=n)&&decide (n<=1000000000)
def rj (n:Int):Pure zP 235 [eI n] (.b (UR n)):=by
 refine xR kZ ?_
 conv=>whnf
 repeat'((first|clear U K|apply st|(apply zk;intro K U)|refine zn ?_|refine za (fun hc=>?_) fun hc=>?_|fail)<;>conv=>whnf)
 all_goals exact AF (by simp[UR, *]<;>omega)
def K5 (k:Int):Bool:=k==1||k==4
def uA (k:Int):Pure zP 158 [eI k] (.b (K5 k)):=by
 refine yH kZ ?_
 conv=>whnf
 repeat'((first|clear U K|apply st|(apply zk;intro K U)|refine zn ?_|refine za (fun hc=>?_) fun hc=>?_|fail)<;>conv=>whnf)
 all_goals exact AF (by simp[K5, *])
def Gi {p:Prog} (h:FP (.a (BG p))):p.AM.length<=AZ/\p.Cs.length<=AZ/\p.methods.length<=AZ/\p.nodes.length<=AZ:=by
 simp only[BG,Hb,Dh,Ha,B2]at h;exact⟨h.1.1,h.2.2.1.1,h.2.2.2.1.1,h.2.2.2.2.1.1⟩
def Jt (p:Prog) (x:Node):Int:=
 if x.op=1\/x.op=2\/x.op=3\/x.op=6\/x.op=18 then 0 else
 if x.op=4\/x.op=8\/x.op=17 then 1 else
 if x.op=7\/x.op=9\/x.op=11\/x.op=12\/x.op=13\/x.op=14\/x.op=15\/x.op=16 then 2 else
 if x.op=10 then 3 else
 if x.op=5/\0<=x.n/\x.n<p.Cs.length then p.Cs.getD x.n.toNat 0 else -1
def pQ (p:Prog) (x:Node):Pure zP 236 [.a (BG p),.a (Jw x)] (eI (Jt p x)):=by
 refine Pure.fit (by kernel_rfl) fun hf=>?_
 have⟨p1,p2,p3,p4⟩:=Gi hf.1;have hM:=Mx;refine xQ kZ ?_
 conv=>whnf
 repeat'((first|clear U K|apply st|(apply zk;intro K U)|refine zn ?_|refine ze fun x hx=>?_|(refine zd (fun hc=>?_) (fun hc=>?_)<;>try exact⟨⟩)|fail)<;>conv=>whnf)
 all_goals first
  | (refine AF ?_;simp[Jt, *];done)
  | (refine AF ?_;simp[Jt, *];intros;omega)
  | (have hd:=(JC.1 hx).2;refine AF ?_;simp[Jt, *];done)
def Nb (p:Prog) (x:Node) (size:Int):Bool:=
 if x.op=1 then UR x.n else if x.op=3 then decide (0<=x.n)&&decide (x.n<size)else if x.op=4\/x.op=7 then decide (0<=x.n)&&decide (x.n<p.AG)else
 if x.op=5 then decide (0<=x.n)&&decide (x.n<p.Cs.length)else if x.op=6\/x.op=8 then decide (3<=x.n)&&decide (x.n<3+p.AM.length)else x.n==0
def di (p:Prog) (x:Node) (size:Int):Pure zP 237 [.a (BG p),.a (Jw x),eI size] (.b (Nb p x size)):=by
 refine Pure.fit (by kernel_rfl) fun hf=>?_
 have⟨p1,p2,p3,p4⟩:=Gi hf.1;have hM:=Mx;refine xP kZ ?_
 conv=>whnf
 repeat'((first|clear U K|apply st|(apply zk;intro K U)|refine zn ?_|refine Pure.use (rj _) ?_|refine za (fun hc=>?_) fun hc=>?_|fail)<;>conv=>whnf)
 all_goals first
  | (refine AF ?_;simp[Nb, *];done)
  | (refine AF ?_;rw[B2,wrap64 (by omega) (by omega)];simp[Nb, *];done)
  | (refine AF ?_;simp[Nb, *];intros;omega)
def Jm (ps:List (List Int)) (a b:Int):Bool:=a==b||(b==0||(decide (3<=a)&&G9 ps a.toNat b.toNat))
def XW (w:AH) (a b:Int) (hl:w.parents.length<=1000) (ho:ordered w.parents) (ha:0<=a) (ha':a<3+w.parents.length) (hb:0<=b) (hb':b<3+w.parents.length):Pure zP 298 [.a (A0 w),eI a,eI b] (.b (Jm w.parents a b)):=by
 refine Pure.fit (by kernel_rfl) fun hf=>?_
 have⟨w1,w2,w3⟩:=WK hf.1;have hM:=Mx;refine wQ kZ ?_
 conv=>whnf
 repeat'((first|clear U K|apply st|(apply zk;intro K U)|refine zn ?_|refine za (fun hc=>?_) fun hc=>?_|fail)<;>conv=>whnf)
 .exact AF (by simp[Jm,hc])
 .exact AF (by simp[Jm, *];omega)
 .have hc':0<=a:=ha
  obtain⟨a,rfl⟩: ∃n:Nat,a=n:=⟨a.toNat,by omega⟩
  refine(AAL w a ⟨hl,w2,w3⟩ ho (by omega)).use ?_;have hul:=MQ w.parents (3+w.parents.length) a (a - 2)
  conv=>whnf
  repeat'((first|clear U K|apply st|(apply zk;intro K U)|refine ze fun x hx=>?_|fail)<;>conv=>whnf)
  refine AF ?_;have hu:=aK ho (n:=3+w.parents.length) (c:=a) (by omega) b.toNat;rw[C4,hx]at hu;simp at hu;have e1:((a:Int)==b)=false:=by simpa using ‹(a:Int)≠b›
  have e2:(b==0)=false:=by simpa using ‹b≠0›
  simp[Jm,e1,e2,hc,hu]
 .exact AF (by simp[Jm,hc])
structure KG (w:AH):Prop where
 len:w.parents.length<=60
 ord:ordered w.parents
 own: ∀c∈w.owner,(3:Int)<=c/\c<3+w.parents.length
 olen:w.owner.length<=40
def B4 (w:AH) (s:Int):Int:=w.owner.getD s.toNat 0
def hasB (w:AH) (c s:Int):Bool:=decide (3<=c)&&Jm w.parents c (B4 w s)
def iy (w:AH) (c s:Int) (hw:KG w) (hc0:0<=c) (hc1:c<3+w.parents.length) (hs0:0<=s) (hs1:s<w.owner.length):Pure zP 234 [.a (A0 w),eI c,eI s] (.b (hasB w c s)):=by
 refine Pure.fit (by kernel_rfl) fun hf=>?_
 have⟨w1,w2,w3⟩:=WK hf.1;have hM:=Mx;have hl:=hw.len;refine xS kZ ?_
 conv=>whnf
 repeat'((first|clear U K|apply st|(apply zk;intro K U)|refine zn ?_|refine ze fun x hx=>?_|refine za (fun hc=>?_) fun hc=>?_|fail)<;>conv=>whnf)
 .have:=hw.own x (Bo hx)
  refine(XW w c x (by omega) hw.ord hc0 hc1 (by omega) (by omega)).use ?_;refine zu ?_;(repeat clear U K);repeat intro K U
  exact AF (by simp[hasB,B4,hx,hc])
 .exact AF (by simp[hasB];omega)
def pW (xs:List Int) (f:Bool) (x:Int):Pure zP 296 [.l (iL xs) f,eI x] (.b (xs.contains x)):=Pure.fit (by kernel_rfl) fun hf=>iw xs f x (MH hf.1)
def DM (w:AH) (f:Fact):Bool:=decide (Cg f 24<=24)&&(decide (ES f<=12)&&Bb w f)
def lr (w:AH) (f:Fact):Pure zP 86 [.a (A0 w),.a (xF f)] (.b (DM w f)):=by
 refine AA2 kZ ?_
 conv=>whnf
 repeat'((first|clear U K|apply st|(apply zk;intro K U)|refine zn ?_|refine Pure.use (lJ _) ?_|refine za (fun hc=>?_) fun hc=>?_|fail)<;>conv=>whnf)
 .have:=Ln f 24 (by omega) hc
  refine(mG f (by simp only[AZ];omega)).use ?_
  conv=>whnf
  repeat'((first|clear U K|apply st|refine zn ?_|refine Pure.use (oz _ _) ?_|refine za (fun hc=>?_) fun hc=>?_|fail)<;>conv=>whnf)
  .exact AF (by simp[DM,hc,‹Cg f 24<=24›])
  .exact AF (by simp[DM, *];intros;omega)
 .exact AF (by simp[DM];intros;omega)
def sW (i:Nat) (pre:List Int) (c:Int):Bool:=decide (3<=c)&&(decide (c<3+i)&& !pre.contains c)
def Ng (i:Nat):List Int->List Int->Bool
 | _,[]=>true
 | pre,c::r=>sW i pre c&&Ng i (pre++[c]) r
def JI:Nat->List (List Int)->Bool
 | _,[]=>true
 | i,l::r=>decide (l.length<=3)&&(Ng i [] l&&JI (i+1) r)
def Dy (g:List (List Int)):Bool:=decide (g.length<=16)&&JI 0 g
def Uj {ls:List (List Int)} {g:Bool} (h:FP (.l (EK ls) g)):ls.length<=AZ/\ ∀l∈ls,l.length<=AZ:=by
 simp only[Ha,B2,J5,Dh]at h;exact⟨h.1,fun l hl=>(h.2 l hl).1.1⟩
def pf (g:List (List Int)) (f:Bool):Pure zP 232 [.l (EK g) f] (.b (Dy g)):=by
 refine Pure.fit (by kernel_rfl) fun hf=>?_
 have⟨g1,g2⟩:=Uj hf.1;have hM:=Mx;refine xU kZ ?_
 conv=>whnf
 repeat'((first|clear U K|apply st|(apply zk;intro K U)|refine zn ?_|(refine zd (fun hc=>?_) (fun hc=>?_)<;>try exact⟨⟩)|fail)<;>conv=>whnf)
 .exact AF (by simp[Dy];intros;omega)
 .refine Bw g.length (fun k (_:Unit)=>[(3,eI (A6 k))]) (fun _ _=>[]) (fun k _=>Dy g=JI k (g.drop k)) () rfl (by simp[Dy];omega) Sat.nil ?_
  rintro k - Z hk hn hs
  conv=>whnf
  repeat'((first|clear U K|apply st|(apply zk;intro K U)|refine zn ?_|(refine fc (fun x hx hlt hc=>?_) (fun hk hc=>?_)<;>(try rw[hc])<;>clear hc)|(refine zd (fun hc=>?_) (fun hc=>?_)<;>try exact⟨⟩)|fail)<;>conv=>whnf)
  .exact AF (by rw[hn,drop_cons hx,JI];simp;intros;omega)
  .revert x
   rintro l hl hl3;have hll:=g2 l (Bo hl);have hn':Dy g=(Ng k [] l&&JI (k+1) (g.drop (k+1))):=by rw[hn,drop_cons hl,JI];simp;intros;omega
   refine Bw l.length (fun j (_:Unit)=>[(4,eI (A6 j))]) (fun _ _=>[]) (fun j _=>Dy g=(Ng k (l.take j) (l.drop j)&&JI (k+1) (g.drop (k+1)))) () rfl (by rw[hn'];rfl) Sat.nil ?_;rintro j - Z hj hm hs
   conv=>whnf
   repeat'((first|clear U K|apply st|(apply zk;intro K U)|refine zn ?_|(refine fc (fun x hx hlt hc=>?_) (fun hk hc=>?_)<;>(try rw[hc])<;>clear hc)|refine Pure.use (pW _ _ _) ?_|(refine zd (fun hc=>?_) (fun hc=>?_)<;>try exact⟨⟩)|fail)<;>conv=>whnf)
   .exact AF (by rw[hm,drop_cons hx,Ng,sW,hc];simp)
   .refine⟨hlt,(),rfl,?_,Sat.nil⟩
    rw[hm,drop_cons hx,Ng,sW,hc,AO hx];simp[*]
   .exact AF (by rw[hm,drop_cons hx,Ng,sW];simp;intros;omega)
   .exact AF (by rw[hm,drop_cons hx,Ng,sW];simp;intros;omega)
   .refine⟨by assumption,(),rfl,?_,Sat.nil⟩
    rw[hm,Ai hk,Ng,EA]
  .exact AF (by rw[hn,Ai hk];rfl)
def L5:Int->List Int->Bool
 | _,[]=>true
 | n,s::r=>s==n&&L5 (n+1) r
def Ct:Int->List SW->Bool
 | _,[]=>true
 | n,c::r=>decide (c.AG.length<=4)&&(decide (c.parents.length<=3)&&(L5 n c.AG&&Ct (n+c.AG.length) r))
def ER (w:AH) (c n:Int):List (Int×Int)->List (Int×Int)->Bool
 | _,[]=>true
 | pre,x::r=>decide (0<=x.1)&&(decide (x.1<n)&&(hasB w c x.1&&(UR x.2&&(pre.all (fun y=>y.1 != x.1)&&ER w c n (pre++[x]) r))))
def nV (g:List (List Int)) (c:Int):Bool:= !((CD g).getD c.toNat []).isEmpty
def Gj (w:AH) (n:Int):Nat->List SW->Bool
 | _,[]=>true
 | i,c::r=>nV w.parents ((i:Int)+3)&&(ER w ((i:Int)+3) n [] c.inits&&Gj w n (i+1) r)
def BC (p:Prog):Bool:=decide (p.AM.length<=10)&&(Ct 0 p.AM&&((Bq p.AM:Int)==p.AG&&(Dy (A3 p)&&Gj (AL p) (Bq p.AM) 0 p.AM)))
def AAu {c:SW} (h:Ib (Se c)):c.parents.length<=AZ/\c.AG.length<=AZ/\c.inits.length<=AZ:=by
 simp only[Se,Dh,Ha,B2]at h;exact⟨h.1.1,h.2.1.1,h.2.2.1.1⟩
def Ju {p:Prog} (h:FP (.a (BG p))):tA p:=by
 refine⟨(Gi h).1,fun c hc=>?_⟩;simp only[BG,Hb,Dh,Ha,J5]at h;exact AAu (h.1.2 c hc)
def lh (p:Prog) (hk0:p.AM.length<=1000):Pure zP 122 [.a (BG p)] (.l (EK (A3 p)) false):=Pure.fit (by kernel_rfl) fun hf=>bK p (Ju hf.1) hk0
def Fe: ∀(cs:List SW) (n:Int),Ct n cs=true->Bq cs<=4*cs.length/\ ∀c∈cs,c.parents.length<=3/\c.AG.length<=4
 | [],_,_=>⟨IW _,fun _ h=>by cases h⟩
 | c::r,n,h=>by
   simp only[Ct,A9,Cc]at h;have⟨h1,h2⟩:=Fe r _ h.2.2.2;refine⟨by simp only[Bq,E3,List.sum_cons,Ky]at *;omega,fun d hd=>?_⟩;rcases GR.1 hd with rfl|hd
   .exact⟨h.2.1,h.1⟩
   .exact h2 d hd
def Tv {i:Nat}: ∀(r pre:List Int),Ng i pre r=true->pre.Nodup->(pre++r).Nodup/\ ∀c∈r,(3:Int)<=c/\c<3+(i:Int)
 | [],pre,_,h=>⟨by simpa using h,fun _ h=>by cases h⟩
 | c::r,pre,h,hn=>by
   simp only[Ng,sW,A9,Cc,Bool.not_eq_true']at h;have hc:c∉pre:=by simpa using h.1.2.2
   obtain⟨h1,h2⟩:=Tv r (pre++[c]) h.2 (List.nodup_append.2 ⟨hn,by simp,fun a ha b hb=>by simp at hb;subst hb;exact fun e=>hc (e ▸ ha)⟩);refine⟨by simpa using h1,fun d hd=>?_⟩;rcases GR.1 hd with rfl|hd
   .exact⟨h.1.1,h.1.2.1⟩
   .exact h2 d hd
def Rb: ∀(g:List (List Int)) (k:Nat),JI k g=true-> ∀(i:Nat) (l:List Int),g[i]? =some l->l.length<=3/\l.Nodup/\ ∀c∈l,(3:Int)<=c/\c<3+((k+i:Nat):Int)
 | [],_,_,_,_,h=>by cases h
 | l ::r,k,h,i,l',hi=>by
   simp only[JI,A9,Cc]at h;cases i with
   | zero=>
     simp at hi;subst hi;obtain⟨h1,h2⟩:=Tv l [] h.2.1 .nil;exact⟨h.1,by simpa using h1,by simpa using h2⟩
   | succ i=>
     simp at hi;have:=Rb r (k+1) h.2.2 i l' hi;rw[show k+(i+1)=k+1+i by omega];exact this
def D7 {g:List (List Int)} (h:Dy g=true):JM g:=by
 simp only[Dy,A9,Cc]at h;refine⟨h.1,fun i l hi=>?_⟩;have:=Rb g 0 h.2 i l hi;simpa using this
def Km {g:List (List Int)} (h:JM g):ordered g:=by
 intro c p hp;unfold par at hp;split at hp
 .cases hp
 .rename_i h3
  rw[C4]at hp;cases hq:g[c - 3]? with
  | none=>rw[hq]at hp;cases hp
  | some l=>
    rw[hq]at hp;have:=(h.2 _ _ hq).2.2 p hp;omega
def GY {i:Nat} {cs:List SW} {c:Int} (h:c∈BR i cs):(3:Int)+i<=c/\c<3+i+cs.length:=by
 induction cs generalizing i with
 | nil=>cases h
 | cons d r ih=>
   simp only[BR,Du,List.mem_replicate]at h;simp only[Ky];rcases h with⟨_,rfl⟩|h
   .omega
   .have:=ih h;omega
def RP {p:Prog} (h1:p.AM.length<=10) (h2:Ct 0 p.AM=true) (h3:Dy (A3 p)=true):KG (AL p):=by
 have hl:(AL p).parents.length=p.AM.length:=by simp[AL,A3]
 refine⟨by omega,Km (D7 h3),fun c hc=>?_,?_⟩
 .have:=GY hc
  rw[hl];omega
 .have:=(Fe _ _ h2).1
  simp only[AL,Cj];omega
def fN (p : Prog):Pure zP 155 [.a (BG p)] (.b (BC p)):=by
 refine Pure.fit (by kernel_rfl) fun hf=>?_
 have hP:=Ju hf.1;have hcl:=hP.1;have hM:=Mx;refine yJ kZ ?_
 conv=>whnf
 repeat'((first|clear U K|apply st|(apply zk;intro K U)|refine zn ?_|(refine zd (fun hc=>?_) (fun hc=>?_)<;>try exact⟨⟩)|fail)<;>conv=>whnf)
 .exact AF (by simp[BC];intros;omega)
 have h10:p.AM.length<=10:=by omega
 refine Bw p.AM.length (fun k (n:Int)=>[(3,eI n),(4,eI (A6 k))]) (fun _ _=>[]) (fun k n=>Ct 0 p.AM=Ct n (p.AM.drop k)/\0<=n/\n+Bq (p.AM.drop k)=Bq p.AM/\n<=4*k) 0 rfl (by simp) Sat.nil ?_;rintro k n Z hk ⟨hn,hn0,hn1,hn2⟩ hs
 conv=>whnf
 repeat'((first|clear U K|apply st|(apply zk;intro K U)|refine zn ?_|(refine fc (fun x hx hlt hc=>?_) (fun hk hc=>?_)<;>(try rw[hc])<;>clear hc)|refine Pure.use (lh _ (by omega)) ?_|refine Pure.use (pf _ _) ?_|(refine zd (fun hc=>?_) (fun hc=>?_)<;>try exact⟨⟩)|fail)<;>conv=>whnf)
 .exact AF (by simp only[BC];rw[hn,drop_cons hx,Ct];simp;intros;omega)
 .have hms:n+(x.AG.length:Int)+Bq (p.AM.drop (k+1))=Bq p.AM:=by
   rw[drop_cons hx]at hn1;simp only[Bq,E3,List.sum_cons]at hn1 ⊢;omega
  have hsl:=(hP.2 x (Bo hx)).2.1
  have hn':Ct 0 p.AM=(L5 n x.AG&&Ct (n+x.AG.length) (p.AM.drop (k+1))):=by
   have a1:x.AG.length<=4:=by omega
   have a2:x.parents.length<=3:=by omega
   rw[hn,drop_cons hx,Ct];simp only[a1,a2,decide_true,EA]
  revert x
  rintro c hx hcs h3 hms hsl hn';refine Bw c.AG.length (fun j (m:Int)=>[(3,eI m),(6,eI (A6 j))]) (fun _ _=>[]) (fun j m=>Ct 0 p.AM=(L5 m (c.AG.drop j)&&Ct (n+c.AG.length) (p.AM.drop (k+1)))/\m=n+j) n rfl ⟨hn',by simp⟩ Sat.nil ?_;rintro j m Z hj ⟨hm,he⟩ hs
  conv=>whnf
  repeat'((first|clear U K|apply st|(apply zk;intro K U)|refine zn ?_|(refine fc (fun x hx hlt hc=>?_) (fun hk hc=>?_)<;>(try rw[hc])<;>clear hc)|refine za (fun hc=>?_) fun hc=>?_|fail)<;>conv=>whnf)
  .exact AF (by simp only[BC];rw[hm,drop_cons (by assumption),L5];simp[hc])
  .refine⟨hlt,_,rfl,⟨?_,?_⟩,hs⟩
   .rw[hm,drop_cons (by assumption),L5,wrap64 (by omega) (by omega)];simp[hc]
   .rw[wrap64 (by omega) (by omega)];omega
  .refine⟨by assumption,m,rfl,⟨?_,by omega,by omega,by omega⟩,hs⟩
   rw[hm,Ai (by assumption),L5,EA,he];congr 1;omega
 .exact AF (by simp only[BC];rw[hn,drop_cons hx,Ct];simp;intros;omega)
 .have hne:n=Bq p.AM:=by rw[Ai hk]at hn1;simpa[Bq]using hn1
  exact AF (by simp only[BC];rw[hc];simp)
 .have hne:n=Bq p.AM:=by rw[Ai hk]at hn1;simpa[Bq]using hn1
  have hsb:Ct 0 p.AM=true:=by rw[hn,Ai hk];rfl
  have hms:=(Fe _ _ hsb).1;have hok:=RP h10 hsb hc
  have hcb:BC p=Gj (AL p) n 0 p.AM:=by
   simp only[BC,hsb,hc,<-hne];simp[*]
  refine(PY p hP (by omega) (by omega)).use ?_
  conv=>whnf
  repeat'((first|clear U K|apply st|(apply zk;intro K U)|refine zr fun Z hs=>?_|refine zp fun nn hnn Z hs=>?_|fail)<;>conv=>whnf)
  refine Bw p.AM.length (fun k (_:Unit)=>[(9,eI (A6 k))]) (fun _ _=>[.box nn (A0 (AL p))]) (fun k _=>BC p=Gj (AL p) n k (p.AM.drop k)) () rfl (by rw[hcb];rfl) hs ?_;rintro k - Z hk hn hs
  conv=>whnf
  repeat'((first|clear U K|apply st|(apply zk;intro K U)|refine zn ?_|(refine fc (fun x hx hlt hc=>?_) (fun hk hc=>?_)<;>(try rw[hc])<;>clear hc)|fail)<;>conv=>whnf)
  .have e3 : IntKind.i64.wrap (A6 k+3)=(k:Int)+3:=by rw[Ae (by omega),wrap64 (by omega) (by omega)]
   rw[e3];have hgl:(A3 p).length=p.AM.length:=by simp[A3]
   refine(uJ (A3 p) false ((k:Int)+3) (D7 hc) (by omega) (by omega)).use ?_
   conv=>whnf
   repeat'((first|clear U K|apply st|(apply zk;intro K U)|refine zn ?_|refine za (fun hc=>?_) fun hc=>?_|fail)<;>conv=>whnf)
   .have hlb:nV (AL p).parents ((k:Int)+3)=false:=by
     show(!((CD (A3 p)).getD ((k:Int)+3).toNat []).isEmpty)=false;rw[hc];rfl
    exact AF (by rw[hn,drop_cons hx,Gj,hlb];rfl)
   .have hil:=(hP.2 x (Bo hx)).2.2
    have hn':BC p=(ER (AL p) ((k:Int)+3) n [] x.inits&&Gj (AL p) n (k+1) (p.AM.drop (k+1))):=by
     have hlb:nV (AL p).parents ((k:Int)+3)=true:=by
      show(!((CD (A3 p)).getD ((k:Int)+3).toNat []).isEmpty)=true;rw[hc];rfl
     rw[hn,drop_cons hx,Gj,hlb];rfl
    revert x
    rintro c hx hil hn';refine Bw c.inits.length (fun j (_:Unit)=>[(14,eI (A6 j))]) (fun _ _=>[.box nn (A0 (AL p))]) (fun j _=>BC p=(ER (AL p) ((k:Int)+3) n (c.inits.take j) (c.inits.drop j)&&Gj (AL p) n (k+1) (p.AM.drop (k+1)))) () rfl (by rw[hn'];rfl) hs ?_;rintro j - Z hj hm hs
    conv=>whnf
    repeat'((first|clear U K|apply st|(apply zk;intro K U)|refine zn ?_|(refine fc (fun x hx hlt hc=>?_) (fun hk hc=>?_)<;>(try rw[hc])<;>clear hc)|refine za (fun hc=>?_) fun hc=>?_|fail)<;>conv=>whnf)
    .refine(iy (AL p) ((k:Int)+3) x.1 hok (by omega) (by rw[show(AL p).parents=A3 p from rfl];omega) (by omega) (by rw[show(AL p).owner=BR 0 p.AM from rfl,Cj];omega)).use ?_
     conv=>whnf
     repeat'((first|clear U K|apply st|(apply zk;intro K U)|refine zn ?_|refine Pure.use (rj _) ?_|refine za (fun hc=>?_) fun hc=>?_|fail)<;>conv=>whnf)
     .exact AF (by rw[hm,drop_cons hx,ER];simp[*])
     .have hm':BC p=((c.inits.take j).all (fun y=>y.1 != x.1)&&(ER (AL p) ((k:Int)+3) n (c.inits.take (j+1)) (c.inits.drop (j+1))&&Gj (AL p) n (k+1) (p.AM.drop (k+1)))):=by
       have b1:decide (0<=x.1)=true:=decide_eq_true (by assumption);have b2:decide (x.1<n)=true:=decide_eq_true (by assumption);rw[hm,drop_cons hx,ER,AO hx,b1,b2,‹hasB _ _ _=true›,hc];simp only[EA,Bool.and_assoc]
      revert x
      rintro x hxj hx0 hx1 hhb hbt hm';refine Bw j (fun i (_:Unit)=>[(15,eI (A6 i))]) (fun _ _=>[.box nn (A0 (AL p))]) (fun i _=>BC p=(((c.inits.take j).drop i).all (fun y=>y.1 != x.1)&&(ER (AL p) ((k:Int)+3) n (c.inits.take (j+1)) (c.inits.drop (j+1))&&Gj (AL p) n (k+1) (p.AM.drop (k+1))))) () rfl (by rw[hm'];rfl) hs ?_;rintro i - Z hi hl hs;rcases Nat.lt_or_ge i j with hij|hij
      .obtain⟨y,hy⟩: ∃y,c.inits[i]? =some y:=⟨_,Cr (by omega)⟩
       have hy':(c.inits.take j)[i]? =some y:=by rw[List.getElem?_take,if_pos hij,hy]
       conv=>whnf
       repeat'((first|clear U K|apply st|(apply zk;intro K U)|refine zn ?_|(refine zb (fun hc=>?_) (fun hc=>?_)<;>try exact⟨⟩)|fail)<;>conv=>whnf)
       .exact AF (by rw[hl,drop_cons hy',KE,hc];simp)
       .refine⟨hij,(),rfl,?_,hs⟩
        have hc':(y.1 != x.1)=true:=by simpa using hc
        rw[hl,drop_cons hy',KE,hc',EA]
      .conv=>whnf
       repeat'((first|clear U K|apply st|(apply zk;intro K U)|refine zn ?_|(refine zb (fun hc=>?_) (fun hc=>?_)<;>try exact⟨⟩)|fail)<;>conv=>whnf)
       refine⟨by assumption,(),rfl,?_,hs⟩;rw[hl,List.drop_of_length_le (by rw[Jd];omega),List.all_nil,EA]
     .exact AF (by rw[hm,drop_cons hx,ER];simp[*])
    .exact AF (by rw[hm,drop_cons hx,ER];simp;intros;omega)
    .exact AF (by rw[hm,drop_cons hx,ER];simp;intros;omega)
    .refine⟨by assumption,(),rfl,?_,hs⟩
     rw[hm,Ai hk,ER,EA]
  .exact AF (by rw[hn,Ai hk];rfl)
 .have hne:n=Bq p.AM:=by rw[Ai hk]at hn1;simpa[Bq]using hn1
  exact AF (by simp only[BC];rw[<-hne];simp[hc])
def F0 (f:Int->Int->List Int->Option (List Int)) (op size:Int):Nat->List Int->List Int->Option (List Int)
 | _,[],s=>some s
 | i,k::r,s=>match f k (if op=9/\i=1 then size+1 else size) s with
   | none=>none
   | some s'=>F0 f op size (i+1) r s'
def EN (p:Prog) (next:Bool) (size:Int) (x:Node):Bool:=((x.kids.length:Int)==Jt p x)&&(Nb p x size&&(x.op != 18||next))
def CX (p:Prog) (next:Bool):Nat->Int->Int->List Int->Option (List Int)
 | 0,_,_,_=>none
 | d+1,n,size,s=>
   if n<0\/(p.nodes.length:Int)<=n\/0<=s.getD n.toNat 0 then none else
   match p.nodes[n.toNat]? with
   | none=>none
   | some x=>if EN p next size x then F0 (CX p next d) x.op size 0 x.kids (s.set n.toNat size)else none
def Wc (v:V) (s:List Int) (o:Option (List Int)) (r:R) (post:List At):Prop:=
 ∃s':List Int,s'.length=s.length/\post= [.own v 1 (iL s')]/\((o=some s'/\r= .ret (.b true))\/(o=none/\r= .ret (.b false)))
def QO {v:V} {s s':List Int} {o:Option (List Int)} {Z:AE} {rest:List At} (hs:Sat Z (.own v 1 (iL s')::rest)) (hl:s'.length=s.length) (ho:o=none):Am Z (.b false) fun r Z'=> ∃post,Wc v s o r post/\Sat Z' post:=
 As hs (.cons₂ _ (JW _)) (.refl _) fun Z' hs'=>⟨_,⟨s',hl,rfl,.inr ⟨ho,rfl⟩⟩,hs'⟩
def jC {p:Prog} (h:FP (.a (BG p))) {x:Node} (hx:x∈p.nodes):x.kids.length<=AZ:=by
 simp only[BG,Hb,Dh,Ha,J5]at h
 have h2:Ib (Jw x):=by
  first|exact h.2.2.2.2.1.2 x hx|exact h.2.2.2.2.2.1.2 x hx|exact h.2.2.2.1.2 x hx|exact h.2.2.1.2 x hx|exact h.2.1.2 x hx
 simp only[Jw,Dh,Ha,B2]at h2
 first|exact h2.2.2.1.1|exact h2.2.2.1|exact h2.1
def PZ {p:Prog} {next:Bool} {d:Nat} {n size:Int} {s:List Int} {x:Node} {y:Int} (h0:0<=n) (h1:n<(p.nodes.length:Int)) (hs:s[n.toNat]? =some y) (hy:y<0) (hx:p.nodes[n.toNat]? =some x) :
    CX p next (d+1) n size s=if EN p next size x then F0 (CX p next d) x.op size 0 x.kids (s.set n.toNat size)else none:=by
 have e:s.getD n.toNat 0=y:=by rw[C4,hs];rfl
 simp only[CX];rw[if_neg (by rw[e];omega),hx]
def N5 {p:Prog} {next:Bool} {d:Nat} {n size:Int} {s:List Int} (h:n<0\/(p.nodes.length:Int)<=n\/0<=s.getD n.toNat 0):CX p next (d+1) n size s=none:=by
 simp only[CX];rw[if_pos h]
def iE (p : Prog) (next:Bool): ∀d:Nat,d<=12-> ∀(n size depth:Int) (s:List Int) (v:V),depth=13 - d->0<=size->size+d<=100->s.length=p.nodes.length->(B7 v).isSome=true->
    BT zP 157 [.a (BG p),eI n,eI size,eI depth,.b next,v] [.own v 1 (iL s)] (Wc v s (CX p next d n size s)):=by
 intro d
 induction d with
 | zero=>
   intro _ n size depth s v hd h0 h1 hl hv Z hs;refine Au.fit (by kernel_rfl) fun hf=>?_
   have⟨p1,p2,p3,p4⟩:=Gi hf.1;have hM:=Mx;refine jW kZ ?_
   conv=>whnf
   repeat'((first|clear U K|apply st|(apply zk;intro K U)|refine zn ?_|refine ze fun x hx=>?_|(refine zb (fun hc=>?_) (fun hc=>?_)<;>try exact⟨⟩)|fail)<;>conv=>whnf)
   all_goals exact As hs (.refl _) (.refl _) fun Z' hs'=>⟨_,⟨s,rfl,rfl,.inr ⟨rfl,rfl⟩⟩,hs'⟩
 | succ d ih =>
   intro hd12 n size depth s v hd h0 h1 hl hv Z hs;refine Au.fit (by kernel_rfl) fun hf=>?_
   have⟨p1,p2,p3,p4⟩:=Gi hf.1;have hM:=Mx;refine jW kZ ?_
   conv=>whnf
   repeat'((first|clear U K|apply st|(apply zk;intro K U)|refine zn ?_|refine rk ?_ ?_|exact fun s e=>by cases e;rfl|refine ze fun x hx=>?_|refine zr fun Z hs=>?_|refine Pure.use (pQ _ _) ?_|refine Pure.use (di _ _ _) ?_|(refine zb (fun hc=>?_) (fun hc=>?_)<;>try exact⟨⟩)|refine zp fun nn hnn Z hs=>?_|fail)<;>conv=>whnf)
   .exact QO hs (by simp) (by rw[PZ (by assumption) (by assumption) (by assumption) (by assumption) hx];simp[EN, *])
   rotate_left
   .cases hc
   rotate_left
   .exact QO hs (by simp) (by rw[PZ (by assumption) (by assumption) (by assumption) (by assumption) hx];simp[EN, *])
   .exact QO hs (by simp) (by rw[PZ (by assumption) (by assumption) (by assumption) (by assumption) hx];simp[EN, *])
   .exact QO hs rfl (N5 (.inr (.inr (by rw[C4,hx];exact hc))))
   .exact QO hs rfl (N5 (.inr (.inl hc)))
   .exact QO hs rfl (N5 (.inl hc))
   all_goals
    have hW:CX p next (d+1) n size s=F0 (CX p next d) x.op size 0 x.kids (s.set n.toNat size):=by
     rw[PZ (by assumption) (by assumption) (by assumption) (by assumption) hx];simp[EN, *]
    rw[hW]
    rename Node=>nd
    refine Bw nd.kids.length (fun k (_:List Int)=>[(14,eI (A6 k))]) (fun _ s'=>[.own v 1 (iL s'),.obj nn (.cs (Jw nd))]) (fun k s'=>s'.length=s.length/\F0 (CX p next d) nd.op size 0 nd.kids (s.set n.toNat size)=F0 (CX p next d) nd.op size k (nd.kids.drop k) s') (s.set n.toNat size) rfl ⟨by simp,by simp⟩ hs ?_;clear hs;rintro k s' Z hk ⟨hl',hkids⟩ hs;have hkm:=jC hf.1 (Bo hx);have hck:A6 k=k:=Ae (by omega);by_cases hlt:k<nd.kids.length
    .obtain⟨kid,hkid⟩: ∃kid,nd.kids[k]? =some kid:=⟨_,Cr hlt⟩
     have hrec:=fun kid sz h0 h1=>ih (by omega) kid sz (depth+1) s' v (by omega) h0 h1 (by omega) hv
     conv=>whnf
     repeat'((first|clear U K|apply st|(apply zk;intro K U)|refine zn ?_|(refine fc (fun x hx hlt hc=>?_) (fun hk hc=>?_)<;>(try rw[hc])<;>clear hc)|(refine zb (fun hc=>?_) (fun hc=>?_)<;>try exact⟨⟩)|fail)<;>conv=>whnf)
     all_goals try(exfalso;omega)
     all_goals try refine Jn (enc:=fun i:Int=>[V.i .i64 i]) hkid hkm rfl ?_
     conv=>whnf
     all_goals try(exfalso;omega)
     all_goals
      have hK2:=hkids;rw[drop_cons hx,F0]at hK2
      first
       | rw[if_pos (by omega)]at hK2
         rw[wrap64 (by omega) (by omega),wrap64 (by omega) (by omega)];refine(hrec x (size+1) (by omega) (by omega)).use hs ?_
       | rw[if_neg (by omega)]at hK2
         rw[wrap64 (by omega) (by omega)];refine(hrec x size (by omega) (by omega)).use hs ?_
      rintro r post Z' ⟨s2,hl2,rfl,⟨ho,rfl⟩|⟨ho,rfl⟩⟩ hs
      .rw[ho]at hK2
       conv=>whnf
       repeat'((first|clear U K|apply st|(apply zk;intro K U)|refine zn ?_|(refine zd (fun hc=>?_) (fun hc=>?_)<;>try exact⟨⟩)|fail)<;>conv=>whnf)
       all_goals first|(exfalso;cases hc;done)|exact⟨hlt,s2,rfl,⟨by omega,hK2⟩,hs⟩
      .rw[ho]at hK2
       conv=>whnf
       repeat'((first|clear U K|apply st|(apply zk;intro K U)|refine zn ?_|(refine zd (fun hc=>?_) (fun hc=>?_)<;>try exact⟨⟩)|fail)<;>conv=>whnf)
       all_goals first|exact QO hs (by omega) hK2|(exfalso;cases hc;done)
    .have hke:k=nd.kids.length:=by omega
     conv=>whnf
     repeat'((first|clear U K|apply st|(apply zk;intro K U)|refine zn ?_|(refine fc (fun x hx hlt hc=>?_) (fun hk hc=>?_)<;>(try rw[hc])<;>clear hc)|(refine zb (fun hc=>?_) (fun hc=>?_)<;>try exact⟨⟩)|fail)<;>conv=>whnf)
     all_goals try(exfalso;omega)
     rw[hke,Ai rfl]at hkids;exact As hs (.cons₂ _ (JW _)) (.refl _) fun Z' hs'=>⟨_,⟨s',hl',rfl,.inl ⟨(by first|rw[hW,hkids,F0]|rw[hkids,F0]),rfl⟩⟩,hs'⟩
end Go.Gl
