import Derived.Test.YtegbmnmnaijioaaGreatX6
set_option linter.all false
set_option linter.defProp false
set_option maxHeartbeats 8000000
noncomputable section
namespace Go.Gl
open Go.Proofs
attribute [local irreducible] Ar Aj AZ AQ AL AX AP AR AJ AW AM AN Am Av Sat AT As Aa W
def pick (ls:List (List Int)):Option Int:=(ls.find? fun l=>match l with| []=>false|x::_=>free ls x).bind List.head?
def total (ls:List (List Int)):Nat:=(ls.map List.length).sum
def DR:Nat->List (List Int)->List Int->List Int×Bool
 | 0,ls,out=>(out,ls.all List.isEmpty)
 | n+1,ls,out=>match pick ls with
   | none=>(out,ls.all List.isEmpty)
   | some x=>DR n (ls.map fun l=>l.filter (· != x)) (out++[x])
def CM (ls:List (List Int)):List Int×Bool:=DR (total ls) ls []
def Iu {ls:List (List Int)} {x:Int} (h:pick ls=some x):total (ls.map fun l=>l.filter (· != x))<total ls:=by
 unfold pick at h;rw[Option.bind_eq_some_iff]at h;obtain⟨l,h1,h2⟩:=h;have hm:=List.mem_of_find?_eq_some h1;clear h1;cases l with
 | nil=>cases h2
 | cons y r=>
   simp only[List.head?_cons,JN]at h2;subst h2
   have hle: ∀ls:List (List Int),total (ls.map fun l=>l.filter (· != y))<=total ls:=fun ls=>by
    induction ls with
    | nil=>simp[total]
    | cons a bs ih=>
      have:=Pr (· != y) a;simp only[total,EW,List.sum_cons]at *;omega
   induction ls with
   | nil=>cases hm
   | cons a bs ih=>
     rcases Fl.1 hm with rfl|hm
     .have h1:=hle bs
      have h2:=Pr (· != y) r;simp only[total,EW,List.sum_cons]at *;have:((y::r).filter (· != y)).length<=r.length:=by simpa using h2
      simp only[Lr];omega
     .have h1:=ih hm
      have h2:=Pr (· != y) a;simp only[total,EW,List.sum_cons]at *;omega
def NS (ls:List (List Int)):Prop:=ls.length<=1000000/\ ∀l∈ls,l.length<=Ae/\ ∀x∈l,0<=x
def NS.filter {ls:List (List Int)} (h:NS ls) (x:Int):NS (ls.map fun l=>l.filter (· != x)):=by
 refine⟨by rw[Ca];exact h.1,fun l hl=>?_⟩;obtain⟨l',hl',rfl⟩:=Hp.1 hl;obtain⟨h1,h2⟩:=h.2 l' hl';exact⟨Nat.le_trans (Pr _ _) h1,fun y hy=>h2 y (JU.1 hy).1⟩
def D1 (ls:List (List Int)) (k:Nat):Int:=((((ls.take k).find? fun l=>match l with| []=>false|x::_=>free ls x).bind List.head?).getD (-1))
def Xz : ∀ (n:Nat) (ls:List (List Int)) (out:List Int),total ls<=n->DR n ls out=DR (total ls) ls out:=by
 intro n
 induction n using Nat.strongRecOn with
 | _ n ih=>
   intro ls out hn;by_cases he:total ls=n
   .rw[he]
   .cases n with
    | zero=>omega
    | succ n=>
      cases hp:pick ls with
      | none=>
        cases ht:total ls with
        | zero=>simp[DR,hp]
        | succ m=>simp[DR,hp]
      | some x=>
        have h1:=Iu hp;cases ht:total ls with
        | zero=>omega
        | succ m=>
          simp only[DR,hp];rw[ih n (by omega) _ _ (by omega),ih m (by omega) _ _ (by omega)]
def Ot {ls:List (List Int)} {x:Int} {out:List Int} (hp:pick ls=some x):DR (total ls) ls out=DR (total (ls.map fun l=>l.filter (· != x))) (ls.map fun l=>l.filter (· != x)) (out++[x]):=by
 have h1:=Iu hp;cases ht:total ls with
 | zero=>omega
 | succ m=>
   simp only[DR,hp];exact Xz m _ _ (by omega)
def Re {ls:List (List Int)} {out:List Int} (hp:pick ls=none):DR (total ls) ls out=(out,ls.all List.isEmpty):=by
 cases ht:total ls with
 | zero=>rfl
 | succ m=>simp only[DR,hp]
def FL (ls:List (List Int)) (l:List Int):Bool:=match l with| []=>false|x::_=>free ls x
def IS (ls:List (List Int)) (k:Nat):D1 ls k=(((ls.take k).find? (FL ls)).bind List.head?).getD (-1):=rfl
def Iv {ls:List (List Int)} (hok:NS ls) {k:Nat} (h:D1 ls k<0):(ls.take k).find? (FL ls)=none:=by
 rw[IS]at h;cases hf:(ls.take k).find? (FL ls)with
 | none=>rfl
 | some l=>
   rw[hf]at h;have hm:=List.mem_of_mem_take (List.mem_of_find?_eq_some hf);have hg:=List.find?_some hf;cases l with
   | nil=>cases hg
   | cons x r=>
     have:=(hok.2 _ hm).2 x (.head _);simp at h;omega
def Xx {ls:List (List Int)} (hok:NS ls) {k:Nat} (hk:k<ls.length) (h:D1 ls k<0):D1 ls (k+1)=if FL ls ls[k]then(ls[k].head?).getD (-1)else -1:=by
 rw[IS,List.take_succ_eq_append_getElem hk,List.find?_append,Iv hok h];by_cases hg:FL ls ls[k]=true
 .simp[hg]
 .simp[hg]
def RQ {ls:List (List Int)} {k:Nat} (h:0<=D1 ls k):pick ls=some (D1 ls k):=by
 rw[IS]at *;show((ls.find? (FL ls)).bind List.head?)=_;cases hf:(ls.take k).find? (FL ls)with
 | none=>rw[hf]at h;simp at h
 | some l=>
   have h1:ls.find? (FL ls)=some l:=by
    have:=List.take_append_drop k ls;rw[<-this,List.find?_append,this,hf];rfl
   rw[h1];rw[hf]at h;cases l with
   | nil=>simp at h
   | cons x r=>simp
def J0 {ls:List (List Int)} (hok:NS ls) {k:Nat} {l:List Int} (hl:ls[k]? =some l) (h:D1 ls k<0):D1 ls (k+1)=if FL ls l then(l.head?).getD (-1)else -1:=by
 obtain⟨hk,rfl⟩:=JT.1 hl;exact Xx hok hk h
def dU {ls:List (List Int)} {l:List Int} (h:l∈ls):l.length<=total ls:=by
 induction ls with
 | nil=>cases h
 | cons a r ih=>
   simp only[total,EW,List.sum_cons]at *;rcases Fl.1 h with rfl|h
   .omega
   .have:=ih h;omega
def mC (ls:List (List Int)) (f:Bool) (hok:NS ls) (ht:total ls<Ae):Pure zP 332 [.l (En ls) f] (.t [.l (iL (CM ls).1) false,.b (CM ls).2]):=by
 have hM:=Mx;refine ve kZ ?_
 conv=>whnf
 repeat((first|(refine F4 ?_;intro K U)|(refine DS ?_;intro KR KP hR hP)|(refine hR _ _ ?_;clear hP;clear KP;clear hR;clear KR)|refine IL ?_|refine Po ?_|(apply U;clear U K)|fail);conv=>whnf)
 refine Gb (fun(x:List (List Int)×Bool×V×List Int)=>total x.1) (fun x=>[(0,.l (En x.1) x.2.1),(4,x.2.2.1)]) (fun x=>[.own x.2.2.1 1 (iL x.2.2.2)])
  (fun x=>NS x.1/\x.2.2.2.length+total x.1<=total ls/\DR (total x.1) x.1 x.2.2.2=CM ls) (ls,f,.l [] true,[]) rfl ⟨hok,by simp,rfl⟩ (Gy Sat.nil 1) ?_
 rintro⟨ls',f',v,out⟩ Z ⟨hok',hlen,hm⟩ hs;dsimp only at hok' hlen hm hs;have hlm:ls'.length<=Ae:=by have:=hok'.1;omega
 conv=>whnf
 repeat((first|(refine F4 ?_;intro K U)|(refine DS ?_;intro KR KP hR hP)|(refine hR _ _ ?_;clear hP;clear KP;clear hR;clear KR)|refine IL ?_|refine Po ?_|(apply U;clear U K)|fail);conv=>whnf)
 have hJ :=Sk U (fun(y:Int×Bool)=>[(5,.i .i64 y.1),(6,.b y.2)]) (fun _=>[.own v 1 (iL out)]) (fun y=>(0<=y.1/\pick ls'=some y.1)\/(y.1<0/\pick ls'=none/\y.2=ls'.any fun l=> !l.isEmpty))
  [(0,.l (En ls') f'),(4,v),(5,.pn),(6,.pn)] (by
  rintro⟨nx,lf⟩ Z hor hs;dsimp only at hor
  conv=>whnf
  repeat((first|refine⟨rfl,?_⟩|(refine F4 ?_;intro K U)|(refine DS ?_;intro KR KP hR hP)|(refine hR _ _ ?_;clear hP;clear KP;clear hR;clear KR)|refine Ir ?_|(apply U;clear U K)|fail);conv=>whnf)
  refine fork (fun hneg=>?_) (fun hneg=>?_)
  .conv=>whnf
   repeat((first|(refine F4 ?_;intro K U)|(refine DS ?_;intro KR KP hR hP)|(refine hR _ _ ?_;clear hP;clear KP;clear hR;clear KR)|refine kq ?_|(apply U;clear U K)|(clear U K));conv=>whnf)
   rcases hor with⟨h0,_⟩|⟨_,hp,rfl⟩
   .omega
   .rw[Re hp]at hm
    refine BZ ?_;rw[<-hm];refine .t (.cons (hs.HQ 0 rfl) (.cons ?_ .nil));have:(!ls'.any fun l=> !l.isEmpty)=ls'.all List.isEmpty:=by simp[List.all_eq_not_any_not]
    rw[<-this];exact .refl _
  .conv=>whnf
   repeat((first|(refine F4 ?_;intro K U)|(refine DS ?_;intro KR KP hR hP)|refine KH ?_|(apply U;clear U K)|fail);conv=>whnf)
   rcases hor with⟨_,hp⟩|⟨h0,_⟩
   .have hlt:=Iu hp
    refine GY hs 0 (x:=nx) rfl (by omega) C0 fun v' Z hs=>?_
    conv=>whnf
    repeat((first|(refine F4 ?_;intro K U)|(refine DS ?_;intro KR KP hR hP)|(refine hR _ _ ?_;clear hP;clear KP;clear hR;clear KR)|refine IL ?_|refine Po ?_|(apply U;clear U K)|fail);conv=>whnf)
    refine CZ ls'.length (fun k u=>[(8,u),(9,eI (BL k))]) (fun k u=>[.own v' 1 (iL (out++[nx])),.own u 1 (En ((ls'.take k).map fun l=>l.filter (· != nx)))]) (fun _ _=>True) (.l [] true) rfl trivial (Gy hs 1) ?_;rintro k u Z hk - hs
    conv=>whnf
    repeat((first|refine⟨rfl,?_⟩|refine WB ?_|(refine F4 ?_;intro K U)|(refine DS ?_;intro KR KP hR hP)|(refine hR _ _ ?_;clear hP;clear KP;clear hR;clear KR)|refine Ir ?_|(apply U;clear U K)|fail);conv=>whnf)
    refine Gf hk hlm (fun l hl hlt'=>?_) fun hk=>?_
    .conv=>whnf
     repeat((first|(refine F4 ?_;intro K U)|(refine DS ?_;intro KR KP hR hP)|refine KH ?_|refine IL ?_|(apply U;clear U K)|fail);conv=>whnf)
     refine Jd hl hlm rfl ?_
     conv=>whnf
     repeat((first|refine KA ?_|fail);conv=>whnf)
     refine(RA _ _ _ (hok'.2 _ (CY hl)).1).use ?_
     conv=>whnf
     refine GY hs 1 (x:=l.filter (· != nx)) rfl (by have:=hok'.1;simp;omega) DP fun u' Z' hs'=>?_
     conv=>whnf
     repeat((first|refine⟨rfl,?_⟩|(refine DS ?_;intro KR KP hR hP)|(refine hR _ _ ?_;clear hP;clear KP;clear hR;clear KR)|(apply U;clear U K)|(clear U K));conv=>whnf)
     refine⟨hlt',u',rfl,trivial,?_⟩;rw[AU hl,VV];exact hs'
    .rw[BC hk]at hs
     conv=>whnf
     repeat((first|(refine DS ?_;intro KR KP hR hP)|refine Pp ?_|(apply U;clear U K)|(clear U K));conv=>whnf)
     refine tN hs 1 rfl fun Z' hs'=>?_
     conv=>whnf
     repeat((first|(refine hR _ _ ?_;clear hP;clear KP;clear hR;clear KR)|fail);conv=>whnf)
     refine⟨(ls'.map fun l=>l.filter (· != nx),false,v',out++[nx]),hlt,rfl,⟨hok'.filter nx,by simp;omega,?_⟩,hs'⟩;rw[<-Ot hp];exact hm
   .omega)
 clear U
 .refine CZ ls'.length (fun k (_:Unit)=>[(5,.i .i64 (D1 ls' k)),(6,.b ((ls'.take k).any fun l=> !l.isEmpty)),(7,eI (BL k))]) (fun _ _=>[.own v 1 (iL out)]) (fun _ _=>True) () rfl trivial hs ?_
  rintro k - Z hk - hs
  conv=>whnf
  repeat((first|refine⟨rfl,?_⟩|refine WB ?_|(refine F4 ?_;intro K U)|(refine DS ?_;intro KR KP hR hP)|fail);conv=>whnf)
  refine⟨fun h=>?_,fun h=>?_⟩<;>(try rw[h])
  .have hlt:=of_decide_eq_true h
   rw[Ag (by have:=hok'.1;omega)]at hlt;have hlt:=jU hlt;have hl:=DC hlt;have hb:=hok'.2 _ (List.getElem_mem hlt);generalize ls'[k]=l at *
   conv=>whnf
   repeat((first|refine⟨rfl,?_⟩|refine kL ?_|(refine hR _ _ ?_;clear hP;clear KP;clear hR;clear KR)|refine Ir ?_|(apply U;clear U K)|fail);conv=>whnf)
   refine fork (fun hneg=>?_) (fun hneg=>?_)
   .conv=>whnf
    repeat((first|(refine F4 ?_;intro K U)|(refine DS ?_;intro KR KP hR hP)|refine KH ?_|refine IL ?_|(apply U;clear U K)|fail);conv=>whnf)
    refine Jd hl hlm rfl ?_
    conv=>whnf
    repeat((first|refine⟨rfl,?_⟩|refine KA ?_|refine WB ?_|(refine hR _ _ ?_;clear hP;clear KP;clear hR;clear KR)|refine Ir ?_|(apply U;clear U K)|fail);conv=>whnf)
    refine fork (fun hp=>?_) (fun hp=>?_)
    .simp only[Ca]at hp
     obtain⟨x,r,rfl⟩: ∃x r,l=x::r:=by cases l with
      | nil=>simp at hp
      | cons x r=>exact⟨x,r,rfl⟩
     have hany:((ls'.take (k+1)).any fun l=> !l.isEmpty)=true:=by
      rw[AU hl];simp
     conv=>whnf
     repeat((first|(refine F4 ?_;intro K U)|(refine DS ?_;intro KR KP hR hP)|(refine hR _ _ ?_;clear hP;clear KP;clear hR;clear KR)|(apply U;clear U K)|fail);conv=>whnf)
     refine Jd hl hlm rfl ?_
     conv=>whnf
     repeat((first|refine KA ?_|fail);conv=>whnf)
     refine Vw 0 rfl rfl rfl ?_
     conv=>whnf
     repeat((first|refine KA ?_|fail);conv=>whnf)
     refine(qa _ _ _ hlm fun l hl=>(hok'.2 l hl).1).use ?_
     conv=>whnf
     repeat((first|(refine hR _ _ ?_;clear hP;clear KP;clear hR;clear KR)|refine Ir ?_|(apply U;clear U K)|fail);conv=>whnf)
     refine⟨fun hf=>?_,fun hf=>?_⟩
     .conv=>whnf
      repeat((first|(refine DS ?_;intro KR KP hR hP)|fail);conv=>whnf)
      refine Jd hl hlm rfl ?_
      conv=>whnf
      repeat((first|refine KA ?_|fail);conv=>whnf)
      refine Vw 0 rfl rfl rfl ?_
      conv=>whnf
      repeat((first|refine⟨rfl,?_⟩|refine KA ?_|(refine DS ?_;intro KR KP hR hP)|(refine hR _ _ ?_;clear hP;clear KP;clear hR;clear KR)|(apply U;clear U K)|fail);conv=>whnf)
      refine⟨hlt,(),?_,trivial,hs⟩;have:D1 ls' (k+1)=x:=by rw[J0 hok' hl hneg];simp[FL,hf]
      dsimp only;rw[this,hany];rfl
     .conv=>whnf
      repeat((first|refine⟨rfl,?_⟩|(refine DS ?_;intro KR KP hR hP)|(refine hR _ _ ?_;clear hP;clear KP;clear hR;clear KR)|refine KH ?_|(apply U;clear U K)|fail);conv=>whnf)
      refine⟨hlt,(),?_,trivial,hs⟩;have:D1 ls' (k+1)=D1 ls' k:=by rw[J0 hok' hl hneg,IS ls' k,Iv hok' hneg];simp[FL,hf]
      dsimp only;rw[this,hany];rfl
    .simp only[Ca]at hp
     obtain rfl:l= []:=YM.1 (by omega)
     conv=>whnf
     repeat((first|refine⟨rfl,?_⟩|(refine DS ?_;intro KR KP hR hP)|(refine hR _ _ ?_;clear hP;clear KP;clear hR;clear KR)|refine KH ?_|(apply U;clear U K)|fail);conv=>whnf)
     refine⟨hlt,(),?_,trivial,hs⟩;have:D1 ls' (k+1)=D1 ls' k:=by rw[J0 hok' hl hneg,IS ls' k,Iv hok' hneg];simp[FL]
     have hany:((ls'.take (k+1)).any fun l=> !l.isEmpty)=((ls'.take k).any fun l=> !l.isEmpty):=by
      rw[AU hl,List.any_append];simp
     dsimp only;rw[this,hany];rfl
   .conv=>whnf
    repeat((first|refine Pp ?_|(clear U K));conv=>whnf)
    refine hJ (D1 ls' k,(ls'.take k).any fun l=> !l.isEmpty) _ _ rfl (.inl ⟨by omega,?_⟩) hs;exact RQ (by omega)
  .have hlt:=of_decide_eq_false h
   rw[Ag (by have:=hok'.1;omega)]at hlt;have hke:=b6 hk hlt
   conv=>whnf
   repeat((first|refine kN ?_|(refine hR _ _ ?_;clear hP;clear KP;clear hR;clear KR)|refine Ir ?_|refine Pp ?_|(apply U;clear U K)|(clear U K));conv=>whnf)
   refine hJ (D1 ls' k,(ls'.take k).any fun l=> !l.isEmpty) _ _ rfl ?_ hs;rw[BC hke];by_cases h0:0<=D1 ls' k
   .exact .inl ⟨h0,RQ h0⟩
   .refine .inr ⟨by omega,?_,rfl⟩
    have:=Iv hok' (k:=k) (by omega);rw[BC hke]at this;show((ls'.find? (FL ls')).bind List.head?)=none;rw[this];rfl
def EC (g os:List (List Int)) (c:Int):List Int:=
 match EY g os c with
 | none=>[]
 | some l=>if(CM l).2 then [c]++(CM l).1++[0]else []
def Bd (g:List (List Int)):Nat->List (List Int)
 | 0=>[[0]]
 | k+1=>Bd g k++[EC g (Bd g k) ((k:Int)+1)]
def CA (g:List (List Int)):List (List Int):=Bd g (2+g.length)
def JD (g:List (List Int)):Prop:=g.length<=16/\ ∀(i:Nat) (l:List Int),g[i]? =some l->l.length<=3/\l.Nodup/\ ∀c∈l,(3:Int)<=c/\c<3+(i:Int)
def Cp (g:List (List Int)): ∀k,(Bd g k).length=k+1
 | 0=>rfl
 | k+1=>by simp[Bd,Cp g k]
def Ix: ∀(n:Nat) (ls:List (List Int)) (out:List Int),(DR n ls out).1.length<=out.length+n
 | 0,ls,out=>by simp[DR]
 | n + 1,ls,out=>by
   simp only[DR];split
   .simp
   .rename_i x _
    have:=Ix n (ls.map fun l=>l.filter (· != x)) (out++[x]);simp only[SB,List.length_singleton]at this;refine Nat.le_trans this ?_;omega
def Xw {ls:List (List Int)} (h: ∀l∈ls,∀x∈l,(0:Int)<=x) {x:Int} (hp:pick ls=some x):0<=x:=by
 unfold pick at hp;rw[Option.bind_eq_some_iff]at hp;obtain⟨l,h1,h2⟩:=hp;have hm:=List.mem_of_find?_eq_some h1;cases l with
 | nil=>cases h2
 | cons y r=>cases h2;exact h _ hm _ (.head _)
def K2: ∀(n:Nat) (ls:List (List Int)) (out:List Int),(∀l∈ls,∀x∈l,(0:Int)<=x)->(∀x∈out,(0:Int)<=x)-> ∀x∈(DR n ls out).1,(0:Int)<=x
 | 0,ls,out,_,h2=>h2
 | n + 1,ls,out,h1,h2=>by
   simp only[DR];split
   .exact h2
   .rename_i y hy
    refine K2 n _ _ (fun l hl x hx=>?_) fun x hx=>?_
    .obtain⟨l',hl',rfl⟩:=Hp.1 hl
     exact h1 _ hl' _ (JU.1 hx).1
    .rcases D9.1 hx with hx|hx
     .exact h2 x hx
     .rw[Lp.1 hx];exact Xw h1 hy
def Dk {g:List (List Int)} (hg:JD g) {c p:Int} (hp:p∈A3 g c):3<=p/\p<c:=by
 unfold A3 at hp;split at hp
 .cases hp
 .rename_i hc
  rw[C6]at hp;cases hq:g[(c - 3).toNat]? with
  | none=>rw[hq]at hp;cases hp
  | some l=>
    rw[hq]at hp;obtain⟨_,_,h⟩:=hg.2 _ _ hq;have:=h p hp;omega
def DG {g:List (List Int)} (hg:JD g) (c:Int):(A3 g c).length<=3:=by
 unfold A3;split
 .simp
 .rw[C6]
  cases hq:g[(c - 3).toNat]? with
  | none=>simp
  | some l=>exact(hg.2 _ _ hq).1
def HN {g os:List (List Int)} {c:Int} {ls:List (List Int)} (h:EY g os c=some ls):ls=(A3 g c).map (fun p=>(os.getD p.toNat []).filter (· != 0))++[A3 g c]:=by
 unfold EY at h;split at h
 .cases h
 .exact(Option.some.inj h).symm
def XH {os:List (List Int)} {B:Nat} (h: ∀o∈os,o.length<=B) (n:Nat):(os.getD n []).length<=B:=by
 rw[C6];cases hq:os[n]? with
 | none=>simp
 | some l=>exact h _ (CY hq)
def Qt {os:List (List Int)} {Q:Int->Prop} (h: ∀o∈os,∀x∈o,Q x) (n:Nat): ∀x∈os.getD n [],Q x:=by
 rw[C6];cases hq:os[n]? with
 | none=>simp
 | some l=>exact h _ (CY hq)
def Fj {g os:List (List Int)} {c:Int} {ls:List (List Int)} (h:EY g os c=some ls) {B:Nat} (hB: ∀o∈os,o.length<=B):total ls<=(A3 g c).length*(B+1):=by
 rw[HN h];simp only[total,VV,zT,List.sum_append,EW,List.map_nil,List.sum_cons,List.sum_nil,Nat.add_zero]
 have: ∀ps:List Int,(ps.map (List.length∘fun p=>(os.getD p.toNat []).filter (· != 0))).sum<=ps.length*B:=fun ps=>by
  induction ps with
  | nil=>simp
  | cons p r ih=>
    simp only[EW,List.sum_cons,Function.comp,Lr,Nat.succ_mul];have h1:=Pr (· != 0) (os.getD p.toNat []);have h2:=XH hB p.toNat;simp only[Function.comp_def]at *;omega
 have:=this (A3 g c);rw[Nat.mul_add,Nat.mul_one];simp only[Function.comp_def]at *;omega
def Xy {g os:List (List Int)} {c:Int} {B:Nat} (hB: ∀o∈os,o.length<=B):(EC g os c).length<=(A3 g c).length*(B+1)+2:=by
 unfold EC;split
 .simp
 .rename_i ls h
  have h1:=Fj h hB;have h2:=Ix (total ls) ls [];simp only[List.length_nil,Gu]at h2;split
  .simp only[SB,List.length_singleton,CM]
   omega
  .simp
def R7 {g os:List (List Int)} {c:Int} (hg:JD g) (hc:0<=c) (h: ∀o∈os,∀x∈o,(0:Int)<=x): ∀x∈EC g os c,0<=x:=by
 unfold EC;split
 .simp
 .rename_i ls hl
  split
  .intro x hx
   have hls: ∀l∈ls,∀x∈l,(0:Int)<=x:=by
    rw[HN hl];intro l hl x hx;rcases D9.1 hl with hl|hl
    .obtain⟨p,_,rfl⟩:=Hp.1 hl
     exact Qt h p.toNat x (JU.1 hx).1
    .rw[Lp.1 hl]at hx
     have:=Dk hg hx;omega
   simp only[D9,Lp]at hx;rcases hx with(rfl|hx)|rfl
   .exact hc
   .exact K2 _ _ _ hls (by simp) x hx
   .exact Int.le_refl _
  .simp
def Jc (k:Nat):Nat:=5*3 ^ (k - 3) - 3
def tv (n:Nat):1<=3 ^ n:=Nat.one_le_pow _ _ (by omega)
def I4 {g : List (List Int)} (hg:JD g): ∀(k:Nat),∀o∈Bd g k,o.length<=Jc k/\ ∀x∈o,(0:Int)<=x
 | 0,o,ho=>by
   simp only[Bd,Lp]at ho;subst ho;simp[Jc]
 | k + 1,o,ho=>by
   have ih:=I4 hg k
   have hmono:Jc k<=Jc (k+1):=by
    unfold Jc;have:3 ^ (k - 3)<=3 ^ (k+1 - 3):=Nat.pow_le_pow_right (by omega) (by omega);omega
   simp only[Bd,D9,Lp]at ho;rcases ho with ho|rfl
   .exact⟨Nat.le_trans (ih o ho).1 hmono,(ih o ho).2⟩
   .refine⟨?_,R7 hg (by omega) fun o ho=>(ih o ho).2⟩
    have h1:=Xy (g:=g) (c:=(k:Int)+1) fun o ho=>(ih o ho).1
    by_cases hk:k<3
    .have:A3 g ((k:Int)+1)= []:=by
      apply List.eq_nil_iff_forall_not_mem.2;intro p hp;have:=Dk hg hp;omega
     rw[this]at h1
     have:Jc (k+1)=2:=by
      have:k+1 - 3=0:=by omega
      simp[Jc,this]
     simpa[this]using h1
    .have h2:=DG hg ((k:Int)+1)
     have h3:(A3 g ((k:Int)+1)).length*(Jc k+1)<=3*(Jc k+1):=Va _ h2;have:k+1 - 3=(k - 3)+1:=by omega
     unfold Jc at *;rw[this,Nat.pow_succ];have:=tv (k - 3);omega
def cK {k:Nat} (h:k<=18):Jc k<=71744535:=by
 unfold Jc;have:3 ^ (k - 3)<=3 ^ 15:=Nat.pow_le_pow_right (by omega) (by omega);have e:(3:Nat) ^ 15=14348907:=by decide
 omega
def FC {g:List (List Int)}: ∀ {k j:Nat},j<=k->(Bd g k)[j]? =(Bd g j)[j]?
 | 0,j,h=>by(obtain rfl:j=0:=by omega);rfl
 | k+1,j,h=>by
   by_cases e:j=k+1
   .subst e;rfl
   .rw[<-FC (k:=k) (by omega),Bd,nX (by rw[Cp];omega)]
def ZU {g os:List (List Int)} {c:Int} {ls:List (List Int)} (hg:JD g) (h:EY g os c=some ls) {B:Nat} (hB: ∀o∈os,o.length<=B/\ ∀x∈o,(0:Int)<=x) (hb:B<=100000000):NS ls/\total ls<Ae:=by
 have h3:=DG hg c;have ht:=Fj h fun o ho=>(hB o ho).1
 have:(A3 g c).length*(B+1)<=3*(B+1):=Va _ h3;have htl:total ls<Ae:=by simp only[Ae];omega
 refine⟨⟨?_,fun l hl=>⟨?_,?_⟩⟩,htl⟩
 .rw[HN h]
  simp only[SB,Ca,List.length_singleton,Ae];omega
 .have:=dU hl
  simp only[Ae]at *;omega
 .intro x hx
  rw[HN h]at hl;rcases D9.1 hl with hl|hl
  .obtain⟨p,_,rfl⟩:=Hp.1 hl
   exact Qt (fun o ho=>(hB o ho).2) p.toNat x (JU.1 hx).1
  .rw[Lp.1 hl]at hx
   have:=Dk hg hx;omega
def eF (g : List (List Int)) (f:Bool) (hg:JD g):Pure zP 297 [.l (En g) f] (.l (En (CA g)) false):=by
 refine wR kZ ?_
 conv=>whnf
 repeat((first|clear U K|apply st|(apply zk;intro K U)|fail);conv=>whnf)
 have hg16:=hg.1;have hgm:g.length<=Ae:=by simp only[Ae];omega
 refine⟨.l (En [[0]]) true,emp,fun _ _ h=>h,.l (fun _=>rfl) (.cons (.cons (.l (fun h=>(by cases h)) (.refl _ _ _)) .nil) .nil),?_⟩;refine zh ?_;(repeat clear U K);repeat intro K U
 refine CZ (2+g.length) (fun k v=>[(3,v),(4,eI (Lz 1 k))]) (fun k v=>[.own v 1 (En (Bd g k))]) (fun _ _=>True) (.l (En [[0]]) true) rfl trivial (tM Sat.nil (by simp)) ?_;rintro k v Z hk - hs;have hc1:Lz 1 k=(k:Int)+1:=by rw[Pj (by omega) (by omega)];omega
 have hw:IntKind.i64.wrap (3+((En g).length:Nat))=3+(g.length:Int):=by rw[Ca,wrap64 (by omega) (by omega)]
 refine zh ?_;(repeat clear U K);repeat intro K U
 rw[hc1];rw[hw];refine fork (fun hlt=>?_) (fun hlt=>?_)
 .have hlt':k<2+g.length:=by omega
  have hB:=I4 hg k;have hb18:Jc k<=71744535:=cK (by omega);have hc2:Lz 1 (k+1)=IntKind.i64.wrap ((k:Int)+1+1):=by rw[Lz,hc1]
  refine zh ?_;(repeat clear U K);repeat intro K U
  refine⟨.l (iL []) false,Z,fun _ _ h=>h,.l (fun h=>(by cases h)) (.refl _ _ _),?_⟩
  conv=>whnf
  repeat((first|clear U K|apply st|(apply zk;intro K U)|fail);conv=>whnf)
  refine(mH g (Bd g k) f v ((k:Int)+1) (by omega) hgm (fun o ho=>by have:=(hB o ho).1;simp only[Ae];omega) (by have:=DG hg ((k:Int)+1);omega)
   (fun p hp=>by have:=Dk hg hp;rw[Cp];omega)).use (rest:=[]) hs ?_
  rintro r post Z' ⟨rfl,rfl⟩ hs;cases hl:EY g (Bd g k) ((k:Int)+1)with
  | none=>
    refine zh ?_;(repeat clear U K);repeat intro K U
    refine GY hs 0 (x:=[]) rfl (by rw[Cp];simp only[Ae];omega) DP fun v' Z' hs'=>?_
    conv=>whnf
    refine⟨v',Z',fun _ _ h=>h,.refl _,?_⟩;refine zh ?_;(repeat clear U K);repeat intro K U
    refine⟨hlt',v',?_,trivial,?_⟩
    .skip
     rw[hc2];rfl
    .have:EC g (Bd g k) ((k:Int)+1)= []:=by simp[EC,hl,]
     rw[Bd,this];exact hs'
  | some ls=>
    obtain⟨hok,htot⟩:=ZU hg hl hB (by omega);refine zh ?_;(repeat clear U K);repeat intro K U
    refine(mC ls false hok htot).use ?_;have hml:=Ix (total ls) ls [];simp only[List.length_nil,Gu]at hml;refine zh ?_;(repeat clear U K);repeat intro K U
    refine⟨fun h=>?_,fun h=>?_⟩<;>(try rw[h])
    .conv=>whnf
     repeat((first|clear U K|(apply zk;intro K U)|fail);conv=>whnf)
     refine Oa (tM hs (by simp)) 1 (xs:=[(k:Int)+1]) rfl (by simp[CM];have:=Fj hl fun o ho=>(hB o ho).1;have h3:=DG hg ((k:Int)+1);have:(A3 g ((k:Int)+1)).length*(Jc k+1)<=3*(Jc k+1):=Va _ h3;simp only[Ae]at *;omega) C0 fun u Z1 hs=>?_
     conv=>whnf
     refine GY hs 1 (x:=0) rfl (by simp[CM];have:=Fj hl fun o ho=>(hB o ho).1;have h3:=DG hg ((k:Int)+1);have:(A3 g ((k:Int)+1)).length*(Jc k+1)<=3*(Jc k+1):=Va _ h3;simp only[Ae]at *;omega) C0 fun u Z1 hs=>?_
     conv=>whnf
     refine tN hs 1 rfl fun Z' hs=>?_
     conv=>whnf
     repeat((first|clear U K|apply st|(apply zk;intro K U)|fail);conv=>whnf)
     refine GY hs 0 (x:=([(k:Int)+1]++(CM ls).1++[0])) rfl (by rw[Cp];simp only[Ae];omega) DP fun v' Z' hs'=>?_
     conv=>whnf
     refine⟨v',Z',fun _ _ h=>h,.refl _,?_⟩;refine zh ?_;(repeat clear U K);repeat intro K U
     refine⟨hlt',v',?_,trivial,?_⟩
     .skip
      rw[hc2];rfl
     .have:EC g (Bd g k) ((k:Int)+1)=([(k:Int)+1]++(CM ls).1++[0]):=by simp[EC,hl,h]
      rw[Bd,this];exact hs'
    .refine zh ?_;(repeat clear U K);repeat intro K U
     refine GY hs 0 (x:=[]) rfl (by rw[Cp];simp only[Ae];omega) DP fun v' Z' hs'=>?_
     conv=>whnf
     refine⟨v',Z',fun _ _ h=>h,.refl _,?_⟩;refine zh ?_;(repeat clear U K);repeat intro K U
     refine⟨hlt',v',?_,trivial,?_⟩
     .skip
      rw[hc2];rfl
     .have:EC g (Bd g k) ((k:Int)+1)= []:=by simp[EC,hl,h]
      rw[Bd,this];exact hs'
 .refine zh ?_;(repeat clear U K);repeat intro K U
  have hke:k=2+g.length:=by omega
  subst hke;exact Gi hs 0 rfl rfl
end Go.Gl
namespace Go.Gl
def par (ps:List (List Int)) (c:Nat):List Int:=if c<3 then []else ps.getD (c - 3) []
def ordered (ps:List (List Int)):Prop:= ∀c p,p∈par ps c->3<=p/\p<(c:Int)
def gT (ps:List (List Int)):Nat->Nat->Nat->Bool
 | 0,c,b=>c==b
 | f+1,c,b=>c==b||(par ps c).any fun p=>gT ps f p.toNat b
def GC (ps:List (List Int)) (c b:Nat):Bool:=gT ps c c b
def LR {ps:List (List Int)} (ho:ordered ps): ∀(f c b:Nat),c<=f->gT ps f c b=GC ps c b
 | 0,c,b,h=>by(obtain rfl:c=0:=by omega);rfl
 | f + 1,c,b,h=>by
   cases c with
   | zero=>
     have:par ps 0= []:=rfl;simp[GC,gT,this]
   | succ c=>
     simp only[GC,gT];congr 1
     have key: ∀l:List Int,(∀p∈l,p∈par ps (c+1))->(l.any fun p=>gT ps f p.toNat b)=l.any fun p=>gT ps c p.toNat b:=by
      intro l hl
      induction l with
      | nil=>rfl
      | cons p r ih=>
        have hp:=ho (c+1) p (hl p (.head _));simp only[SA];rw[ih fun q hq=>hl q (.tail _ hq),LR ho f p.toNat b (by omega),LR ho c p.toNat b (by omega)]
     exact key _ fun p hp=>hp
def EI {ps:List (List Int)} (ho:ordered ps) (c b:Nat):GC ps c b=(c==b||(par ps c).any fun p=>GC ps p.toNat b):=by
 cases c with
 | zero=>simp[GC,gT,par]
 | succ c=>
   simp only[GC,gT];congr 1
   have key: ∀l:List Int,(∀p∈l,p∈par ps (c+1))->(l.any fun p=>gT ps c p.toNat b)=l.any fun p=>gT ps p.toNat p.toNat b:=by
    intro l hl
    induction l with
    | nil=>rfl
    | cons p r ih=>
      have hp:=ho (c+1) p (hl p (.head _));simp only[SA];rw[ih fun q hq=>hl q (.tail _ hq),LR ho c p.toNat b (by omega)];rfl
   exact key _ fun p hp=>hp
def C9 {ps:List (List Int)} (ho:ordered ps) (c:Nat):GC ps c c=true:=by rw[EI ho];simp
def iv {ps:List (List Int)} (ho:ordered ps): ∀(c b:Nat),GC ps c b=true->b<=c:=by
 intro c
 induction c using Nat.strongRecOn with
 | _ c ih=>
   intro b h;rw[EI ho]at h;simp only[Ea,Cd,Hn]at h;rcases h with rfl|⟨p,hp,h⟩
   .omega
   .have:=ho c p hp
    have:=ih p.toNat (by omega) b h;omega
def IM {ps:List (List Int)} (ho:ordered ps): ∀(a b c:Nat),GC ps a b=true->GC ps b c=true->GC ps a c=true:=by
 intro a
 induction a using Nat.strongRecOn with
 | _ a ih=>
   intro b c h k;rw[EI ho]at h ⊢;simp only[Ea,Cd,Hn]at h ⊢;rcases h with rfl|⟨p,hp,h⟩
   .rw[EI ho]at k
    simpa using k
   .have:=ho a p hp
    exact .inr ⟨p,hp,ih p.toNat (by omega) b c h k⟩
def Fq (bs:List Bool) (i:Nat):List Int->List Bool
 | []=>bs
 | p::r=>Fq (bs.set p.toNat (bs.getD p.toNat false||bs.getD i false)) i r
def NA (i:Nat): ∀(a b:List Int) (bs:List Bool),Fq bs i (a++b)=Fq (Fq bs i a) i b
 | [],b,bs=>rfl
 | p::r,b,bs=>by simp only[List.cons_append,Fq];exact NA i r b _
def OA (i:Nat): ∀(l:List Int) (bs:List Bool),(Fq bs i l).length=bs.length
 | [],bs=>rfl
 | p::r,bs=>by simp only[Fq];rw[OA i r];simp
def Hq (ps:List (List Int)) (n c:Nat):Nat->List Bool
 | 0=>(List.replicate n false).set c true
 | k+1=>Fq (Hq ps n c k) (c - k) (par ps (c - k))
def MD (ps:List (List Int)) (n c:Nat): ∀k,(Hq ps n c k).length=n
 | 0=>by simp[Hq]
 | k+1=>by simp only[Hq];rw[OA,MD ps n c k]
def FA {bs:List Bool} {j:Nat} {x:Bool} (hj:j<bs.length) (b:Nat):(bs.set j x).getD b false=if b=j then x else bs.getD b false:=by
 simp only[C6,List.getElem?_set];by_cases h:j=b
 .subst h;simp[hj]
 .rw[if_neg h,if_neg (fun e=>h e.symm)]
def OB {i:Nat}: ∀(l:List Int) (bs:List Bool),(∀p∈l,0<=p/\p.toNat<bs.length/\p.toNat<i)-> ∀b,(Fq bs i l).getD b false=(bs.getD b false||(bs.getD i false&&l.contains (b:Int)))
 | [],bs,_,b=>by simp[Fq]
 | p ::r,bs,h,b=>by
   obtain⟨h1,h2,h3⟩:=h p (.head _);simp only[Fq];have hi:i≠p.toNat:=by omega
   rw[OB r _ (fun q hq=>by have:=h q (.tail _ hq);simpa using this),FA h2,FA h2,if_neg hi];by_cases hb:b=p.toNat
   .subst hb
    have:((p.toNat:Nat):Int)=p:=by omega
    simp only[if_true,this,List.contains_cons,beq_self_eq_true,Bool.true_or,Bool.and_true];cases bs.getD p.toNat false<;>cases bs.getD i false<;>simp
   .rw[if_neg hb]
    have:((b:Int)==p)=false:=by simp;omega
    simp only[List.contains_cons,this,Bool.false_or]
def Wi {ps:List (List Int)} (ho:ordered ps) {n c:Nat} (hc:c<n): ∀k,k<=c - 2->(∀b,(Hq ps n c k).getD b false=true->GC ps c b=true)/\(Hq ps n c k).getD c false=true/\
    (∀j p,c - k<j->(Hq ps n c k).getD j false=true->p∈par ps j->(Hq ps n c k).getD p.toNat false=true)
 | 0,_=>by
   have hg: ∀b,(Hq ps n c 0).getD b false=decide (b=c):=fun b=>by
    simp only[Hq];rw[FA (by simpa using hc)];by_cases h:b=c
    .simp[h]
    .rw[if_neg h]
     simp[h,C6,List.getElem?_replicate];split<;>rfl
   refine⟨fun b hb=>?_,by rw[hg];simp,fun j p hj hb hp=>?_⟩
   .rw[hg]at hb
    simp only[CC]at hb;subst hb;exact C9 ho _
   .rw[hg]at hb
    simp only[CC]at hb;omega
 | k + 1,hk=>by
   obtain⟨h1,h2,h3⟩:=Wi ho hc k (by omega)
   have hpar: ∀p∈par ps (c - k),0<=p/\p.toNat<(Hq ps n c k).length/\p.toNat<c - k:=fun p hp=>by
    have:=ho _ p hp;rw[MD];omega
   have hg: ∀b,(Hq ps n c (k+1)).getD b false=((Hq ps n c k).getD b false||((Hq ps n c k).getD (c - k) false&&(par ps (c - k)).contains (b:Int))):=fun b=>by
    simp only[Hq];exact OB _ _ hpar b
   refine⟨fun b hb=>?_,by rw[hg,h2];rfl,fun j p hj hb hp=>?_⟩
   .rw[hg]at hb
    simp only[Ea,A0,List.contains_iff_mem]at hb;rcases hb with hb|⟨hb,hm⟩
    .exact h1 b hb
    .refine IM ho c (c - k) b (h1 _ hb) ?_
     rw[EI ho];simp only[Ea,Hn];exact .inr ⟨b,hm,by simpa using C9 ho b⟩
   .have hjp:=ho j p hp
    have hb':(Hq ps n c k).getD j false=true:=by
     rw[hg]at hb;simp only[Ea,A0,List.contains_iff_mem]at hb;rcases hb with hb|⟨_,hm⟩
     .exact hb
     .have:=ho _ _ hm
      omega
    rw[hg];by_cases e:j=c - k
    .subst e
     rw[hb'];have:((p.toNat:Nat):Int)=p:=by omega
     simp only[this,Cm,Ea,List.contains_iff_mem];exact .inr hp
    .rw[h3 j p (by omega) hb' hp]
     rfl
def aZ {ps:List (List Int)} (ho:ordered ps) {n c:Nat} (hc:c<n) (b:Nat):(Hq ps n c (c - 2)).getD b false=GC ps c b:=by
 obtain⟨h1,h2,h3⟩:=Wi ho hc (c - 2) (Ia _)
 have key: ∀a,(Hq ps n c (c - 2)).getD a false=true-> ∀b,GC ps a b=true->(Hq ps n c (c - 2)).getD b false=true:=by
  intro a
  induction a using Nat.strongRecOn with
  | _ a ih=>
    intro ha b hb;rw[EI ho]at hb;simp only[Ea,Cd,Hn]at hb;rcases hb with rfl|⟨p,hp,hb⟩
    .exact ha
    .have:=ho a p hp
     exact ih p.toNat (by omega) (h3 a p (by omega) ha hp) b hb
 cases hb:GC ps c b with
 | true=>exact key c h2 b hb
 | false=>
   cases hq:(Hq ps n c (c - 2)).getD b false with
   | false=>rfl
   | true=>rw[h1 b hq]at hb;cases hb
end Go.Gl
namespace Go.Gl
open Go.Proofs
attribute [local irreducible] Ar Aj AZ AQ AL AX AP AR AJ AW AM AN Am Av Sat AT As Aa W
def uc (g:List (List Int)) (f:Bool) (c:Int) (hg:JD g) (h0:0<=c) (h1:c<3+g.length):Pure zP 233 [.l (En g) f,eI c] (.t [.l (iL ((CA g).getD c.toNat [])) false,.b (!((CA g).getD c.toNat []).isEmpty)]):=by
 refine xV kZ ?_
 conv=>whnf
 repeat((first|clear U K|apply st|(apply zk;intro K U)|fail);conv=>whnf)
 refine(eF g f hg).use ?_
 conv=>whnf
 have hlen:=Cp g (2+g.length);have hlt:c.toNat<(CA g).length:=by unfold CA;omega
 have hq:=DC hlt;refine Vw c.toNat hq (by omega) rfl ?_;refine zh ?_;(repeat clear U K);repeat intro K U
 refine AG ?_;rw[C6,hq,Option.getD_some];cases(CA g)[c.toNat]with
 | nil=>rfl
 | cons _ _=>simp
def wFit (w:AF):Prop:=w.parents.length<=1000/\(∀l∈w.parents,l.length<=Ae)/\w.owner.length<=Ae
def uA {ps:List (List Int)} {c:Nat} (h3:3<=c) (hc:c<3+ps.length):ps[c - 3]? =some (par ps c):=by
 unfold par;rw[if_neg (by omega),C6,DC (by omega)];rfl
def aT {bs:List Bool} {j:Nat} (h:j<bs.length):(bL bs)[j]? =some [.b (bs.getD j false)]:=by
 rw[OR,C6,DC h];rfl
def Y4 (bs:List Bool) (j:Nat) (x:Bool):(bL bs).set j [.b x]=bL (bs.set j x):=by
 simp[bL,List.map_set]
def AAQ (w:AF) (c:Nat) (hw:wFit w) (ho:ordered w.parents) (hc:c<3+w.parents.length):Pure zP 333 [.a (A9 w),eI c] (.l (bL (Hq w.parents (3+w.parents.length) c (c - 2))) false):=by
 obtain⟨hw1,hw2,hw3⟩:=hw;have hmL:3+w.parents.length<=Ae:=by simp only[Ae];omega
 refine vd kZ ?_;refine zh ?_;(repeat clear U K);repeat intro K U
 rw[show IntKind.i64.wrap (3+((En w.parents).length:Nat))=((3+w.parents.length:Nat):Int) by rw[Ca,wrap64 (by omega) (by omega)];omega];refine hMk Sat.nil (by omega) fun v Z hs hv=>?_
 obtain⟨id,rfl⟩:=hv
 conv=>whnf
 repeat((first|clear U K|apply st|(apply zk;intro K U)|fail);conv=>whnf)
 refine gX hs 0 c rfl rfl (by simpa using hc) ?_
 conv=>whnf
 refine Mp hs 0 rfl (e:=[.b false]) (by simp[hc]) rfl rfl rfl rfl rfl fun Z hs=>?_
 have e0:(List.replicate (3+w.parents.length) [V.b false]).set c [V.b true]=bL (Hq w.parents (3+w.parents.length) c 0):=by
  simp only[Hq];rw[<-Y4];simp[bL]
 refine zh ?_;(repeat clear U K);repeat intro K U
 refine CZ (c - 2) (fun k (_:Unit)=>[(6,eI (dK c k))]) (fun k _=>[.own (.sl id (3+w.parents.length) (3+w.parents.length)) 1 (bL (Hq w.parents (3+w.parents.length) c k))]) (fun _ _=>True) () rfl trivial (e0 ▸ hs) ?_;rintro k - Z hk - hs;have hd:dK c k=(c:Int) - k:=cC (by omega) (by omega);have hul:=MD w.parents (3+w.parents.length) c k;refine zh ?_;(repeat clear U K);repeat intro K U
 refine fork (fun hlt=>?_) (fun hlt=>?_)
 .rw [hd]at hlt
  have h3:3<=c - k:=by omega
  have hpar:=uA (ps:=w.parents) h3 (by omega);have hpl:=hw2 _ (CY hpar);refine zh ?_;(repeat clear U K);repeat intro K U
  refine Vw (c - k - 3) hpar (by rw[hd,wrap64 (by omega) (by omega)];omega) rfl ?_;refine zh ?_;(repeat clear U K);repeat intro K U
  refine CZ (par w.parents (c - k)).length (fun j (_:Unit)=>[(29,eI (BL j))]) (fun j _=>[.own (.sl id (3+w.parents.length) (3+w.parents.length)) 1 (bL (Fq (Hq w.parents (3+w.parents.length) c k) (c - k) ((par w.parents (c - k)).take j)))]) (fun _ _=>True) () rfl trivial hs ?_;rintro j - Z hj - hs;have hml:=OA (c - k) ((par w.parents (c - k)).take j) (Hq w.parents (3+w.parents.length) c k);refine zh ?_;(repeat clear U K);repeat intro K U
  refine Gf hj hpl (fun p hp hjlt=>?_) fun hj=>?_
  .have hpp:=ho _ p (CY hp)
   have hm:(Fq (Hq w.parents (3+w.parents.length) c k) (c - k) ((par w.parents (c - k)).take (j+1)))=(Fq (Hq w.parents (3+w.parents.length) c k) (c - k) ((par w.parents (c - k)).take j)).set p.toNat
    ((Fq (Hq w.parents (3+w.parents.length) c k) (c - k) ((par w.parents (c - k)).take j)).getD p.toNat false||(Fq (Hq w.parents (3+w.parents.length) c k) (c - k) ((par w.parents (c - k)).take j)).getD (c - k) false):=by
    rw[AU hp,NA];rfl
   generalize hbs:Fq (Hq w.parents (3+w.parents.length) c k) (c - k) ((par w.parents (c - k)).take j)=bs at *;have hlp:p.toNat<bs.length:=by omega
   have hlc:c - k<bs.length:=by omega
   refine zh ?_;(repeat clear U K);repeat intro K U
   refine Jd hp hpl rfl ?_;refine zh ?_;(repeat clear U K);repeat intro K U
   refine gX hs 0 p.toNat rfl (by omega) (by simpa using hlp) ?_
   conv=>whnf
   refine Ip hs 0 rfl (aT hlp) ?_
   conv=>whnf
   cases hb:bs.getD p.toNat false with
   | true=>
     rw[hb]at hm;refine zh ?_;(repeat clear U K);repeat intro K U
     refine gX hs 0 p.toNat rfl (by omega) (by simpa using hlp) ?_
     conv=>whnf
     refine Mp hs 0 rfl (aT hlp) rfl rfl rfl rfl rfl fun Z hs=>?_
     refine zh ?_;(repeat clear U K);repeat intro K U
     refine⟨hjlt,(),rfl,trivial,?_⟩;rw[hm,<-Y4];exact hs
   | false=>
     rw[hb]at hm;refine zh ?_;(repeat clear U K);repeat intro K U
     refine gX hs 0 (c - k) rfl (by rw[hd];omega) (by simpa using hlc) ?_;refine zh ?_;(repeat clear U K);repeat intro K U
     refine Ip hs 0 rfl (aT hlc) ?_
     conv=>whnf
     refine gX hs 0 p.toNat rfl (by omega) (by simpa using hlp) ?_
     conv=>whnf
     refine Mp hs 0 rfl (aT hlp) rfl rfl rfl rfl rfl fun Z hs=>?_
     refine zh ?_;(repeat clear U K);repeat intro K U
     refine⟨hjlt,(),rfl,trivial,?_⟩;rw[hm,<-Y4];exact hs
  .rw[BC hj]at hs
   refine zh ?_;(repeat clear U K);repeat intro K U
   refine⟨by omega,(),rfl,trivial,hs⟩
 .rw[hd]at hlt
  refine zh ?_;(repeat clear U K);repeat intro K U
  have:k=c - 2:=by omega
  subst this;exact Gi hs 0 rfl rfl
def WG {w:AF} (h:FO (.a (A9 w))):w.parents.length<=Ae/\(∀l∈w.parents,l.length<=Ae)/\w.owner.length<=Ae:=by
 simp only[A9,Jq,Es,E4,Jx,Ca]at h;exact⟨h.1.1,fun l hl=>(h.1.2 l hl).1.1,h.2.1.1⟩
def Sl {xs:List Int} {g:Bool} (h:FO (.l (iL xs) g)):xs.length<=Ae:=by
 simp only[E4,Ca]at h;exact h.1
def Oc {f:Fact} (h:FO (.a (xF f))):f.kids.length<=Ae/\f.path.length<=Ae/\ ∀k∈f.kids,FO (.a (xF k)):=by
 simp only[Jq,Es,E4,Jx,Ca]at h;exact⟨h.2.2.2.2.2.1.1,h.2.2.1.1,fun k hk=>by have:=h.2.2.2.2.2.1.2 k hk;rw[Bn]at this;exact this⟩
def P3 (w:AF) (c:Int):Bool:=decide (0<=c)&&decide (c<3+w.parents.length)
def mw (w:AF) (c:Int):Pure zP 219 [.a (A9 w),eI c] (.b (P3 w c)):=by
 refine Pure.fit (by kernel_rfl) fun hf=>?_
 have⟨h1,h2,h3⟩:=WG hf.1;have hM:=Mx;refine xe kZ ?_
 conv=>whnf
 repeat'((first|clear U K|apply st|(apply zk;intro K U)|refine zn ?_|refine za (fun hc=>?_) fun hc=>?_|fail)<;>conv=>whnf)
 .exact AG (by rw[Ca,wrap64 (by omega) (by omega)];simp[P3,hc])
 .exact AG (by simp[P3,hc];intros;omega)
def Hy (w:AF) (s:Int):Bool:=decide (0<=s)&&decide (s<w.owner.length)
def Eo (w:AF) (p:List Int):Bool:=p.all (Hy w)&&decide (p.length<=2)
def pC (w:AF) (p:List Int) (g:Bool):Pure zP 220 [.a (A9 w),.l (iL p) g] (.b (Eo w p)):=by
 refine Pure.fit (by kernel_rfl) fun hf=>?_
 have⟨h1,h2,h3⟩:=WG hf.1;have h4:=Sl hf.2.1;have hM:=Mx;refine xd kZ ?_;refine zu ?_;(repeat clear U K);repeat intro K U
 refine CZ p.length (fun k (_:Unit)=>[(9,eI (BL k))]) (fun _ _=>[]) (fun k _=>p.all (Hy w)=(p.drop k).all (Hy w)) () rfl rfl Sat.nil ?_;rintro k - Z hk hn hs
 conv=>whnf
 repeat'((first|clear U K|apply st|(apply zk;intro K U)|refine zn ?_|(refine fc (fun x hx hlt hc=>?_) (fun hk hc=>?_)<;>(try rw[hc])<;>clear hc)|(refine zd (fun hc=>?_) (fun hc=>?_)<;>try exact⟨⟩)|fail)<;>conv=>whnf)
 .exact AG (by rw[Eo,hn,drop_cons hx];simp[Hy,hc];intros;omega)
 .exact⟨hlt,(),rfl,by rw[hn,drop_cons hx];simp[Hy, *],hs⟩
 .exact AG (by rw[Eo,hn,drop_cons hx];simp[Hy,hc];intros;omega)
 .exact AG (by rw[Eo,hn,Ao hk];simp;omega)
def Bl (f:Fact):Bool:=f.op==2||f.op==3||f.op==4
def bS (f:Fact):Pure zP 221 [.a (xF f)] (.b (Bl f)):=by
 refine xc kZ ?_
 conv=>whnf
 repeat'((first|clear U K|apply st|(apply zk;intro K U)|refine zn ?_|refine za (fun hc=>?_) fun hc=>?_|fail)<;>conv=>whnf)
 all_goals exact AG (by simp[Bl, *])
def Dm:List (Int->Int)->Int->Int->Int
 | [],n,_=>n
 | k::r,n,most=>if n<=most then Dm r (n+k (most - n)) most else n
def Cg (f:Fact):Int->Int:=f.HU fun _ l most=>Dm l 1 most
def IT (f:Fact) (most:Int):Cg f most=Dm (f.kids.map Cg) 1 most:=by
 rw[Cg,Fact.DT];rfl
def RX {most:Int}: ∀(l:List (Int->Int)) (n:Int),(∀g∈l,∀m,0<=m->1<=g m/\g m<=m+1)->1<=n->n<=most+1->1<=Dm l n most/\Dm l n most<=most+1
 | [],n,_,h1,h2=>⟨h1,h2⟩
 | g ::r,n,h,h1,h2=>by
   rw[Dm];split
   .have:=h g (List.mem_cons_self ..) (most - n) (by omega)
    exact RX r _ (fun g hg=>h g (List.mem_cons_of_mem _ hg)) (by omega) (by omega)
   .exact⟨h1,h2⟩
def Lb (f:Fact): ∀m,0<=m->1<=Cg f m/\Cg f m<=m+1:=by
 induction f using Fact.ind with
 | h f ih=>
   intro m hm;rw[IT];refine RX _ _ (fun g hg=>?_) (by omega) (by omega);obtain⟨k,hk,rfl⟩:=Hp.1 hg;exact ih k hk
def l6 (f:Fact): ∀most:Int,0<=most->most<=1000->Pure zP 88 [.a (xF f),eI most] (eI (Cg f most)):=by
 induction f using Fact.ind with
 | h f ih=>
   intro most h0 h1;refine Pure.fit (by kernel_rfl) fun hf=>?_
   have⟨h2,h3,h4⟩:=Oc hf.1;have hM:=Mx;refine ABE kZ ?_;refine zu ?_;(repeat clear U K);repeat intro K U
   refine CZ f.kids.length (fun k (n:Int)=>[(5,eI n),(6,eI (BL k))]) (fun _ _=>[]) (fun k n=>1<=n/\n<=most+1/\Cg f most=Dm ((f.kids.drop k).map Cg) n most) 1 rfl ⟨by omega,by omega,by rw[List.drop_zero];exact IT f most⟩ Sat.nil ?_;rintro k n Z hk ⟨hn1,hn2,hn⟩ hs
   conv=>whnf
   repeat'((first|clear U K|apply st|(apply zk;intro K U)|refine zn ?_|(refine fc (fun x hx hlt hc=>?_) (fun hk hc=>?_)<;>(try rw[hc])<;>clear hc)|refine za (fun hc=>?_) fun hc=>?_|fail)<;>conv=>whnf)
   .rw[wrap64 (by omega) (by omega)]
    have hb:=Lb x (most - n) (by omega);refine(ih x (CY hx) (most - n) (by omega) (by omega)).use ?_;refine zu ?_;(repeat clear U K);repeat intro K U
    rw[wrap64 (by omega) (by omega)];exact⟨hlt,_,rfl,⟨by omega,by omega,by rw[hn,drop_cons hx,EW,Dm,if_pos hc]⟩,hs⟩
   .exact AG (by rw[hn,drop_cons hx,EW,Dm,if_neg (by omega)])
   .exact AG (by rw[hn,Ao hk];rfl)
def l7 (f:Fact):Pure zP 29 [.a (xF f)] (eI (Cg f 24)):=by
 refine ABW kZ ?_;refine zu ?_;(repeat clear U K);repeat intro K U
 refine(l6 f 24 (by omega) (by omega)).use ?_;exact zW
def NN (f:Fact):Nat:=f.HU fun _ l=>1+l.sum
def LK (f:Fact):NN f=1+(f.kids.map NN).sum:=Fact.DT _ f
def cF {f k:Fact} (h:k∈f.kids):NN k<NN f:=by
 have: ∀l:List Fact,k∈l->NN k<=(l.map NN).sum:=fun l=>by
  induction l with
  | nil=>intro h;cases h
  | cons x r ih=>
    intro h;simp only[EW,List.sum_cons];rcases Fl.1 h with rfl|h
    .omega
    .have:=ih h;omega
 have:=this _ h;rw[LK f];omega
def RU {most:Int}: ∀(l:List Fact) (n:Int),(∀k∈l,∀m,0<=m->Cg k m<=m->Cg k m=NN k)->0<=n->Dm (l.map Cg) n most<=most->Dm (l.map Cg) n most=n+(l.map NN).sum
 | [],n,_,_,_=>by simp[Dm]
 | k :: r, n,h,h0,h1=>by
   simp only[EW,Dm]at *;split at h1
   .rename_i hc
    rw[if_pos hc];have hb:=Lb k (most - n) (by omega)
    have hge: ∀(l:List Fact) (a:Int),a<=Dm (l.map Cg) a most:=fun l=>by
     induction l with
     | nil=>intro a;exact Int.le_refl _
     | cons y l ih=>
       intro a;simp only[EW,Dm];split
       .have:=Lb y (most - a) (by omega)
        have:=ih (a+Cg y (most - a));omega
       .exact Int.le_refl _
    have h2:=hge r (n+Cg k (most - n));have h3:=h k (List.mem_cons_self ..) (most - n) (by omega) (by omega);have h4:=RU r (n+Cg k (most - n)) (fun k' hk'=>h k' (List.mem_cons_of_mem _ hk')) (by omega) h1;simp only[List.sum_cons];omega
   .rename_i hc
    omega
def La (f:Fact): ∀m,0<=m->Cg f m<=m->Cg f m=NN f:=by
 induction f using Fact.ind with
 | h f ih=>
   intro m h0 h1;rw[IT]at *;rw[RU f.kids 1 ih (by omega) h1,LK];omega
def Ht (a b:Int):Int:=if a<b then b else a
def EP (f:Fact):Int:=f.HU fun _ l=>l.foldl Ht 0+1
def GU (f:Fact):EP f=(f.kids.map EP).foldl Ht 0+1:=Fact.DT _ f
def K5 {m:Int}: ∀(l:List Int) (a:Int),(∀x∈l,x<=m)->a<=m->l.foldl Ht a<=m
 | [],_,_,h=>h
 | x::r,a,h,h'=>by
   refine K5 r _ (fun y hy=>h y (List.mem_cons_of_mem _ hy)) ?_;have:=h x (List.mem_cons_self ..);unfold Ht;split<;>omega
def Fk: ∀(l:List Int) (a:Int),a<=l.foldl Ht a
 | [],_=>Int.le_refl _
 | x::r,a=>by
   refine Int.le_trans ?_ (Fk r _);unfold Ht;split<;>omega
def Zt (f:Fact):1<=EP f/\EP f<=NN f:=by
 induction f using Fact.ind with
 | h f ih=>
   rw[GU];have h1:=Fk (f.kids.map EP) 0
   have h2:(f.kids.map EP).foldl Ht 0<=(NN f:Int) - 1:=by
    refine K5 _ _ (fun x hx=>?_) (by have:=LK f;omega);obtain⟨k,hk,rfl⟩:=Hp.1 hx;have:=(ih k hk).2;have:=cF hk;omega
   omega
def Ei {α:Type} {xs:List α} {k:Nat} {x:α} {β:Type} (g:α->β) (h:β->β->β) (a:β) (hx:xs[k]? =some x):((xs.take (k+1)).map g).foldl h a=h (((xs.take k).map g).foldl h a) (g x):=by
 rw[AU hx,VV,List.foldl_append];rfl
def mj (f:Fact):NN f<=Ae->Pure zP 148 [.a (xF f)] (eI (EP f)):=by
 induction f using Fact.ind with
 | h f ih=>
   intro hc;refine Pure.fit (by kernel_rfl) fun hf=>?_
   have⟨h2,h3,h4⟩:=Oc hf.1;have hM:=Mx;refine yX kZ ?_;refine zu ?_;(repeat clear U K);repeat intro K U
   refine CZ f.kids.length (fun k (_:Unit)=>[(3,eI (((f.kids.take k).map EP).foldl Ht 0)),(9,eI (BL k))]) (fun _ _=>[]) (fun _ _=>True) () rfl trivial Sat.nil ?_;rintro k - Z hk - hs
   conv=>whnf
   repeat'((first|clear U K|apply st|(apply zk;intro K U)|refine zn ?_|refine zr fun Z hs=>?_|(refine fc (fun x hx hlt hc=>?_) (fun hk hc=>?_)<;>(try rw[hc])<;>clear hc)|refine zp fun nn hnn Z hs=>?_|fail)<;>conv=>whnf)
   .refine(ih x (CY hx) (by have:=cF (CY hx);omega)).use ?_
    refine zu ?_;(repeat clear U K);repeat intro K U
    exact⟨hlt,(),by rw[Ei _ _ _ hx];rfl,trivial,Sat.nil⟩
   .have:=Zt f
    rw[GU]at this;exact AG (by rw[BC hk,wrap64 (by omega) (by omega),<-GU])
def DE (f:Fact):Int:=f.HU fun f l=>l.foldl Ht (if Bl f then f.arg+1 else 0)
def ED (f:Fact):DE f=(f.kids.map DE).foldl Ht (if Bl f then f.arg+1 else 0):=Fact.DT _ f
def QI (f:Fact):Bool:=f.HU fun f l=>decide (0<=f.arg)&&decide (f.arg<3)&&l.all id
def My (f:Fact):QI f=(decide (0<=f.arg)&&decide (f.arg<3)&&(f.kids.map QI).all id):=Fact.DT _ f
def lP (f:Fact):QI f=true->Pure zP 156 [.a (xF f)] (eI (DE f)):=by
 induction f using Fact.ind with
 | h f ih=>
   intro ha;refine Pure.fit (by kernel_rfl) fun hf=>?_
   have⟨h2,h3,h4⟩:=Oc hf.1;have hM:=Mx;rw[My]at ha;simp only[A0,CC,List.all_map,DJ]at ha;refine yS kZ ?_;refine zu ?_;(repeat clear U K);repeat intro K U
   refine(bS f).use ?_
   conv=>whnf
   repeat'((first|clear U K|apply st|(apply zk;intro K U)|refine zn ?_|refine za (fun hc=>?_) fun hc=>?_|fail)<;>conv=>whnf)
   .refine CZ f.kids.length (fun k (_:Unit)=>[(3,eI (((f.kids.take k).map DE).foldl Ht (if Bl f then f.arg+1 else 0))),(14,eI (BL k))]) (fun _ _=>[]) (fun _ _=>True) () (by rw[wrap64 (by omega) (by omega),if_pos hc];rfl) trivial Sat.nil ?_
    rintro k - Z hk - hs
    conv=>whnf
    repeat'((first|clear U K|apply st|(apply zk;intro K U)|refine zn ?_|refine zr fun Z hs=>?_|(refine fc (fun x hx hlt hc=>?_) (fun hk hc=>?_)<;>(try rw[hc])<;>clear hc)|refine zp fun nn hnn Z hs=>?_|fail)<;>conv=>whnf)
    .refine(ih x (CY hx) (ha.2 x (CY hx))).use ?_
     refine zu ?_;(repeat clear U K);repeat intro K U
     exact⟨hlt,(),by rw[Ei _ _ _ hx];rfl,trivial,Sat.nil⟩
    .exact AG (by rw[BC hk,<-ED])
   .refine CZ f.kids.length (fun k (_:Unit)=>[(3,eI (((f.kids.take k).map DE).foldl Ht (if Bl f then f.arg+1 else 0))),(14,eI (BL k))]) (fun _ _=>[]) (fun _ _=>True) () (by rw[if_neg (c:=Bl f=true) (by simp[hc])];rfl) trivial Sat.nil ?_
    rintro k - Z hk - hs
    conv=>whnf
    repeat'((first|clear U K|apply st|(apply zk;intro K U)|refine zn ?_|refine zr fun Z hs=>?_|(refine fc (fun x hx hlt hc=>?_) (fun hk hc=>?_)<;>(try rw[hc])<;>clear hc)|refine zp fun nn hnn Z hs=>?_|fail)<;>conv=>whnf)
    .refine(ih x (CY hx) (ha.2 x (CY hx))).use ?_
     refine zu ?_;(repeat clear U K);repeat intro K U
     exact⟨hlt,(),by rw[Ei _ _ _ hx];rfl,trivial,Sat.nil⟩
    .exact AG (by rw[BC hk,<-ED])
def CE (op:Int):Nat:=if op=5 then 1 else if op=6\/op=7 then 2 else 0
def VY (w:AF) (f:Fact):Bool:=
 if f.op=2 then f.n==0&&P3 w f.cls else if f.op=3\/f.op=4 then f.cls==0&&(decide (-1000000000<=f.n)&&decide (f.n<=1000000000))else f.op==1||f.op==5||f.op==6||f.op==7
def C8 (w:AF) (f:Fact):Bool:=
 VY w f&&(f.kids.length==CE f.op&&(decide (0<=f.arg)&&(decide (f.arg<3)&&(Eo w f.path&&(Bl f||(f.arg==0&&(f.path.length==0&&(f.cls==0&&f.n==0))))))))
def BN (w:AF) (f:Fact):Bool:=f.HU fun f l=>C8 w f&&l.all id
def By (w:AF) (f:Fact):BN w f=(C8 w f&&f.kids.all (BN w)):=by rw[BN,Fact.DT,List.all_map];rfl
def Qm {w:AF} {f:Fact} (h:C8 w f=false):BN w f=false:=by rw[By,h,Bool.false_and]
def ABc {f:Fact} (h1:Bl f=false) (h2:f.arg=0) (h3:(f.path.length:Int) > 0):true= !(Bl f||(f.arg==0&&(f.path.length==0&&(f.cls==0&&f.n==0)))):=by
 have:(f.path.length==0)=false:=by simp;intro e;rw[e]at h3;simp at h3
 rw[this,h1,h2];rfl
def pV (w : AF) (f:Fact):Pure zP 149 [.a (A9 w),.a (xF f)] (.b (BN w f)):=by
 induction f using Fact.ind with
 | h f ih=>
   refine Pure.fit (by kernel_rfl) fun hf=>?_
   have⟨h2,h3,h4⟩:=Oc hf.2.1;have⟨w1,w2,w3⟩:=WG hf.1;have hM:=Mx;refine yW kZ ?_
   conv=>whnf
   repeat'((first|apply st|(apply sq;intro K U)|(apply si;intro A B hA hB)|(refine hA _ _ ?_;clear hB B hA A)|(apply U;clear U K)|refine⟨rfl,?_⟩|fail)<;>conv=>whnf)
   have hJ :=Sk U (fun(_:Unit)=>[(5,eI (CE f.op))]) (fun _=>[]) (fun _=>VY w f=true) [(2,.rp (A9 w)),(3,.rp (xF f)),(5,eI 0)] (by
    clear U;rintro - Z ho -
    conv=>whnf
    repeat'((first|apply st|(apply sq;intro K U)|(apply si;intro A B hA hB)|refine⟨rfl,?_⟩|fail)<;>conv=>whnf)
    have hJ :=Sk U (fun(b:Bool)=>[(66,.b b)]) (fun _=>[]) (fun b=>b= !(f.kids.length==CE f.op&&(decide (0<=f.arg)&&(decide (f.arg<3)&&Eo w f.path)))) [(2,.rp (A9 w)),(3,.rp (xF f)),(66,.b false)] (by
     clear U;rintro b Z hb -
     conv=>whnf
     repeat'((first|apply st|fail)<;>conv=>whnf)
     have hJ :=Sk U (fun(_:Unit)=>[]) (fun _=>[]) (fun _=>b=false) [(2,.rp (A9 w)),(3,.rp (xF f))] (by
      clear U;rintro - Z hb' -;rw[hb']at hb
      conv=>whnf
      repeat'((first|apply st|(apply sq;intro K U)|(apply si;intro A B hA hB)|refine⟨kZ,?_⟩|refine Pure.use (bS _) ?_|fail)<;>conv=>whnf)
      have hJ:=Sk U (fun(b:Bool)=>[(90,.b b)]) (fun _=>[]) (fun b=>b= !(Bl f||(f.arg==0&&(f.path.length==0&&(f.cls==0&&f.n==0))))) [(2,.rp (A9 w)),(3,.rp (xF f)),(90,.b false)] (by
       clear U;rintro b Z hb2 -
       conv=>whnf
       repeat'((first|apply st|fail)<;>conv=>whnf)
       have hJ:=Sk U (fun(_:Unit)=>[]) (fun _=>[]) (fun _=>b=false) [(2,.rp (A9 w)),(3,.rp (xF f))] (by
        clear U;rintro - Z hb' -;rw[hb']at hb2
        have hh:C8 w f=true:=by
         have hb:(f.kids.length==CE f.op&&(decide (0<=f.arg)&&(decide (f.arg<3)&&Eo w f.path)))=true:=by rw[<-Bool.not_eq_false',<-hb]
         have hb2:(Bl f||(f.arg==0&&(f.path.length==0&&(f.cls==0&&f.n==0))))=true:=by rw[<-Bool.not_eq_false',<-hb2]
         simp only[A0]at hb;simp only[C8,ho,hb.1,hb.2,hb2,Bool.and_self]
        conv=>whnf
        repeat'((first|apply st|(apply sq;intro K U)|(apply si;intro A B hA hB)|(refine hA _ _ ?_;clear hB B hA A)|(apply U;clear U K)|fail)<;>conv=>whnf)
        refine CZ f.kids.length (fun k (_:Unit)=>[(94,eI (BL k))]) (fun _ _=>[]) (fun k _=>BN w f=(f.kids.drop k).all (BN w)) () rfl (by rw[By,hh];rfl) Sat.nil ?_;rintro k - Z hk hn hs
        conv=>whnf
        repeat'((first|apply st|(apply sq;intro K U)|(apply si;intro A B hA hB)|(refine hA _ _ ?_;clear hB B hA A)|(apply U;clear U K)|refine⟨rfl,?_⟩|refine⟨kZ,?_⟩|refine ixF ?_|refine ld ?_|refine sn fun Z hs=>?_|(refine fc (fun x hx hlt hc=>?_) (fun hk hc=>?_)<;>(try rw[hc])<;>clear hc)|(intro nn hnn;generalize hg:B5 _ nn _=Z;refine al hg fun hs=>?_;clear hg)|clear U K)<;>conv=>whnf)
        .have hxm:=CY hx
         refine(ih x hxm).use ?_
         conv=>whnf
         repeat'((first|apply st|(apply sq;intro K U)|(apply si;intro A B hA hB)|(refine hA _ _ ?_;clear hB B hA A)|(apply U;clear U K)|refine⟨rfl,?_⟩|(constructor<;>intro hc<;>(try rw[hc])<;>(replace hc:=bp hc))|clear U K)<;>conv=>whnf)
         .exact AG (by rw[hn,drop_cons hx];simp[hc])
         .exact⟨hlt,(),rfl,by rw[hn,drop_cons hx];simp[hc],Sat.nil⟩
        .exact AG (by rw[hn,Ao hk];rfl))
       clear U
       conv=>whnf
       repeat'((first|apply st|(apply sq;intro K U)|(apply si;intro A B hA hB)|(refine hA _ _ ?_;clear hB B hA A)|(apply U;clear U K)|(constructor<;>intro hc<;>(try rw[hc])<;>(replace hc:=bp hc))|fail)<;>conv=>whnf)
       .have hx:(Bl f||(f.arg==0&&(f.path.length==0&&(f.cls==0&&f.n==0))))=false:=by rw[<-Bool.not_eq_true',<-hb2,hc]
        exact AG (by rw[Qm];simp only[C8,hx,Bool.and_false])
       .exact hJ () _ _ rfl hc Sat.nil)
      clear U;clear hb
      conv=>whnf
      repeat'((first|apply st|(refine hA _ _ ?_;clear hB B hA A)|refine⟨rfl,?_⟩|(constructor<;>intro hc<;>(try rw[hc])<;>(replace hc:=bp hc)<;>(try simp(disch:=omega) only[Ca,wrap64,Ag]at hc))|fail)<;>conv=>whnf)
      .have hp:f.path.length=0:=by omega
       exact hJ _ _ _ rfl (by rw[hp];simp[*,bne]) Sat.nil
      .exact hJ true _ _ rfl (by simp[*]) Sat.nil
      .exact hJ true _ _ rfl (ABc (by assumption) (by assumption) hc) Sat.nil
      .exact hJ true _ _ rfl (by simp[*]) Sat.nil
      .exact hJ false _ _ rfl (by simp[*]) Sat.nil)
     clear U
     conv=>whnf
     repeat'((first|apply st|(apply sq;intro K U)|(apply si;intro A B hA hB)|(refine hA _ _ ?_;clear hB B hA A)|(apply U;clear U K)|(constructor<;>intro hc<;>(try rw[hc])<;>(replace hc:=bp hc))|fail)<;>conv=>whnf)
     .have hx:(f.kids.length==CE f.op&&(decide (0<=f.arg)&&(decide (f.arg<3)&&Eo w f.path)))=false:=by rw[<-Bool.not_eq_true',<-hb,hc]
      exact AG (by rw[Qm];simp only[C8];simp only[Bool.and_eq_false_iff]at hx ⊢;rcases hx with h|h|h|h<;>simp[h])
     .exact hJ () _ _ rfl hc Sat.nil)
    clear U
    conv=>whnf
    repeat'((first|apply st|(refine hA _ _ ?_;clear hB B hA A)|refine⟨rfl,?_⟩|refine⟨kZ,?_⟩|refine Pure.use (pC _ _ _) ?_|(constructor<;>intro hc<;>(try rw[hc])<;>(replace hc:=bp hc)<;>(try simp(disch:=omega) only[Ca,wrap64,Ag]at hc))|fail)<;>conv=>whnf)
    all_goals exact hJ _ _ _ rfl (by simp[*]<;>omega) Sat.nil)
   clear U
   conv=>whnf
   repeat'((first|apply st|(apply sq;intro K U)|(apply si;intro A B hA hB)|(refine hA _ _ ?_;clear hB B hA A)|(apply U;clear U K)|refine⟨rfl,?_⟩|refine⟨kZ,?_⟩|refine Pure.use (mw _ _) ?_|(constructor<;>intro hc<;>(try rw[hc])<;>(replace hc:=bp hc))|fail)<;>conv=>whnf)
   all_goals first
    | exact AG (by rw[Qm];simp only[C8,VY];simp[*]<;>omega)
    | exact hJ () _ _ (by simp[CE, *];rfl) (by simp[VY, *]<;>omega) Sat.nil
def UH (n:Int):Bool:=decide (-1000000000<=n)&&decide (n<=1000000000)
def sH (n:Int):Pure zP 235 [eI n] (.b (UH n)):=by
 refine xT kZ ?_
 conv=>whnf
 repeat'((first|clear U K|apply st|(apply zk;intro K U)|refine zn ?_|refine za (fun hc=>?_) fun hc=>?_|fail)<;>conv=>whnf)
 all_goals exact AG (by simp[UH, *]<;>omega)
def Ks (k:Int):Bool:=k==1||k==4
def uS (k:Int):Pure zP 158 [eI k] (.b (Ks k)):=by
 refine yR kZ ?_
 conv=>whnf
 repeat'((first|clear U K|apply st|(apply zk;intro K U)|refine zn ?_|refine za (fun hc=>?_) fun hc=>?_|fail)<;>conv=>whnf)
 all_goals exact AG (by simp[Ks, *])
def G7 {p:Prog} (h:FO (.a (BR p))):p.AO.length<=Ae/\p.Cb.length<=Ae/\p.methods.length<=Ae/\p.nodes.length<=Ae:=by
 simp only[BR,Jq,Es,E4,Ca]at h;exact⟨h.1.1,h.2.2.1.1,h.2.2.2.1.1,h.2.2.2.2.1.1⟩
def Ji (p:Prog) (x:Node):Int:=
 if x.op=1\/x.op=2\/x.op=3\/x.op=6\/x.op=18 then 0 else
 if x.op=4\/x.op=8\/x.op=17 then 1 else
 if x.op=7\/x.op=9\/x.op=11\/x.op=12\/x.op=13\/x.op=14\/x.op=15\/x.op=16 then 2 else
 if x.op=10 then 3 else
 if x.op=5/\0<=x.n/\x.n<p.Cb.length then p.Cb.getD x.n.toNat 0 else -1
def pz (p:Prog) (x:Node):Pure zP 236 [.a (BR p),.a (Jk x)] (eI (Ji p x)):=by
 refine Pure.fit (by kernel_rfl) fun hf=>?_
 have⟨p1,p2,p3,p4⟩:=G7 hf.1;have hM:=Mx;refine xS kZ ?_
 conv=>whnf
 repeat'((first|clear U K|apply st|(apply zk;intro K U)|refine zn ?_|refine ze fun x hx=>?_|(refine zd (fun hc=>?_) (fun hc=>?_)<;>try exact⟨⟩)|fail)<;>conv=>whnf)
 all_goals first
  | (refine AG ?_;simp[Ji, *];done)
  | (refine AG ?_;simp[Ji, *];intros;omega)
  | (have hd:=(JT.1 hx).2;refine AG ?_;simp[Ji, *];done)
def NU (p:Prog) (x:Node) (size:Int):Bool:=
 if x.op=1 then UH x.n else if x.op=3 then decide (0<=x.n)&&decide (x.n<size)else if x.op=4\/x.op=7 then decide (0<=x.n)&&decide (x.n<p.AH)else
 if x.op=5 then decide (0<=x.n)&&decide (x.n<p.Cb.length)else if x.op=6\/x.op=8 then decide (3<=x.n)&&decide (x.n<3+p.AO.length)else x.n==0
def eK (p:Prog) (x:Node) (size:Int):Pure zP 237 [.a (BR p),.a (Jk x),eI size] (.b (NU p x size)):=by
 refine Pure.fit (by kernel_rfl) fun hf=>?_
 have⟨p1,p2,p3,p4⟩:=G7 hf.1;have hM:=Mx;refine xR kZ ?_
 conv=>whnf
 repeat'((first|clear U K|apply st|(apply zk;intro K U)|refine zn ?_|refine Pure.use (sH _) ?_|refine za (fun hc=>?_) fun hc=>?_|fail)<;>conv=>whnf)
 all_goals first
  | (refine AG ?_;simp[NU, *];done)
  | (refine AG ?_;rw[Ca,wrap64 (by omega) (by omega)];simp[NU, *];done)
  | (refine AG ?_;simp[NU, *];intros;omega)
def G0 (ps:List (List Int)) (a b:Int):Bool:=a==b||(b==0||(decide (3<=a)&&GC ps a.toNat b.toNat))
def nC (w:AF) (a b:Int) (hl:w.parents.length<=1000) (ho:ordered w.parents) (ha:0<=a) (ha':a<3+w.parents.length) (hb:0<=b) (hb':b<3+w.parents.length):Pure zP 298 [.a (A9 w),eI a,eI b] (.b (G0 w.parents a b)):=by
 refine Pure.fit (by kernel_rfl) fun hf=>?_
 have⟨w1,w2,w3⟩:=WG hf.1;have hM:=Mx;refine wQ kZ ?_
 conv=>whnf
 repeat'((first|clear U K|apply st|(apply zk;intro K U)|refine zn ?_|refine za (fun hc=>?_) fun hc=>?_|fail)<;>conv=>whnf)
 .exact AG (by simp[G0,hc])
 .exact AG (by simp[G0, *];omega)
 .have hc':0<=a:=ha
  obtain⟨a,rfl⟩: ∃n:Nat,a=n:=⟨a.toNat,by omega⟩
  refine(AAQ w a ⟨hl,w2,w3⟩ ho (by omega)).use ?_;have hul:=MD w.parents (3+w.parents.length) a (a - 2)
  conv=>whnf
  repeat'((first|clear U K|apply st|(apply zk;intro K U)|refine ze fun x hx=>?_|fail)<;>conv=>whnf)
  refine AG ?_;have hu:=aZ ho (n:=3+w.parents.length) (c:=a) (by omega) b.toNat;rw[C6,hx]at hu;simp at hu;have e1:((a:Int)==b)=false:=by simpa using ‹(a:Int)≠b›
  have e2:(b==0)=false:=by simpa using ‹b≠0›
  simp[G0,e1,e2,hc,hu]
 .exact AG (by simp[G0,hc])
structure GP (w:AF):Prop where
 len:w.parents.length<=60
 ord:ordered w.parents
 own: ∀c∈w.owner,(3:Int)<=c/\c<3+w.parents.length
 tE:w.owner.length<=40
def Bc (w:AF) (s:Int):Int:=w.owner.getD s.toNat 0
def hasB (w:AF) (c s:Int):Bool:=decide (3<=c)&&G0 w.parents c (Bc w s)
def jd (w:AF) (c s:Int) (hw:GP w) (hc0:0<=c) (hc1:c<3+w.parents.length) (hs0:0<=s) (hs1:s<w.owner.length):Pure zP 234 [.a (A9 w),eI c,eI s] (.b (hasB w c s)):=by
 refine Pure.fit (by kernel_rfl) fun hf=>?_
 have⟨w1,w2,w3⟩:=WG hf.1;have hM:=Mx;have hl:=hw.len;refine xU kZ ?_
 conv=>whnf
 repeat'((first|clear U K|apply st|(apply zk;intro K U)|refine zn ?_|refine ze fun x hx=>?_|refine za (fun hc=>?_) fun hc=>?_|fail)<;>conv=>whnf)
 .have:=hw.own x (CY hx)
  refine(nC w c x (by omega) hw.ord hc0 hc1 (by omega) (by omega)).use ?_;refine zu ?_;(repeat clear U K);repeat intro K U
  exact AG (by simp[hasB,Bc,hx,hc])
 .exact AG (by simp[hasB];omega)
def qE (xs:List Int) (f:Bool) (x:Int):Pure zP 296 [.l (iL xs) f,eI x] (.b (xs.contains x)):=Pure.fit (by kernel_rfl) fun hf=>jc xs f x (Sl hf.1)
def Ct (w:AF) (f:Fact):Bool:=decide (Cg f 24<=24)&&(decide (EP f<=12)&&BN w f)
def mW (w:AF) (f:Fact):Pure zP 86 [.a (A9 w),.a (xF f)] (.b (Ct w f)):=by
 refine ABG kZ ?_
 conv=>whnf
 repeat'((first|clear U K|apply st|(apply zk;intro K U)|refine zn ?_|refine Pure.use (l7 _) ?_|refine za (fun hc=>?_) fun hc=>?_|fail)<;>conv=>whnf)
 .have:=La f 24 (by omega) hc
  refine(mj f (by simp only[Ae];omega)).use ?_
  conv=>whnf
  repeat'((first|clear U K|apply st|refine zn ?_|refine Pure.use (pV _ _) ?_|refine za (fun hc=>?_) fun hc=>?_|fail)<;>conv=>whnf)
  .exact AG (by simp[Ct,hc,‹Cg f 24<=24›])
  .exact AG (by simp[Ct, *];intros;omega)
 .exact AG (by simp[Ct];intros;omega)
def sr (i:Nat) (pre:List Int) (c:Int):Bool:=decide (3<=c)&&(decide (c<3+i)&& !pre.contains c)
def NX (i:Nat):List Int->List Int->Bool
 | _,[]=>true
 | pre,c::r=>sr i pre c&&NX i (pre++[c]) r
def I7:Nat->List (List Int)->Bool
 | _,[]=>true
 | i,l::r=>decide (l.length<=3)&&(NX i [] l&&I7 (i+1) r)
def Dy (g:List (List Int)):Bool:=decide (g.length<=16)&&I7 0 g
def Yu {ls:List (List Int)} {g:Bool} (h:FO (.l (En ls) g)):ls.length<=Ae/\ ∀l∈ls,l.length<=Ae:=by
 simp only[E4,Ca,Jx,Es]at h;exact⟨h.1,fun l hl=>(h.2 l hl).1.1⟩
def qM (g:List (List Int)) (f:Bool):Pure zP 232 [.l (En g) f] (.b (Dy g)):=by
 refine Pure.fit (by kernel_rfl) fun hf=>?_
 have⟨g1,g2⟩:=Yu hf.1;have hM:=Mx;refine xW kZ ?_
 conv=>whnf
 repeat'((first|clear U K|apply st|(apply zk;intro K U)|refine zn ?_|(refine zd (fun hc=>?_) (fun hc=>?_)<;>try exact⟨⟩)|fail)<;>conv=>whnf)
 .exact AG (by simp[Dy];intros;omega)
 .refine CZ g.length (fun k (_:Unit)=>[(3,eI (BL k))]) (fun _ _=>[]) (fun k _=>Dy g=I7 k (g.drop k)) () rfl (by simp[Dy];omega) Sat.nil ?_
  rintro k - Z hk hn hs
  conv=>whnf
  repeat'((first|clear U K|apply st|(apply zk;intro K U)|refine zn ?_|(refine fc (fun x hx hlt hc=>?_) (fun hk hc=>?_)<;>(try rw[hc])<;>clear hc)|(refine zd (fun hc=>?_) (fun hc=>?_)<;>try exact⟨⟩)|fail)<;>conv=>whnf)
  .exact AG (by rw[hn,drop_cons hx,I7];simp;intros;omega)
  .revert x
   rintro l hl hl3;have hll:=g2 l (CY hl);have hn':Dy g=(NX k [] l&&I7 (k+1) (g.drop (k+1))):=by rw[hn,drop_cons hl,I7];simp;intros;omega
   refine CZ l.length (fun j (_:Unit)=>[(4,eI (BL j))]) (fun _ _=>[]) (fun j _=>Dy g=(NX k (l.take j) (l.drop j)&&I7 (k+1) (g.drop (k+1)))) () rfl (by rw[hn'];rfl) Sat.nil ?_;rintro j - Z hj hm hs
   conv=>whnf
   repeat'((first|clear U K|apply st|(apply zk;intro K U)|refine zn ?_|(refine fc (fun x hx hlt hc=>?_) (fun hk hc=>?_)<;>(try rw[hc])<;>clear hc)|refine Pure.use (qE _ _ _) ?_|(refine zd (fun hc=>?_) (fun hc=>?_)<;>try exact⟨⟩)|fail)<;>conv=>whnf)
   .exact AG (by rw[hm,drop_cons hx,NX,sr,hc];simp)
   .refine⟨hlt,(),rfl,?_,Sat.nil⟩
    rw[hm,drop_cons hx,NX,sr,hc,AU hx];simp[*]
   .exact AG (by rw[hm,drop_cons hx,NX,sr];simp;intros;omega)
   .exact AG (by rw[hm,drop_cons hx,NX,sr];simp;intros;omega)
   .refine⟨by assumption,(),rfl,?_,Sat.nil⟩
    rw[hm,Ao hk,NX,Cm]
  .exact AG (by rw[hn,Ao hk];rfl)
def Lu:Int->List Int->Bool
 | _,[]=>true
 | n,s::r=>s==n&&Lu (n+1) r
def Cv:Int->List R9->Bool
 | _,[]=>true
 | n,c::r=>decide (c.AH.length<=4)&&(decide (c.parents.length<=3)&&(Lu n c.AH&&Cv (n+c.AH.length) r))
def EN (w:AF) (c n:Int):List (Int×Int)->List (Int×Int)->Bool
 | _,[]=>true
 | pre,x::r=>decide (0<=x.1)&&(decide (x.1<n)&&(hasB w c x.1&&(UH x.2&&(pre.all (fun y=>y.1 != x.1)&&EN w c n (pre++[x]) r))))
def oH (g:List (List Int)) (c:Int):Bool:= !((CA g).getD c.toNat []).isEmpty
def GZ (w:AF) (n:Int):Nat->List R9->Bool
 | _,[]=>true
 | i,c::r=>oH w.parents ((i:Int)+3)&&(EN w ((i:Int)+3) n [] c.inits&&GZ w n (i+1) r)
def A7 (p:Prog):Bool:=decide (p.AO.length<=10)&&(Cv 0 p.AO&&((Br p.AO:Int)==p.AH&&(Dy (Az p)&&GZ (AK p) (Br p.AO) 0 p.AO)))
def AA5 {c:R9} (h:Ie (UF c)):c.parents.length<=Ae/\c.AH.length<=Ae/\c.inits.length<=Ae:=by
 simp only[UF,Es,E4,Ca]at h;exact⟨h.1.1,h.2.1.1,h.2.2.1.1⟩
def L6 {p:Prog} (h:FO (.a (BR p))):tR p:=by
 refine⟨(G7 h).1,fun c hc=>?_⟩;simp only[BR,Jq,Es,E4,Jx]at h;exact AA5 (h.1.2 c hc)
def mR (p:Prog) (hk0:p.AO.length<=1000):Pure zP 122 [.a (BR p)] (.l (En (Az p)) false):=Pure.fit (by kernel_rfl) fun hf=>bc p (L6 hf.1) hk0
def FT: ∀(cs:List R9) (n:Int),Cv n cs=true->Br cs<=4*cs.length/\ ∀c∈cs,c.parents.length<=3/\c.AH.length<=4
 | [],_,_=>⟨Ia _,fun _ h=>by cases h⟩
 | c::r,n,h=>by
   simp only[Cv,A0,CC]at h;have⟨h1,h2⟩:=FT r _ h.2.2.2;refine⟨by simp only[Br,EW,List.sum_cons,Lr]at *;omega,fun d hd=>?_⟩;rcases Fl.1 hd with rfl|hd
   .exact⟨h.2.1,h.1⟩
   .exact h2 d hd
def Tk {i:Nat}: ∀(r pre:List Int),NX i pre r=true->pre.Nodup->(pre++r).Nodup/\ ∀c∈r,(3:Int)<=c/\c<3+(i:Int)
 | [],pre,_,h=>⟨by simpa using h,fun _ h=>by cases h⟩
 | c::r,pre,h,hn=>by
   simp only[NX,sr,A0,CC,Bool.not_eq_true']at h;have hc:c∉pre:=by simpa using h.1.2.2
   obtain⟨h1,h2⟩:=Tk r (pre++[c]) h.2 (List.nodup_append.2 ⟨hn,by simp,fun a ha b hb=>by simp at hb;subst hb;exact fun e=>hc (e ▸ ha)⟩);refine⟨by simpa using h1,fun d hd=>?_⟩;rcases Fl.1 hd with rfl|hd
   .exact⟨h.1.1,h.1.2.1⟩
   .exact h2 d hd
def RM: ∀(g:List (List Int)) (k:Nat),I7 k g=true-> ∀(i:Nat) (l:List Int),g[i]? =some l->l.length<=3/\l.Nodup/\ ∀c∈l,(3:Int)<=c/\c<3+((k+i:Nat):Int)
 | [],_,_,_,_,h=>by cases h
 | l ::r,k,h,i,l',hi=>by
   simp only[I7,A0,CC]at h;cases i with
   | zero=>
     simp at hi;subst hi;obtain⟨h1,h2⟩:=Tk l [] h.2.1 .nil;exact⟨h.1,by simpa using h1,by simpa using h2⟩
   | succ i=>
     simp at hi;have:=RM r (k+1) h.2.2 i l' hi;rw[show k+(i+1)=k+1+i by omega];exact this
def D6 {g:List (List Int)} (h:Dy g=true):JD g:=by
 simp only[Dy,A0,CC]at h;refine⟨h.1,fun i l hi=>?_⟩;have:=RM g 0 h.2 i l hi;simpa using this
def KY {g:List (List Int)} (h:JD g):ordered g:=by
 intro c p hp;unfold par at hp;split at hp
 .cases hp
 .rename_i h3
  rw[C6]at hp;cases hq:g[c - 3]? with
  | none=>rw[hq]at hp;cases hp
  | some l=>
    rw[hq]at hp;have:=(h.2 _ _ hq).2.2 p hp;omega
def GM {i:Nat} {cs:List R9} {c:Int} (h:c∈BT i cs):(3:Int)+i<=c/\c<3+i+cs.length:=by
 induction cs generalizing i with
 | nil=>cases h
 | cons d r ih=>
   simp only[BT,D9,List.mem_replicate]at h;simp only[Lr];rcases h with⟨_,rfl⟩|h
   .omega
   .have:=ih h;omega
def Q9 {p:Prog} (h1:p.AO.length<=10) (h2:Cv 0 p.AO=true) (h3:Dy (Az p)=true):GP (AK p):=by
 have hl:(AK p).parents.length=p.AO.length:=by simp[AK,Az]
 refine⟨by omega,KY (D6 h3),fun c hc=>?_,?_⟩
 .have:=GM hc
  rw[hl];omega
 .have:=(FT _ _ h2).1
  simp only[AK,Cj];omega
def fj (p : Prog):Pure zP 155 [.a (BR p)] (.b (A7 p)):=by
 refine Pure.fit (by kernel_rfl) fun hf=>?_
 have hP:=L6 hf.1;have hcl:=hP.1;have hM:=Mx;refine yT kZ ?_
 conv=>whnf
 repeat'((first|clear U K|apply st|(apply zk;intro K U)|refine zn ?_|(refine zd (fun hc=>?_) (fun hc=>?_)<;>try exact⟨⟩)|fail)<;>conv=>whnf)
 .exact AG (by simp[A7];intros;omega)
 have h10:p.AO.length<=10:=by omega
 refine CZ p.AO.length (fun k (n:Int)=>[(3,eI n),(4,eI (BL k))]) (fun _ _=>[]) (fun k n=>Cv 0 p.AO=Cv n (p.AO.drop k)/\0<=n/\n+Br (p.AO.drop k)=Br p.AO/\n<=4*k) 0 rfl (by simp) Sat.nil ?_;rintro k n Z hk ⟨hn,hn0,hn1,hn2⟩ hs
 conv=>whnf
 repeat'((first|clear U K|apply st|(apply zk;intro K U)|refine zn ?_|(refine fc (fun x hx hlt hc=>?_) (fun hk hc=>?_)<;>(try rw[hc])<;>clear hc)|refine Pure.use (mR _ (by omega)) ?_|refine Pure.use (qM _ _) ?_|(refine zd (fun hc=>?_) (fun hc=>?_)<;>try exact⟨⟩)|fail)<;>conv=>whnf)
 .exact AG (by simp only[A7];rw[hn,drop_cons hx,Cv];simp;intros;omega)
 .have hms:n+(x.AH.length:Int)+Br (p.AO.drop (k+1))=Br p.AO:=by
   rw[drop_cons hx]at hn1;simp only[Br,EW,List.sum_cons]at hn1 ⊢;omega
  have hsl:=(hP.2 x (CY hx)).2.1
  have hn':Cv 0 p.AO=(Lu n x.AH&&Cv (n+x.AH.length) (p.AO.drop (k+1))):=by
   have a1:x.AH.length<=4:=by omega
   have a2:x.parents.length<=3:=by omega
   rw[hn,drop_cons hx,Cv];simp only[a1,a2,decide_true,Cm]
  revert x
  rintro c hx hcs h3 hms hsl hn';refine CZ c.AH.length (fun j (m:Int)=>[(3,eI m),(6,eI (BL j))]) (fun _ _=>[]) (fun j m=>Cv 0 p.AO=(Lu m (c.AH.drop j)&&Cv (n+c.AH.length) (p.AO.drop (k+1)))/\m=n+j) n rfl ⟨hn',by simp⟩ Sat.nil ?_;rintro j m Z hj ⟨hm,he⟩ hs
  conv=>whnf
  repeat'((first|clear U K|apply st|(apply zk;intro K U)|refine zn ?_|(refine fc (fun x hx hlt hc=>?_) (fun hk hc=>?_)<;>(try rw[hc])<;>clear hc)|refine za (fun hc=>?_) fun hc=>?_|fail)<;>conv=>whnf)
  .exact AG (by simp only[A7];rw[hm,drop_cons (by assumption),Lu];simp[hc])
  .refine⟨hlt,_,rfl,⟨?_,?_⟩,hs⟩
   .rw[hm,drop_cons (by assumption),Lu,wrap64 (by omega) (by omega)];simp[hc]
   .rw[wrap64 (by omega) (by omega)];omega
  .refine⟨by assumption,m,rfl,⟨?_,by omega,by omega,by omega⟩,hs⟩
   rw[hm,Ao (by assumption),Lu,Cm,he];congr 1;omega
 .exact AG (by simp only[A7];rw[hn,drop_cons hx,Cv];simp;intros;omega)
 .have hne:n=Br p.AO:=by rw[Ao hk]at hn1;simpa[Br]using hn1
  exact AG (by simp only[A7];rw[hc];simp)
 .have hne:n=Br p.AO:=by rw[Ao hk]at hn1;simpa[Br]using hn1
  have hsb:Cv 0 p.AO=true:=by rw[hn,Ao hk];rfl
  have hms:=(FT _ _ hsb).1;have hok:=Q9 h10 hsb hc
  have hcb:A7 p=GZ (AK p) n 0 p.AO:=by
   simp only[A7,hsb,hc,<-hne];simp[*]
  refine(Uk p hP (by omega) (by omega)).use ?_
  conv=>whnf
  repeat'((first|clear U K|apply st|(apply zk;intro K U)|refine zr fun Z hs=>?_|refine zp fun nn hnn Z hs=>?_|fail)<;>conv=>whnf)
  refine CZ p.AO.length (fun k (_:Unit)=>[(9,eI (BL k))]) (fun _ _=>[.box nn (A9 (AK p))]) (fun k _=>A7 p=GZ (AK p) n k (p.AO.drop k)) () rfl (by rw[hcb];rfl) hs ?_;rintro k - Z hk hn hs
  conv=>whnf
  repeat'((first|clear U K|apply st|(apply zk;intro K U)|refine zn ?_|(refine fc (fun x hx hlt hc=>?_) (fun hk hc=>?_)<;>(try rw[hc])<;>clear hc)|fail)<;>conv=>whnf)
  .have e3 : IntKind.i64.wrap (BL k+3)=(k:Int)+3:=by rw[Ag (by omega),wrap64 (by omega) (by omega)]
   rw[e3];have hgl:(Az p).length=p.AO.length:=by simp[Az]
   refine(uc (Az p) false ((k:Int)+3) (D6 hc) (by omega) (by omega)).use ?_
   conv=>whnf
   repeat'((first|clear U K|apply st|(apply zk;intro K U)|refine zn ?_|refine za (fun hc=>?_) fun hc=>?_|fail)<;>conv=>whnf)
   .have hlb:oH (AK p).parents ((k:Int)+3)=false:=by
     show(!((CA (Az p)).getD ((k:Int)+3).toNat []).isEmpty)=false;rw[hc];rfl
    exact AG (by rw[hn,drop_cons hx,GZ,hlb];rfl)
   .have hil:=(hP.2 x (CY hx)).2.2
    have hn':A7 p=(EN (AK p) ((k:Int)+3) n [] x.inits&&GZ (AK p) n (k+1) (p.AO.drop (k+1))):=by
     have hlb:oH (AK p).parents ((k:Int)+3)=true:=by
      show(!((CA (Az p)).getD ((k:Int)+3).toNat []).isEmpty)=true;rw[hc];rfl
     rw[hn,drop_cons hx,GZ,hlb];rfl
    revert x
    rintro c hx hil hn';refine CZ c.inits.length (fun j (_:Unit)=>[(14,eI (BL j))]) (fun _ _=>[.box nn (A9 (AK p))]) (fun j _=>A7 p=(EN (AK p) ((k:Int)+3) n (c.inits.take j) (c.inits.drop j)&&GZ (AK p) n (k+1) (p.AO.drop (k+1)))) () rfl (by rw[hn'];rfl) hs ?_;rintro j - Z hj hm hs
    conv=>whnf
    repeat'((first|clear U K|apply st|(apply zk;intro K U)|refine zn ?_|(refine fc (fun x hx hlt hc=>?_) (fun hk hc=>?_)<;>(try rw[hc])<;>clear hc)|refine za (fun hc=>?_) fun hc=>?_|fail)<;>conv=>whnf)
    .refine(jd (AK p) ((k:Int)+3) x.1 hok (by omega) (by rw[show(AK p).parents=Az p from rfl];omega) (by omega) (by rw[show(AK p).owner=BT 0 p.AO from rfl,Cj];omega)).use ?_
     conv=>whnf
     repeat'((first|clear U K|apply st|(apply zk;intro K U)|refine zn ?_|refine Pure.use (sH _) ?_|refine za (fun hc=>?_) fun hc=>?_|fail)<;>conv=>whnf)
     .exact AG (by rw[hm,drop_cons hx,EN];simp[*])
     .have hm':A7 p=((c.inits.take j).all (fun y=>y.1 != x.1)&&(EN (AK p) ((k:Int)+3) n (c.inits.take (j+1)) (c.inits.drop (j+1))&&GZ (AK p) n (k+1) (p.AO.drop (k+1)))):=by
       have b1:decide (0<=x.1)=true:=decide_eq_true (by assumption);have b2:decide (x.1<n)=true:=decide_eq_true (by assumption);rw[hm,drop_cons hx,EN,AU hx,b1,b2,‹hasB _ _ _=true›,hc];simp only[Cm,Bool.and_assoc]
      revert x
      rintro x hxj hx0 hx1 hhb hbt hm';refine CZ j (fun i (_:Unit)=>[(15,eI (BL i))]) (fun _ _=>[.box nn (A9 (AK p))]) (fun i _=>A7 p=(((c.inits.take j).drop i).all (fun y=>y.1 != x.1)&&(EN (AK p) ((k:Int)+3) n (c.inits.take (j+1)) (c.inits.drop (j+1))&&GZ (AK p) n (k+1) (p.AO.drop (k+1))))) () rfl (by rw[hm'];rfl) hs ?_;rintro i - Z hi hl hs;rcases Nat.lt_or_ge i j with hij|hij
      .obtain⟨y,hy⟩: ∃y,c.inits[i]? =some y:=⟨_,DC (by omega)⟩
       have hy':(c.inits.take j)[i]? =some y:=by rw[List.getElem?_take,if_pos hij,hy]
       conv=>whnf
       repeat'((first|clear U K|apply st|(apply zk;intro K U)|refine zn ?_|(refine zb (fun hc=>?_) (fun hc=>?_)<;>try exact⟨⟩)|fail)<;>conv=>whnf)
       .exact AG (by rw[hl,drop_cons hy',R8,hc];simp)
       .refine⟨hij,(),rfl,?_,hs⟩
        have hc':(y.1 != x.1)=true:=by simpa using hc
        rw[hl,drop_cons hy',R8,hc',Cm]
      .conv=>whnf
       repeat'((first|clear U K|apply st|(apply zk;intro K U)|refine zn ?_|(refine zb (fun hc=>?_) (fun hc=>?_)<;>try exact⟨⟩)|fail)<;>conv=>whnf)
       refine⟨by assumption,(),rfl,?_,hs⟩;rw[hl,List.drop_of_length_le (by rw[Lq];omega),List.all_nil,Cm]
     .exact AG (by rw[hm,drop_cons hx,EN];simp[*])
    .exact AG (by rw[hm,drop_cons hx,EN];simp;intros;omega)
    .exact AG (by rw[hm,drop_cons hx,EN];simp;intros;omega)
    .refine⟨by assumption,(),rfl,?_,hs⟩
     rw[hm,Ao hk,EN,Cm]
  .exact AG (by rw[hn,Ao hk];rfl)
 .have hne:n=Br p.AO:=by rw[Ao hk]at hn1;simpa[Br]using hn1
  exact AG (by simp only[A7];rw[<-hne];simp[hc])
def Fs (f:Int->Int->List Int->Option (List Int)) (op size:Int):Nat->List Int->List Int->Option (List Int)
 | _,[],s=>some s
 | i,k::r,s=>match f k (if op=9/\i=1 then size+1 else size) s with
   | none=>none
   | some s'=>Fs f op size (i+1) r s'
def EL (p:Prog) (next:Bool) (size:Int) (x:Node):Bool:=((x.kids.length:Int)==Ji p x)&&(NU p x size&&(x.op != 18||next))
def CS (p:Prog) (next:Bool):Nat->Int->Int->List Int->Option (List Int)
 | 0,_,_,_=>none
 | d+1,n,size,s=>
   if n<0\/(p.nodes.length:Int)<=n\/0<=s.getD n.toNat 0 then none else
   match p.nodes[n.toNat]? with
   | none=>none
   | some x=>if EL p next size x then Fs (CS p next d) x.op size 0 x.kids (s.set n.toNat size)else none
def Wb (v:V) (s:List Int) (o:Option (List Int)) (r:R) (post:List At):Prop:=
 ∃s':List Int,s'.length=s.length/\post= [.own v 1 (iL s')]/\((o=some s'/\r= .ret (.b true))\/(o=none/\r= .ret (.b false)))
def QD {v:V} {s s':List Int} {o:Option (List Int)} {Z:AE} {rest:List At} (hs:Sat Z (.own v 1 (iL s')::rest)) (hl:s'.length=s.length) (ho:o=none):Aj Z (.b false) fun r Z'=> ∃post,Wb v s o r post/\Sat Z' post:=
 Aw hs (.cons₂ _ (O4 _)) (.refl _) fun Z' hs'=>⟨_,⟨s',hl,rfl,.inr ⟨ho,rfl⟩⟩,hs'⟩
def jh {p:Prog} (h:FO (.a (BR p))) {x:Node} (hx:x∈p.nodes):x.kids.length<=Ae:=by
 simp only[BR,Jq,Es,E4,Jx]at h
 have h2:Ie (Jk x):=by
  first|exact h.2.2.2.2.1.2 x hx|exact h.2.2.2.2.2.1.2 x hx|exact h.2.2.2.1.2 x hx|exact h.2.2.1.2 x hx|exact h.2.1.2 x hx
 simp only[Jk,Es,E4,Ca]at h2
 first|exact h2.2.2.1.1|exact h2.2.2.1|exact h2.1
def PN {p:Prog} {next:Bool} {d:Nat} {n size:Int} {s:List Int} {x:Node} {y:Int} (h0:0<=n) (h1:n<(p.nodes.length:Int)) (hs:s[n.toNat]? =some y) (hy:y<0) (hx:p.nodes[n.toNat]? =some x) :
    CS p next (d+1) n size s=if EL p next size x then Fs (CS p next d) x.op size 0 x.kids (s.set n.toNat size)else none:=by
 have e:s.getD n.toNat 0=y:=by rw[C6,hs];rfl
 simp only[CS];rw[if_neg (by rw[e];omega),hx]
def Ny {p:Prog} {next:Bool} {d:Nat} {n size:Int} {s:List Int} (h:n<0\/(p.nodes.length:Int)<=n\/0<=s.getD n.toNat 0):CS p next (d+1) n size s=none:=by
 simp only[CS];rw[if_pos h]
def ij (p : Prog) (next:Bool): ∀d:Nat,d<=12-> ∀(n size depth:Int) (s:List Int) (v:V),depth=13 - d->0<=size->size+d<=100->s.length=p.nodes.length->(Ce v).isSome=true->
    BS zP 157 [.a (BR p),eI n,eI size,eI depth,.b next,v] [.own v 1 (iL s)] (Wb v s (CS p next d n size s)):=by
 intro d
 induction d with
 | zero=>
   intro _ n size depth s v hd h0 h1 hl hv Z hs;refine Ar.fit (by kernel_rfl) fun hf=>?_
   have⟨p1,p2,p3,p4⟩:=G7 hf.1;have hM:=Mx;refine kD kZ ?_
   conv=>whnf
   repeat'((first|clear U K|apply st|(apply zk;intro K U)|refine zn ?_|refine ze fun x hx=>?_|(refine zb (fun hc=>?_) (fun hc=>?_)<;>try exact⟨⟩)|fail)<;>conv=>whnf)
   all_goals exact Aw hs (.refl _) (.refl _) fun Z' hs'=>⟨_,⟨s,rfl,rfl,.inr ⟨rfl,rfl⟩⟩,hs'⟩
 | succ d ih =>
   intro hd12 n size depth s v hd h0 h1 hl hv Z hs;refine Ar.fit (by kernel_rfl) fun hf=>?_
   have⟨p1,p2,p3,p4⟩:=G7 hf.1;have hM:=Mx;refine kD kZ ?_
   conv=>whnf
   repeat'((first|clear U K|apply st|(apply zk;intro K U)|refine zn ?_|refine rk ?_ ?_|exact fun s e=>by cases e;rfl|refine ze fun x hx=>?_|refine zr fun Z hs=>?_|refine Pure.use (pz _ _) ?_|refine Pure.use (eK _ _ _) ?_|(refine zb (fun hc=>?_) (fun hc=>?_)<;>try exact⟨⟩)|refine zp fun nn hnn Z hs=>?_|fail)<;>conv=>whnf)
   .exact QD hs (by simp) (by rw[PN (by assumption) (by assumption) (by assumption) (by assumption) hx];simp[EL, *])
   rotate_left
   .cases hc
   rotate_left
   .exact QD hs (by simp) (by rw[PN (by assumption) (by assumption) (by assumption) (by assumption) hx];simp[EL, *])
   .exact QD hs (by simp) (by rw[PN (by assumption) (by assumption) (by assumption) (by assumption) hx];simp[EL, *])
   .exact QD hs rfl (Ny (.inr (.inr (by rw[C6,hx];exact hc))))
   .exact QD hs rfl (Ny (.inr (.inl hc)))
   .exact QD hs rfl (Ny (.inl hc))
   all_goals
    have hW:CS p next (d+1) n size s=Fs (CS p next d) x.op size 0 x.kids (s.set n.toNat size):=by
     rw[PN (by assumption) (by assumption) (by assumption) (by assumption) hx];simp[EL, *]
    rw[hW]
    rename Node=>nd
    refine CZ nd.kids.length (fun k (_:List Int)=>[(14,eI (BL k))]) (fun _ s'=>[.own v 1 (iL s'),.obj nn (.cs (Jk nd))]) (fun k s'=>s'.length=s.length/\Fs (CS p next d) nd.op size 0 nd.kids (s.set n.toNat size)=Fs (CS p next d) nd.op size k (nd.kids.drop k) s') (s.set n.toNat size) rfl ⟨by simp,by simp⟩ hs ?_;clear hs;rintro k s' Z hk ⟨hl',hkids⟩ hs;have hkm:=jh hf.1 (CY hx);have hck:BL k=k:=Ag (by omega);by_cases hlt:k<nd.kids.length
    .obtain⟨kid,hkid⟩: ∃kid,nd.kids[k]? =some kid:=⟨_,DC hlt⟩
     have hrec:=fun kid sz h0 h1=>ih (by omega) kid sz (depth+1) s' v (by omega) h0 h1 (by omega) hv
     conv=>whnf
     repeat'((first|clear U K|apply st|(apply zk;intro K U)|refine zn ?_|(refine fc (fun x hx hlt hc=>?_) (fun hk hc=>?_)<;>(try rw[hc])<;>clear hc)|(refine zb (fun hc=>?_) (fun hc=>?_)<;>try exact⟨⟩)|fail)<;>conv=>whnf)
     all_goals try(exfalso;omega)
     all_goals try refine Jd (enc:=fun i:Int=>[V.i .i64 i]) hkid hkm rfl ?_
     conv=>whnf
     all_goals try(exfalso;omega)
     all_goals
      have hK2:=hkids;rw[drop_cons hx,Fs]at hK2
      first
       | rw[if_pos (by omega)]at hK2
         rw[wrap64 (by omega) (by omega),wrap64 (by omega) (by omega)];refine(hrec x (size+1) (by omega) (by omega)).use hs ?_
       | rw[if_neg (by omega)]at hK2
         rw[wrap64 (by omega) (by omega)];refine(hrec x size (by omega) (by omega)).use hs ?_
      rintro r post Z' ⟨s2,hl2,rfl,⟨ho,rfl⟩|⟨ho,rfl⟩⟩ hs
      .rw[ho]at hK2
       conv=>whnf
       repeat'((first|clear U K|apply st|(apply zk;intro K U)|refine zn ?_|(refine zd (fun hc=>?_) (fun hc=>?_)<;>try exact⟨⟩)|fail)<;>conv=>whnf)
       all_goals first|(exfalso;cases hc;done)|exact⟨hlt,s2,rfl,⟨by omega,hK2⟩,hs⟩
      .rw[ho]at hK2
       conv=>whnf
       repeat'((first|clear U K|apply st|(apply zk;intro K U)|refine zn ?_|(refine zd (fun hc=>?_) (fun hc=>?_)<;>try exact⟨⟩)|fail)<;>conv=>whnf)
       all_goals first|exact QD hs (by omega) hK2|(exfalso;cases hc;done)
    .have hke:k=nd.kids.length:=by omega
     conv=>whnf
     repeat'((first|clear U K|apply st|(apply zk;intro K U)|refine zn ?_|(refine fc (fun x hx hlt hc=>?_) (fun hk hc=>?_)<;>(try rw[hc])<;>clear hc)|(refine zb (fun hc=>?_) (fun hc=>?_)<;>try exact⟨⟩)|fail)<;>conv=>whnf)
     all_goals try(exfalso;omega)
     rw[hke,Ao rfl]at hkids;exact Aw hs (.cons₂ _ (O4 _)) (.refl _) fun Z' hs'=>⟨_,⟨s',hl',rfl,.inl ⟨(by first|rw[hW,hkids,Fs]|rw[hkids,Fs]),rfl⟩⟩,hs'⟩
end Go.Gl
