import Derived.Test.YtcfkfhaedllcpaaGreatV14
import Derived.Test.YtcfkfhaedllcpaaGreatV15
import Derived.Test.YtcfkfhaedllcpaaGreatV16
set_option linter.all false
set_option linter.defProp false
set_option maxHeartbeats 8000000
noncomputable section
namespace Go.Gl
open Go.Proofs
attribute [local irreducible] A6 Ar Ah AR AI Ae AQ AT AK Ad AN AO Ay A7 Sat AY A5 Ai W
def pick (ls:List (List Int)):Option Int:=(ls.find? fun l=>match l with| []=>false|x::_=>free ls x).bind List.head?
def total (ls:List (List Int)):Nat:=(ls.map List.length).sum
def DG:Nat->List (List Int)->List Int->List Int×Bool
 | 0,ls,out=>(out,ls.all List.isEmpty)
 | n+1,ls,out=>match pick ls with
   | none=>(out,ls.all List.isEmpty)
   | some x=>DG n (ls.map fun l=>l.filter (· != x)) (out++[x])
def CH (ls:List (List Int)):List Int×Bool:=DG (total ls) ls []
def IP {ls:List (List Int)} {x:Int} (h:pick ls=some x):total (ls.map fun l=>l.filter (· != x))<total ls:=by
 unfold pick at h;rw[Option.bind_eq_some_iff]at h;obtain⟨l,h1,h2⟩:=h;have hm:=List.mem_of_find?_eq_some h1;clear h1;cases l with
 | nil=>cases h2
 | cons y r=>
   simp only[List.head?_cons,HR]at h2;subst h2
   have hle: ∀ls:List (List Int),total (ls.map fun l=>l.filter (· != y))<=total ls:=fun ls=>by
    induction ls with
    | nil=>simp[total]
    | cons a bs ih=>
      have:=Q8 (· != y) a;simp only[total,E8,List.sum_cons]at *;omega
   induction ls with
   | nil=>cases hm
   | cons a bs ih=>
     rcases GK.1 hm with rfl|hm
     .have h1:=hle bs
      have h2:=Q8 (· != y) r;simp only[total,E8,List.sum_cons]at *;have:((y::r).filter (· != y)).length<=r.length:=by simpa using h2
      simp only[JD];omega
     .have h1:=ih hm
      have h2:=Q8 (· != y) a;simp only[total,E8,List.sum_cons]at *;omega
def Mz (ls:List (List Int)):Prop:=ls.length<=1000000/\ ∀l∈ls,l.length<=AX/\ ∀x∈l,0<=x
def Mz.filter {ls:List (List Int)} (h:Mz ls) (x:Int):Mz (ls.map fun l=>l.filter (· != x)):=by
 refine⟨by rw[BL];exact h.1,fun l hl=>?_⟩;obtain⟨l',hl',rfl⟩:=Mt.1 hl;obtain⟨h1,h2⟩:=h.2 l' hl';exact⟨Nat.le_trans (Q8 _ _) h1,fun y hy=>h2 y (LX.1 hy).1⟩
def Dl (ls:List (List Int)) (k:Nat):Int:=((((ls.take k).find? fun l=>match l with| []=>false|x::_=>free ls x).bind List.head?).getD (-1))
def W0 : ∀ (n:Nat) (ls:List (List Int)) (out:List Int),total ls<=n->DG n ls out=DG (total ls) ls out:=by
 intro n
 induction n using Nat.strongRecOn with
 | _ n ih=>
   intro ls out hn;by_cases he:total ls=n
   .rw[he]
   .cases n with
    | zero=>omega
    | succ n=>
      cases hp:pick ls with
      | none=>
        cases ht:total ls with
        | zero=>simp[DG,hp]
        | succ m=>simp[DG,hp]
      | some x=>
        have h1:=IP hp;cases ht:total ls with
        | zero=>omega
        | succ m=>
          simp only[DG,hp];rw[ih n (by omega) _ _ (by omega),ih m (by omega) _ _ (by omega)]
def OM {ls:List (List Int)} {x:Int} {out:List Int} (hp:pick ls=some x):DG (total ls) ls out=DG (total (ls.map fun l=>l.filter (· != x))) (ls.map fun l=>l.filter (· != x)) (out++[x]):=by
 have h1:=IP hp;cases ht:total ls with
 | zero=>omega
 | succ m=>
   simp only[DG,hp];exact W0 m _ _ (by omega)
def Qe {ls:List (List Int)} {out:List Int} (hp:pick ls=none):DG (total ls) ls out=(out,ls.all List.isEmpty):=by
 cases ht:total ls with
 | zero=>rfl
 | succ m=>simp only[DG,hp]
def FH (ls:List (List Int)) (l:List Int):Bool:=match l with| []=>false|x::_=>free ls x
def Ht (ls:List (List Int)) (k:Nat):Dl ls k=(((ls.take k).find? (FH ls)).bind List.head?).getD (-1):=rfl
def IU {ls:List (List Int)} (hok:Mz ls) {k:Nat} (h:Dl ls k<0):(ls.take k).find? (FH ls)=none:=by
 rw[Ht]at h;cases hf:(ls.take k).find? (FH ls)with
 | none=>rfl
 | some l=>
   rw[hf]at h;have hm:=List.mem_of_mem_take (List.mem_of_find?_eq_some hf);have hg:=List.find?_some hf;cases l with
   | nil=>cases hg
   | cons x r=>
     have:=(hok.2 _ hm).2 x (.head _);simp at h;omega
def Wy {ls:List (List Int)} (hok:Mz ls) {k:Nat} (hk:k<ls.length) (h:Dl ls k<0):Dl ls (k+1)=if FH ls ls[k]then(ls[k].head?).getD (-1)else -1:=by
 rw[Ht,List.take_succ_eq_append_getElem hk,List.find?_append,IU hok h];by_cases hg:FH ls ls[k]=true
 .simp[hg]
 .simp[hg]
def QW {ls:List (List Int)} {k:Nat} (h:0<=Dl ls k):pick ls=some (Dl ls k):=by
 rw[Ht]at *;show((ls.find? (FH ls)).bind List.head?)=_;cases hf:(ls.take k).find? (FH ls)with
 | none=>rw[hf]at h;simp at h
 | some l=>
   have h1:ls.find? (FH ls)=some l:=by
    have:=List.take_append_drop k ls;rw[<-this,List.find?_append,this,hf];rfl
   rw[h1];rw[hf]at h;cases l with
   | nil=>simp at h
   | cons x r=>simp
def Jh {ls:List (List Int)} (hok:Mz ls) {k:Nat} {l:List Int} (hl:ls[k]? =some l) (h:Dl ls k<0):Dl ls (k+1)=if FH ls l then(l.head?).getD (-1)else -1:=by
 obtain⟨hk,rfl⟩:=Ii.1 hl;exact Wy hok hk h
def b6 {ls:List (List Int)} {l:List Int} (h:l∈ls):l.length<=total ls:=by
 induction ls with
 | nil=>cases h
 | cons a r ih=>
   simp only[total,E8,List.sum_cons]at *;rcases GK.1 h with rfl|h
   .omega
   .have:=ih h;omega
def jX (ls:List (List Int)) (f:Bool) (hok:Mz ls) (ht:total ls<AX):Pure zP 290 [.l (Ek ls) f] (.t [.l (iL (CH ls).1) false,.b (CH ls).2]):=by
 have hM:=Mx;refine uX kZ ?_
 conv=>whnf
 repeat((first|(refine Dn ?_;intro K U)|(refine Cb ?_;intro KR KP hR hP)|(refine hR _ _ ?_;clear hP;clear KP;clear hR;clear KR)|refine Dr ?_|refine F6 ?_|(apply U;clear U K)|fail);conv=>whnf)
 refine DF (fun(x:List (List Int)×Bool×V×List Int)=>total x.1) (fun x=>[(0,.l (Ek x.1) x.2.1),(4,x.2.2.1)]) (fun x=>[.own x.2.2.1 1 (iL x.2.2.2)])
  (fun x=>Mz x.1/\x.2.2.2.length+total x.1<=total ls/\DG (total x.1) x.1 x.2.2.2=CH ls) (ls,f,.l [] true,[]) rfl ⟨hok,by simp,rfl⟩ (FA Sat.nil 1) ?_
 rintro⟨ls',f',v,out⟩ Z ⟨hok',hlen,hm⟩ hs;dsimp only at hok' hlen hm hs;have hlm:ls'.length<=AX:=by have:=hok'.1;omega
 conv=>whnf
 repeat((first|(refine Dn ?_;intro K U)|(refine Cb ?_;intro KR KP hR hP)|(refine hR _ _ ?_;clear hP;clear KP;clear hR;clear KR)|refine Dr ?_|refine F6 ?_|(apply U;clear U K)|fail);conv=>whnf)
 have hJ :=Rw U (fun(y:Int×Bool)=>[(5,.i .i64 y.1),(6,.b y.2)]) (fun _=>[.own v 1 (iL out)]) (fun y=>(0<=y.1/\pick ls'=some y.1)\/(y.1<0/\pick ls'=none/\y.2=ls'.any fun l=> !l.isEmpty))
  [(0,.l (Ek ls') f'),(4,v),(5,.pn),(6,.pn)] (by
  rintro⟨nx,lf⟩ Z hor hs;dsimp only at hor
  conv=>whnf
  repeat((first|refine⟨rfl,?_⟩|(refine Dn ?_;intro K U)|(refine Cb ?_;intro KR KP hR hP)|(refine hR _ _ ?_;clear hP;clear KP;clear hR;clear KR)|refine EH ?_|(apply U;clear U K)|fail);conv=>whnf)
  refine fork (fun hneg=>?_) (fun hneg=>?_)
  .conv=>whnf
   repeat((first|(refine Dn ?_;intro K U)|(refine Cb ?_;intro KR KP hR hP)|(refine hR _ _ ?_;clear hP;clear KP;clear hR;clear KR)|refine K7 ?_|(apply U;clear U K)|(clear U K));conv=>whnf)
   rcases hor with⟨h0,_⟩|⟨_,hp,rfl⟩
   .omega
   .rw[Qe hp]at hm
    refine Ab ?_;rw[<-hm];refine .t (.cons (hs.HP 0 rfl) (.cons ?_ .nil));have:(!ls'.any fun l=> !l.isEmpty)=ls'.all List.isEmpty:=by simp[List.all_eq_not_any_not]
    rw[<-this];exact .refl _
  .conv=>whnf
   repeat((first|(refine Dn ?_;intro K U)|(refine Cb ?_;intro KR KP hR hP)|refine E3 ?_|(apply U;clear U K)|fail);conv=>whnf)
   rcases hor with⟨_,hp⟩|⟨h0,_⟩
   .have hlt:=IP hp
    refine F0 hs 0 (x:=nx) rfl (by omega) Bc fun v' Z hs=>?_
    conv=>whnf
    repeat((first|(refine Dn ?_;intro K U)|(refine Cb ?_;intro KR KP hR hP)|(refine hR _ _ ?_;clear hP;clear KP;clear hR;clear KR)|refine Dr ?_|refine F6 ?_|(apply U;clear U K)|fail);conv=>whnf)
    refine By ls'.length (fun k u=>[(8,u),(9,eI (A9 k))]) (fun k u=>[.own v' 1 (iL (out++[nx])),.own u 1 (Ek ((ls'.take k).map fun l=>l.filter (· != nx)))]) (fun _ _=>True) (.l [] true) rfl trivial (FA hs 1) ?_;rintro k u Z hk - hs
    conv=>whnf
    repeat((first|refine⟨rfl,?_⟩|refine KX ?_|(refine Dn ?_;intro K U)|(refine Cb ?_;intro KR KP hR hP)|(refine hR _ _ ?_;clear hP;clear KP;clear hR;clear KR)|refine EH ?_|(apply U;clear U K)|fail);conv=>whnf)
    refine GU hk hlm (fun l hl hlt'=>?_) fun hk=>?_
    .conv=>whnf
     repeat((first|(refine Dn ?_;intro K U)|(refine Cb ?_;intro KR KP hR hP)|refine E3 ?_|refine Dr ?_|(apply U;clear U K)|fail);conv=>whnf)
     refine JO hl hlm rfl ?_
     conv=>whnf
     repeat((first|refine E0 ?_|fail);conv=>whnf)
     refine(QL _ _ _ (hok'.2 _ (Bz hl)).1).use ?_
     conv=>whnf
     refine F0 hs 1 (x:=l.filter (· != nx)) rfl (by have:=hok'.1;simp;omega) C7 fun u' Z' hs'=>?_
     conv=>whnf
     repeat((first|refine⟨rfl,?_⟩|(refine Cb ?_;intro KR KP hR hP)|(refine hR _ _ ?_;clear hP;clear KP;clear hR;clear KR)|(apply U;clear U K)|(clear U K));conv=>whnf)
     refine⟨hlt',u',rfl,trivial,?_⟩;rw[AL hl,Uw];exact hs'
    .rw[Ap hk]at hs
     conv=>whnf
     repeat((first|(refine Cb ?_;intro KR KP hR hP)|refine F7 ?_|(apply U;clear U K)|(clear U K));conv=>whnf)
     refine qd hs 1 rfl fun Z' hs'=>?_
     conv=>whnf
     repeat((first|(refine hR _ _ ?_;clear hP;clear KP;clear hR;clear KR)|fail);conv=>whnf)
     refine⟨(ls'.map fun l=>l.filter (· != nx),false,v',out++[nx]),hlt,rfl,⟨hok'.filter nx,by simp;omega,?_⟩,hs'⟩;rw[<-OM hp];exact hm
   .omega)
 clear U
 .refine By ls'.length (fun k (_:Unit)=>[(5,.i .i64 (Dl ls' k)),(6,.b ((ls'.take k).any fun l=> !l.isEmpty)),(7,eI (A9 k))]) (fun _ _=>[.own v 1 (iL out)]) (fun _ _=>True) () rfl trivial hs ?_
  rintro k - Z hk - hs
  conv=>whnf
  repeat((first|refine⟨rfl,?_⟩|refine KX ?_|(refine Dn ?_;intro K U)|(refine Cb ?_;intro KR KP hR hP)|fail);conv=>whnf)
  refine⟨fun h=>?_,fun h=>?_⟩<;>(try rw[h])
  .have hlt:=of_decide_eq_true h
   rw[AM (by have:=hok'.1;omega)]at hlt;have hlt:=gO hlt;have hl:=Cw hlt;have hb:=hok'.2 _ (List.getElem_mem hlt);generalize ls'[k]=l at *
   conv=>whnf
   repeat((first|refine⟨rfl,?_⟩|refine K5 ?_|(refine hR _ _ ?_;clear hP;clear KP;clear hR;clear KR)|refine EH ?_|(apply U;clear U K)|fail);conv=>whnf)
   refine fork (fun hneg=>?_) (fun hneg=>?_)
   .conv=>whnf
    repeat((first|(refine Dn ?_;intro K U)|(refine Cb ?_;intro KR KP hR hP)|refine E3 ?_|refine Dr ?_|(apply U;clear U K)|fail);conv=>whnf)
    refine JO hl hlm rfl ?_
    conv=>whnf
    repeat((first|refine⟨rfl,?_⟩|refine E0 ?_|refine KX ?_|(refine hR _ _ ?_;clear hP;clear KP;clear hR;clear KR)|refine EH ?_|(apply U;clear U K)|fail);conv=>whnf)
    refine fork (fun hp=>?_) (fun hp=>?_)
    .simp only[BL]at hp
     obtain⟨x,r,rfl⟩: ∃x r,l=x::r:=by cases l with
      | nil=>simp at hp
      | cons x r=>exact⟨x,r,rfl⟩
     have hany:((ls'.take (k+1)).any fun l=> !l.isEmpty)=true:=by
      rw[AL hl];simp
     conv=>whnf
     repeat((first|(refine Dn ?_;intro K U)|(refine Cb ?_;intro KR KP hR hP)|(refine hR _ _ ?_;clear hP;clear KP;clear hR;clear KR)|(apply U;clear U K)|fail);conv=>whnf)
     refine JO hl hlm rfl ?_
     conv=>whnf
     repeat((first|refine E0 ?_|fail);conv=>whnf)
     refine RZ 0 rfl rfl rfl ?_
     conv=>whnf
     repeat((first|refine E0 ?_|fail);conv=>whnf)
     refine(nu _ _ _ hlm fun l hl=>(hok'.2 l hl).1).use ?_
     conv=>whnf
     repeat((first|(refine hR _ _ ?_;clear hP;clear KP;clear hR;clear KR)|refine EH ?_|(apply U;clear U K)|fail);conv=>whnf)
     refine⟨fun hf=>?_,fun hf=>?_⟩
     .conv=>whnf
      repeat((first|(refine Cb ?_;intro KR KP hR hP)|fail);conv=>whnf)
      refine JO hl hlm rfl ?_
      conv=>whnf
      repeat((first|refine E0 ?_|fail);conv=>whnf)
      refine RZ 0 rfl rfl rfl ?_
      conv=>whnf
      repeat((first|refine⟨rfl,?_⟩|refine E0 ?_|(refine Cb ?_;intro KR KP hR hP)|(refine hR _ _ ?_;clear hP;clear KP;clear hR;clear KR)|(apply U;clear U K)|fail);conv=>whnf)
      refine⟨hlt,(),?_,trivial,hs⟩;have:Dl ls' (k+1)=x:=by rw[Jh hok' hl hneg];simp[FH,hf]
      dsimp only;rw[this,hany];rfl
     .conv=>whnf
      repeat((first|refine⟨rfl,?_⟩|(refine Cb ?_;intro KR KP hR hP)|(refine hR _ _ ?_;clear hP;clear KP;clear hR;clear KR)|refine E3 ?_|(apply U;clear U K)|fail);conv=>whnf)
      refine⟨hlt,(),?_,trivial,hs⟩;have:Dl ls' (k+1)=Dl ls' k:=by rw[Jh hok' hl hneg,Ht ls' k,IU hok' hneg];simp[FH,hf]
      dsimp only;rw[this,hany];rfl
    .simp only[BL]at hp
     obtain rfl:l= []:=Y5.1 (by omega)
     conv=>whnf
     repeat((first|refine⟨rfl,?_⟩|(refine Cb ?_;intro KR KP hR hP)|(refine hR _ _ ?_;clear hP;clear KP;clear hR;clear KR)|refine E3 ?_|(apply U;clear U K)|fail);conv=>whnf)
     refine⟨hlt,(),?_,trivial,hs⟩;have:Dl ls' (k+1)=Dl ls' k:=by rw[Jh hok' hl hneg,Ht ls' k,IU hok' hneg];simp[FH]
     have hany:((ls'.take (k+1)).any fun l=> !l.isEmpty)=((ls'.take k).any fun l=> !l.isEmpty):=by
      rw[AL hl,List.any_append];simp
     dsimp only;rw[this,hany];rfl
   .conv=>whnf
    repeat((first|refine F7 ?_|(clear U K));conv=>whnf)
    refine hJ (Dl ls' k,(ls'.take k).any fun l=> !l.isEmpty) _ _ rfl (.inl ⟨by omega,?_⟩) hs;exact QW (by omega)
  .have hlt:=of_decide_eq_false h
   rw[AM (by have:=hok'.1;omega)]at hlt;have hke:=aS hk hlt
   conv=>whnf
   repeat((first|refine K6 ?_|(refine hR _ _ ?_;clear hP;clear KP;clear hR;clear KR)|refine EH ?_|refine F7 ?_|(apply U;clear U K)|(clear U K));conv=>whnf)
   refine hJ (Dl ls' k,(ls'.take k).any fun l=> !l.isEmpty) _ _ rfl ?_ hs;rw[Ap hke];by_cases h0:0<=Dl ls' k
   .exact .inl ⟨h0,QW h0⟩
   .refine .inr ⟨by omega,?_,rfl⟩
    have:=IU hok' (k:=k) (by omega);rw[Ap hke]at this;show((ls'.find? (FH ls')).bind List.head?)=none;rw[this];rfl
def Dx (g os:List (List Int)) (c:Int):List Int:=
 match EG g os c with
 | none=>[]
 | some l=>if(CH l).2 then [c]++(CH l).1++[0]else []
def BZ (g:List (List Int)):Nat->List (List Int)
 | 0=>[[0]]
 | k+1=>BZ g k++[Dx g (BZ g k) ((k:Int)+1)]
def B3 (g:List (List Int)):List (List Int):=BZ g (2+g.length)
def Is (g:List (List Int)):Prop:=g.length<=16/\ ∀(i:Nat) (l:List Int),g[i]? =some l->l.length<=3/\l.Nodup/\ ∀c∈l,(3:Int)<=c/\c<3+(i:Int)
def Cc (g:List (List Int)): ∀k,(BZ g k).length=k+1
 | 0=>rfl
 | k+1=>by simp[BZ,Cc g k]
def IW: ∀(n:Nat) (ls:List (List Int)) (out:List Int),(DG n ls out).1.length<=out.length+n
 | 0,ls,out=>by simp[DG]
 | n + 1,ls,out=>by
   simp only[DG];split
   .simp
   .rename_i x _
    have:=IW n (ls.map fun l=>l.filter (· != x)) (out++[x]);simp only[Ro,List.length_singleton]at this;refine Nat.le_trans this ?_;omega
def Wx {ls:List (List Int)} (h: ∀l∈ls,∀x∈l,(0:Int)<=x) {x:Int} (hp:pick ls=some x):0<=x:=by
 unfold pick at hp;rw[Option.bind_eq_some_iff]at hp;obtain⟨l,h1,h2⟩:=hp;have hm:=List.mem_of_find?_eq_some h1;cases l with
 | nil=>cases h2
 | cons y r=>cases h2;exact h _ hm _ (.head _)
def Kc: ∀(n:Nat) (ls:List (List Int)) (out:List Int),(∀l∈ls,∀x∈l,(0:Int)<=x)->(∀x∈out,(0:Int)<=x)-> ∀x∈(DG n ls out).1,(0:Int)<=x
 | 0,ls,out,_,h2=>h2
 | n + 1,ls,out,h1,h2=>by
   simp only[DG];split
   .exact h2
   .rename_i y hy
    refine Kc n _ _ (fun l hl x hx=>?_) fun x hx=>?_
    .obtain⟨l',hl',rfl⟩:=Mt.1 hl
     exact h1 _ hl' _ (LX.1 hx).1
    .rcases FC.1 hx with hx|hx
     .exact h2 x hx
     .rw[LV.1 hx];exact Wx h1 hy
def DV {g:List (List Int)} (hg:Is g) {c p:Int} (hp:p∈Aw g c):3<=p/\p<c:=by
 unfold Aw at hp;split at hp
 .cases hp
 .rename_i hc
  rw[DL]at hp;cases hq:g[(c - 3).toNat]? with
  | none=>rw[hq]at hp;cases hp
  | some l=>
    rw[hq]at hp;obtain⟨_,_,h⟩:=hg.2 _ _ hq;have:=h p hp;omega
def Cz {g:List (List Int)} (hg:Is g) (c:Int):(Aw g c).length<=3:=by
 unfold Aw;split
 .simp
 .rw[DL]
  cases hq:g[(c - 3).toNat]? with
  | none=>simp
  | some l=>exact(hg.2 _ _ hq).1
def G2 {g os:List (List Int)} {c:Int} {ls:List (List Int)} (h:EG g os c=some ls):ls=(Aw g c).map (fun p=>(os.getD p.toNat []).filter (· != 0))++[Aw g c]:=by
 unfold EG at h;split at h
 .cases h
 .exact(Option.some.inj h).symm
def WJ {os:List (List Int)} {B:Nat} (h: ∀o∈os,o.length<=B) (n:Nat):(os.getD n []).length<=B:=by
 rw[DL];cases hq:os[n]? with
 | none=>simp
 | some l=>exact h _ (Bz hq)
def P3 {os:List (List Int)} {Q:Int->Prop} (h: ∀o∈os,∀x∈o,Q x) (n:Nat): ∀x∈os.getD n [],Q x:=by
 rw[DL];cases hq:os[n]? with
 | none=>simp
 | some l=>exact h _ (Bz hq)
def Fh {g os:List (List Int)} {c:Int} {ls:List (List Int)} (h:EG g os c=some ls) {B:Nat} (hB: ∀o∈os,o.length<=B):total ls<=(Aw g c).length*(B+1):=by
 rw[G2 h];simp only[total,Uw,List.map_map,List.sum_append,E8,List.map_nil,List.sum_cons,List.sum_nil,Nat.add_zero]
 have: ∀ps:List Int,(ps.map (List.length∘fun p=>(os.getD p.toNat []).filter (· != 0))).sum<=ps.length*B:=fun ps=>by
  induction ps with
  | nil=>simp
  | cons p r ih=>
    simp only[E8,List.sum_cons,Function.comp,JD,Nat.succ_mul];have h1:=Q8 (· != 0) (os.getD p.toNat []);have h2:=WJ hB p.toNat;simp only[Function.comp_def]at *;omega
 have:=this (Aw g c);rw[Nat.mul_add,Nat.mul_one];simp only[Function.comp_def]at *;omega
def Wz {g os:List (List Int)} {c:Int} {B:Nat} (hB: ∀o∈os,o.length<=B):(Dx g os c).length<=(Aw g c).length*(B+1)+2:=by
 unfold Dx;split
 .simp
 .rename_i ls h
  have h1:=Fh h hB;have h2:=IW (total ls) ls [];simp only[List.length_nil,G3]at h2;split
  .simp only[Ro,List.length_singleton,CH]
   omega
  .simp
def Q6 {g os:List (List Int)} {c:Int} (hg:Is g) (hc:0<=c) (h: ∀o∈os,∀x∈o,(0:Int)<=x): ∀x∈Dx g os c,0<=x:=by
 unfold Dx;split
 .simp
 .rename_i ls hl
  split
  .intro x hx
   have hls: ∀l∈ls,∀x∈l,(0:Int)<=x:=by
    rw[G2 hl];intro l hl x hx;rcases FC.1 hl with hl|hl
    .obtain⟨p,_,rfl⟩:=Mt.1 hl
     exact P3 h p.toNat x (LX.1 hx).1
    .rw[LV.1 hl]at hx
     have:=DV hg hx;omega
   simp only[FC,LV]at hx;rcases hx with(rfl|hx)|rfl
   .exact hc
   .exact Kc _ _ _ hls (by simp) x hx
   .exact Int.le_refl _
  .simp
def JN (k:Nat):Nat:=5*3 ^ (k - 3) - 3
def rP (n:Nat):1<=3 ^ n:=Nat.one_le_pow _ _ (by omega)
def Ie {g : List (List Int)} (hg:Is g): ∀(k:Nat),∀o∈BZ g k,o.length<=JN k/\ ∀x∈o,(0:Int)<=x
 | 0,o,ho=>by
   simp only[BZ,LV]at ho;subst ho;simp[JN]
 | k + 1,o,ho=>by
   have ih:=Ie hg k
   have hmono:JN k<=JN (k+1):=by
    unfold JN;have:3 ^ (k - 3)<=3 ^ (k+1 - 3):=Nat.pow_le_pow_right (by omega) (by omega);omega
   simp only[BZ,FC,LV]at ho;rcases ho with ho|rfl
   .exact⟨Nat.le_trans (ih o ho).1 hmono,(ih o ho).2⟩
   .refine⟨?_,Q6 hg (by omega) fun o ho=>(ih o ho).2⟩
    have h1:=Wz (g:=g) (c:=(k:Int)+1) fun o ho=>(ih o ho).1
    by_cases hk:k<3
    .have:Aw g ((k:Int)+1)= []:=by
      apply List.eq_nil_iff_forall_not_mem.2;intro p hp;have:=DV hg hp;omega
     rw[this]at h1
     have:JN (k+1)=2:=by
      have:k+1 - 3=0:=by omega
      simp[JN,this]
     simpa[this]using h1
    .have h2:=Cz hg ((k:Int)+1)
     have h3:(Aw g ((k:Int)+1)).length*(JN k+1)<=3*(JN k+1):=Uo _ h2;have:k+1 - 3=(k - 3)+1:=by omega
     unfold JN at *;rw[this,Nat.pow_succ];have:=rP (k - 3);omega
def aj {k:Nat} (h:k<=18):JN k<=71744535:=by
 unfold JN;have:3 ^ (k - 3)<=3 ^ 15:=Nat.pow_le_pow_right (by omega) (by omega);have e:(3:Nat) ^ 15=14348907:=by decide
 omega
def E6 {g:List (List Int)}: ∀ {k j:Nat},j<=k->(BZ g k)[j]? =(BZ g j)[j]?
 | 0,j,h=>by(obtain rfl:j=0:=by omega);rfl
 | k+1,j,h=>by
   by_cases e:j=k+1
   .subst e;rfl
   .rw[<-E6 (k:=k) (by omega),BZ,k7 (by rw[Cc];omega)]
def YT {g os:List (List Int)} {c:Int} {ls:List (List Int)} (hg:Is g) (h:EG g os c=some ls) {B:Nat} (hB: ∀o∈os,o.length<=B/\ ∀x∈o,(0:Int)<=x) (hb:B<=100000000):Mz ls/\total ls<AX:=by
 have h3:=Cz hg c;have ht:=Fh h fun o ho=>(hB o ho).1
 have:(Aw g c).length*(B+1)<=3*(B+1):=Uo _ h3;have htl:total ls<AX:=by simp only[AX];omega
 refine⟨⟨?_,fun l hl=>⟨?_,?_⟩⟩,htl⟩
 .rw[G2 h]
  simp only[Ro,BL,List.length_singleton,AX];omega
 .have:=b6 hl
  simp only[AX]at *;omega
 .intro x hx
  rw[G2 h]at hl;rcases FC.1 hl with hl|hl
  .obtain⟨p,_,rfl⟩:=Mt.1 hl
   exact P3 (fun o ho=>(hB o ho).2) p.toNat x (LX.1 hx).1
  .rw[LV.1 hl]at hx
   have:=DV hg hx;omega
def cT (g : List (List Int)) (f:Bool) (hg:Is g):Pure zP 251 [.l (Ek g) f] (.l (Ek (B3 g)) false):=by
 refine ux kZ ?_
 conv=>whnf
 repeat((first|clear U K|apply st|(apply zk;intro K U)|fail);conv=>whnf)
 have hg16:=hg.1;have hgm:g.length<=AX:=by simp only[AX];omega
 refine⟨.l (Ek [[0]]) true,emp,fun _ _ h=>h,.l (fun _=>rfl) (.cons (.cons (.l (fun h=>(by cases h)) (.refl _ _ _)) .nil) .nil),?_⟩;refine zh ?_;(repeat clear U K);repeat intro K U
 refine By (2+g.length) (fun k v=>[(3,v),(4,eI (JL 1 k))]) (fun k v=>[.own v 1 (Ek (BZ g k))]) (fun _ _=>True) (.l (Ek [[0]]) true) rfl trivial (lY Sat.nil (by simp)) ?_;rintro k v Z hk - hs;have hc1:JL 1 k=(k:Int)+1:=by rw[L8 (by omega) (by omega)];omega
 have hw:IntKind.i64.wrap (3+((Ek g).length:Nat))=3+(g.length:Int):=by rw[BL,wrap64 (by omega) (by omega)]
 refine zh ?_;(repeat clear U K);repeat intro K U
 rw[hc1];rw[hw];refine fork (fun hlt=>?_) (fun hlt=>?_)
 .have hlt':k<2+g.length:=by omega
  have hB:=Ie hg k;have hb18:JN k<=71744535:=aj (by omega);have hc2:JL 1 (k+1)=IntKind.i64.wrap ((k:Int)+1+1):=by rw[JL,hc1]
  refine zh ?_;(repeat clear U K);repeat intro K U
  refine⟨.l (iL []) false,Z,fun _ _ h=>h,.l (fun h=>(by cases h)) (.refl _ _ _),?_⟩
  conv=>whnf
  repeat((first|clear U K|apply st|(apply zk;intro K U)|fail);conv=>whnf)
  refine(jb g (BZ g k) f v ((k:Int)+1) (by omega) hgm (fun o ho=>by have:=(hB o ho).1;simp only[AX];omega) (by have:=Cz hg ((k:Int)+1);omega)
   (fun p hp=>by have:=DV hg hp;rw[Cc];omega)).use (rest:=[]) hs ?_
  rintro r post Z' ⟨rfl,rfl⟩ hs;cases hl:EG g (BZ g k) ((k:Int)+1)with
  | none=>
    refine zh ?_;(repeat clear U K);repeat intro K U
    refine F0 hs 0 (x:=[]) rfl (by rw[Cc];simp only[AX];omega) C7 fun v' Z' hs'=>?_
    conv=>whnf
    refine⟨v',Z',fun _ _ h=>h,.refl _,?_⟩;refine zh ?_;(repeat clear U K);repeat intro K U
    refine⟨hlt',v',?_,trivial,?_⟩
    .skip
     rw[hc2];rfl
    .have:Dx g (BZ g k) ((k:Int)+1)= []:=by simp[Dx,hl,]
     rw[BZ,this];exact hs'
  | some ls=>
    obtain⟨hok,htot⟩:=YT hg hl hB (by omega);refine zh ?_;(repeat clear U K);repeat intro K U
    refine(jX ls false hok htot).use ?_;have hml:=IW (total ls) ls [];simp only[List.length_nil,G3]at hml;refine zh ?_;(repeat clear U K);repeat intro K U
    refine⟨fun h=>?_,fun h=>?_⟩<;>(try rw[h])
    .conv=>whnf
     repeat((first|clear U K|(apply zk;intro K U)|fail);conv=>whnf)
     refine GP (lY hs (by simp)) 1 (xs:=[(k:Int)+1]) rfl (by simp[CH];have:=Fh hl fun o ho=>(hB o ho).1;have h3:=Cz hg ((k:Int)+1);have:(Aw g ((k:Int)+1)).length*(JN k+1)<=3*(JN k+1):=Uo _ h3;simp only[AX]at *;omega) Bc fun u Z1 hs=>?_
     conv=>whnf
     refine F0 hs 1 (x:=0) rfl (by simp[CH];have:=Fh hl fun o ho=>(hB o ho).1;have h3:=Cz hg ((k:Int)+1);have:(Aw g ((k:Int)+1)).length*(JN k+1)<=3*(JN k+1):=Uo _ h3;simp only[AX]at *;omega) Bc fun u Z1 hs=>?_
     conv=>whnf
     refine qd hs 1 rfl fun Z' hs=>?_
     conv=>whnf
     repeat((first|clear U K|apply st|(apply zk;intro K U)|fail);conv=>whnf)
     refine F0 hs 0 (x:=([(k:Int)+1]++(CH ls).1++[0])) rfl (by rw[Cc];simp only[AX];omega) C7 fun v' Z' hs'=>?_
     conv=>whnf
     refine⟨v',Z',fun _ _ h=>h,.refl _,?_⟩;refine zh ?_;(repeat clear U K);repeat intro K U
     refine⟨hlt',v',?_,trivial,?_⟩
     .skip
      rw[hc2];rfl
     .have:Dx g (BZ g k) ((k:Int)+1)=([(k:Int)+1]++(CH ls).1++[0]):=by simp[Dx,hl,h]
      rw[BZ,this];exact hs'
    .refine zh ?_;(repeat clear U K);repeat intro K U
     refine F0 hs 0 (x:=[]) rfl (by rw[Cc];simp only[AX];omega) C7 fun v' Z' hs'=>?_
     conv=>whnf
     refine⟨v',Z',fun _ _ h=>h,.refl _,?_⟩;refine zh ?_;(repeat clear U K);repeat intro K U
     refine⟨hlt',v',?_,trivial,?_⟩
     .skip
      rw[hc2];rfl
     .have:Dx g (BZ g k) ((k:Int)+1)= []:=by simp[Dx,hl,h]
      rw[BZ,this];exact hs'
 .refine zh ?_;(repeat clear U K);repeat intro K U
  have hke:k=2+g.length:=by omega
  subst hke;exact EF hs 0 rfl rfl
def sJ (g:List (List Int)) (f:Bool) (c:Int) (hg:Is g) (h0:0<=c) (h1:c<3+g.length):Pure zP 180 [.l (Ek g) f,eI c] (.t [.l (iL ((B3 g).getD c.toNat [])) false,.b (!((B3 g).getD c.toNat []).isEmpty)]):=by
 refine vt kZ ?_
 conv=>whnf
 repeat((first|clear U K|apply st|(apply zk;intro K U)|fail);conv=>whnf)
 refine(cT g f hg).use ?_
 conv=>whnf
 have hlen:=Cc g (2+g.length);have hlt:c.toNat<(B3 g).length:=by unfold B3;omega
 have hq:=Cw hlt;refine RZ c.toNat hq (by omega) rfl ?_;refine zh ?_;(repeat clear U K);repeat intro K U
 refine AF ?_;rw[DL,hq,Option.getD_some];cases(B3 g)[c.toNat]with
 | nil=>rfl
 | cons _ _=>simp
def wFit (w:AH):Prop:=w.parents.length<=1000/\(∀l∈w.parents,l.length<=AX)/\w.owner.length<=AX
def fy {ps:List (List Int)} {c:Nat} (h3:3<=c) (hc:c<3+ps.length):ps[c - 3]? =some (par ps c):=by
 unfold par;rw[if_neg (by omega),DL,Cw (by omega)];rfl
def ZU {bs:List Bool} {j:Nat} (h:j<bs.length):(bL bs)[j]? =some [.b (bs.getD j false)]:=by
 rw[Mu,DL,Cw h];rfl
def X6 (bs:List Bool) (j:Nat) (x:Bool):(bL bs).set j [.b x]=bL (bs.set j x):=by
 simp[bL,List.map_set]
def xz (w : AH) (c:Nat) (hw:wFit w) (ho:ordered w.parents) (hc:c<3+w.parents.length):Pure zP 291 [.a (A1 w),eI c] (.l (bL (HS w.parents (3+w.parents.length) c (c - 2))) false):=by
 obtain⟨hw1,hw2,hw3⟩:=hw;have hmL:3+w.parents.length<=AX:=by simp only[AX];omega
 refine uW kZ ?_;refine zh ?_;(repeat clear U K);repeat intro K U
 rw[show IntKind.i64.wrap (3+((Ek w.parents).length:Nat))=((3+w.parents.length:Nat):Int) by rw[BL,wrap64 (by omega) (by omega)];omega];refine z6 Sat.nil (by omega) fun v Z hs hv=>?_
 obtain⟨id,rfl⟩:=hv
 conv=>whnf
 repeat((first|clear U K|apply st|(apply zk;intro K U)|fail);conv=>whnf)
 refine eW hs 0 c rfl rfl (by simpa using hc) ?_
 conv=>whnf
 refine MS hs 0 rfl (e:=[.b false]) (by simp[hc]) rfl rfl rfl rfl rfl fun Z hs=>?_
 have e0:(List.replicate (3+w.parents.length) [V.b false]).set c [V.b true]=bL (HS w.parents (3+w.parents.length) c 0):=by
  simp only[HS];rw[<-X6];simp[bL]
 refine zh ?_;(repeat clear U K);repeat intro K U
 refine By (c - 2) (fun k (_:Unit)=>[(6,eI (Oc c k))]) (fun k _=>[.own (.sl id (3+w.parents.length) (3+w.parents.length)) 1 (bL (HS w.parents (3+w.parents.length) c k))]) (fun _ _=>True) () rfl trivial (e0 ▸ hs) ?_;rintro k - Z hk - hs;have hd:Oc c k=(c:Int) - k:=UU (by omega) (by omega);have hul:=Lu w.parents (3+w.parents.length) c k;refine zh ?_;(repeat clear U K);repeat intro K U
 refine fork (fun hlt=>?_) (fun hlt=>?_)
 .rw [hd]at hlt
  have h3:3<=c - k:=by omega
  have hpar:=fy (ps:=w.parents) h3 (by omega);have hpl:=hw2 _ (Bz hpar);refine zh ?_;(repeat clear U K);repeat intro K U
  refine RZ (c - k - 3) hpar (by rw[hd,wrap64 (by omega) (by omega)];omega) rfl ?_;refine zh ?_;(repeat clear U K);repeat intro K U
  refine By (par w.parents (c - k)).length (fun j (_:Unit)=>[(29,eI (A9 j))]) (fun j _=>[.own (.sl id (3+w.parents.length) (3+w.parents.length)) 1 (bL (Fk (HS w.parents (3+w.parents.length) c k) (c - k) ((par w.parents (c - k)).take j)))]) (fun _ _=>True) () rfl trivial hs ?_;rintro j - Z hj - hs;have hml:=Nf (c - k) ((par w.parents (c - k)).take j) (HS w.parents (3+w.parents.length) c k);refine zh ?_;(repeat clear U K);repeat intro K U
  refine GU hj hpl (fun p hp hjlt=>?_) fun hj=>?_
  .have hpp:=ho _ p (Bz hp)
   have hm:(Fk (HS w.parents (3+w.parents.length) c k) (c - k) ((par w.parents (c - k)).take (j+1)))=(Fk (HS w.parents (3+w.parents.length) c k) (c - k) ((par w.parents (c - k)).take j)).set p.toNat
    ((Fk (HS w.parents (3+w.parents.length) c k) (c - k) ((par w.parents (c - k)).take j)).getD p.toNat false||(Fk (HS w.parents (3+w.parents.length) c k) (c - k) ((par w.parents (c - k)).take j)).getD (c - k) false):=by
    rw[AL hp,Mg];rfl
   generalize hbs:Fk (HS w.parents (3+w.parents.length) c k) (c - k) ((par w.parents (c - k)).take j)=bs at *;have hlp:p.toNat<bs.length:=by omega
   have hlc:c - k<bs.length:=by omega
   refine zh ?_;(repeat clear U K);repeat intro K U
   refine JO hp hpl rfl ?_;refine zh ?_;(repeat clear U K);repeat intro K U
   refine eW hs 0 p.toNat rfl (by omega) (by simpa using hlp) ?_
   conv=>whnf
   refine IG hs 0 rfl (ZU hlp) ?_
   conv=>whnf
   cases hb:bs.getD p.toNat false with
   | true=>
     rw[hb]at hm;refine zh ?_;(repeat clear U K);repeat intro K U
     refine eW hs 0 p.toNat rfl (by omega) (by simpa using hlp) ?_
     conv=>whnf
     refine MS hs 0 rfl (ZU hlp) rfl rfl rfl rfl rfl fun Z hs=>?_
     refine zh ?_;(repeat clear U K);repeat intro K U
     refine⟨hjlt,(),rfl,trivial,?_⟩;rw[hm,<-X6];exact hs
   | false=>
     rw[hb]at hm;refine zh ?_;(repeat clear U K);repeat intro K U
     refine eW hs 0 (c - k) rfl (by rw[hd];omega) (by simpa using hlc) ?_;refine zh ?_;(repeat clear U K);repeat intro K U
     refine IG hs 0 rfl (ZU hlc) ?_
     conv=>whnf
     refine eW hs 0 p.toNat rfl (by omega) (by simpa using hlp) ?_
     conv=>whnf
     refine MS hs 0 rfl (ZU hlp) rfl rfl rfl rfl rfl fun Z hs=>?_
     refine zh ?_;(repeat clear U K);repeat intro K U
     refine⟨hjlt,(),rfl,trivial,?_⟩;rw[hm,<-X6];exact hs
  .rw[Ap hj]at hs
   refine zh ?_;(repeat clear U K);repeat intro K U
   refine⟨by omega,(),rfl,trivial,hs⟩
 .rw[hd]at hlt
  refine zh ?_;(repeat clear U K);repeat intro K U
  have:k=c - 2:=by omega
  subst this;exact EF hs 0 rfl rfl
def Tb (n:Int):Bool:=decide (-1000000000<=n)&&decide (n<=1000000000)
def pV (n:Int):Pure zP 182 [eI n] (.b (Tb n)):=by
 refine vq kZ ?_
 conv=>whnf
 repeat'((first|clear U K|apply st|(apply zk;intro K U)|refine zn ?_|refine za (fun hc=>?_) fun hc=>?_|fail)<;>conv=>whnf)
 all_goals exact AF (by simp[Tb, *]<;>omega)
def KV (k:Int):Bool:=k==1||k==4
def rz (k:Int):Pure zP 132 [eI k] (.b (KV k)):=by
 refine wK kZ ?_
 conv=>whnf
 repeat'((first|clear U K|apply st|(apply zk;intro K U)|refine zn ?_|refine za (fun hc=>?_) fun hc=>?_|fail)<;>conv=>whnf)
 all_goals exact AF (by simp[KV, *])
def Ev {p:Prog} (h:Eu (.a (BK p))):p.AJ.length<=AX/\p.CW.length<=AX/\p.methods.length<=AX/\p.nodes.length<=AX:=by
 simp only[BK,GV,C9,Ex,BL]at h;exact⟨h.1.1,h.2.2.1.1,h.2.2.2.1.1,h.2.2.2.2.1.1⟩
def JT (p:Prog) (x:Node):Int:=
 if x.op=1\/x.op=2\/x.op=3\/x.op=6\/x.op=18 then 0 else
 if x.op=4\/x.op=8\/x.op=17 then 1 else
 if x.op=7\/x.op=9\/x.op=11\/x.op=12\/x.op=13\/x.op=14\/x.op=15\/x.op=16 then 2 else
 if x.op=10 then 3 else
 if x.op=5/\0<=x.n/\x.n<p.CW.length then p.CW.getD x.n.toNat 0 else -1
def nP (p:Prog) (x:Node):Pure zP 187 [.a (BK p),.a (Iw x)] (eI (JT p x)):=by
 refine Pure.fit (by kernel_rfl) fun hf=>?_
 have⟨p1,p2,p3,p4⟩:=Ev hf.1;have hM:=Mx;refine vd kZ ?_
 conv=>whnf
 repeat'((first|clear U K|apply st|(apply zk;intro K U)|refine zn ?_|refine ze fun x hx=>?_|(refine zd (fun hc=>?_) (fun hc=>?_)<;>try exact⟨⟩)|fail)<;>conv=>whnf)
 all_goals first
  | (refine AF ?_;simp[JT, *];done)
  | (refine AF ?_;simp[JT, *];intros;omega)
  | (have hd:=(Ii.1 hx).2;refine AF ?_;simp[JT, *];done)
def M0 (p:Prog) (x:Node) (size:Int):Bool:=
 if x.op=1 then Tb x.n else if x.op=3 then decide (0<=x.n)&&decide (x.n<size)else if x.op=4\/x.op=7 then decide (0<=x.n)&&decide (x.n<p.AG)else
 if x.op=5 then decide (0<=x.n)&&decide (x.n<p.CW.length)else if x.op=6\/x.op=8 then decide (3<=x.n)&&decide (x.n<3+p.AJ.length)else x.n==0
def cW (p:Prog) (x:Node) (size:Int):Pure zP 188 [.a (BK p),.a (Iw x),eI size] (.b (M0 p x size)):=by
 refine Pure.fit (by kernel_rfl) fun hf=>?_
 have⟨p1,p2,p3,p4⟩:=Ev hf.1;have hM:=Mx;refine vZ kZ ?_
 conv=>whnf
 repeat'((first|clear U K|apply st|(apply zk;intro K U)|refine zn ?_|refine Pure.use (pV _) ?_|refine za (fun hc=>?_) fun hc=>?_|fail)<;>conv=>whnf)
 all_goals first
  | (refine AF ?_;simp[M0, *];done)
  | (refine AF ?_;rw[BL,wrap64 (by omega) (by omega)];simp[M0, *];done)
  | (refine AF ?_;simp[M0, *];intros;omega)
def VF (ps:List (List Int)) (a b:Int):Bool:=a==b||(b==0||(decide (3<=a)&&KD ps a.toNat b.toNat))
def kX (w:AH) (a b:Int) (hl:w.parents.length<=1000) (ho:ordered w.parents) (ha:0<=a) (ha':a<3+w.parents.length) (hb:0<=b) (hb':b<3+w.parents.length):Pure zP 252 [.a (A1 w),eI a,eI b] (.b (VF w.parents a b)):=by
 refine Pure.fit (by kernel_rfl) fun hf=>?_
 have⟨w1,w2,w3⟩:=VQ hf.1;have hM:=Mx;refine uw kZ ?_
 conv=>whnf
 repeat'((first|clear U K|apply st|(apply zk;intro K U)|refine zn ?_|refine za (fun hc=>?_) fun hc=>?_|fail)<;>conv=>whnf)
 .exact AF (by simp[VF,hc])
 .exact AF (by simp[VF, *];omega)
 .have hc':0<=a:=ha
  obtain⟨a,rfl⟩: ∃n:Nat,a=n:=⟨a.toNat,by omega⟩
  refine(xz w a ⟨hl,w2,w3⟩ ho (by omega)).use ?_;have hul:=Lu w.parents (3+w.parents.length) a (a - 2)
  conv=>whnf
  repeat'((first|clear U K|apply st|(apply zk;intro K U)|refine ze fun x hx=>?_|fail)<;>conv=>whnf)
  refine AF ?_;have hu:=ZZ ho (n:=3+w.parents.length) (c:=a) (by omega) b.toNat;rw[DL,hx]at hu;simp at hu;have e1:((a:Int)==b)=false:=by simpa using ‹(a:Int)≠b›
  have e2:(b==0)=false:=by simpa using ‹b≠0›
  simp[VF,e1,e2,hc,hu]
 .exact AF (by simp[VF,hc])
structure Ur (w:AH):Prop where
 len:w.parents.length<=60
 ord:ordered w.parents
 own: ∀c∈w.owner,(3:Int)<=c/\c<3+w.parents.length
 olen:w.owner.length<=40
def Cp (w:AH) (s:Int):Int:=w.owner.getD s.toNat 0
def hasB (w:AH) (c s:Int):Bool:=decide (3<=c)&&VF w.parents c (Cp w s)
def sX (w:AH) (c s:Int) (hw:Ur w) (hc0:0<=c) (hc1:c<3+w.parents.length) (hs0:0<=s) (hs1:s<w.owner.length):Pure zP 181 [.a (A1 w),eI c,eI s] (.b (hasB w c s)):=by
 refine Pure.fit (by kernel_rfl) fun hf=>?_
 have⟨w1,w2,w3⟩:=VQ hf.1;have hM:=Mx;have hl:=hw.len;refine vr kZ ?_
 conv=>whnf
 repeat'((first|clear U K|apply st|(apply zk;intro K U)|refine zn ?_|refine ze fun x hx=>?_|refine za (fun hc=>?_) fun hc=>?_|fail)<;>conv=>whnf)
 .have:=hw.own x (Bz hx)
  refine(kX w c x (by omega) hw.ord hc0 hc1 (by omega) (by omega)).use ?_;refine zu ?_;(repeat clear U K);repeat intro K U
  exact AF (by simp[hasB,Cp,hx,hc])
 .exact AF (by simp[hasB];omega)
end Go.Gl
