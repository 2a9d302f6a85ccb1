import Derived.Test.YtinppljblkpedaaGreatU12
import Derived.Test.YtinppljblkpedaaGreatU14
import Derived.Test.YtinppljblkpedaaGreatU15
import Derived.Test.YtinppljblkpedaaGreatU16
import Derived.Test.YtinppljblkpedaaGreatU17
set_option linter.all false
set_option linter.defProp false
set_option maxHeartbeats 8000000
noncomputable section
namespace Go.Gl
open Go.Proofs
attribute [local irreducible] As Ag AY AQ AL AX AP AR AK AW AM AN Ai Ap Sat AT An AZ W
def Vr (g:FuncId) (fi ca:List V) (f:Int->Bool):Prop:= ∀y:Int,Pure zP g (fi++[eI y]++ca) (.b (f y))
def Vr.use {g:FuncId} {fi ca:List V} {f:Int->Bool} (h:Vr g fi ca f) {y:Int} {Z:AE} {k kp:V->AE->Prop} (hk:k (.b (f y)) Z):Ai zP (.f (.func g) fi ca) [eI y] Z (qk k kp):=A0 ((h y).use hk)
def pC (g:FuncId) (fi ca:List V) (L:List At) (p:Int->Bool) (hx:Cw zP (.f (.func g) fi ca) eI (fun _:Unit=>L) (Vd p) (fun _ _=>True)) (xs:List Int) (f:Bool):BL zP 394 [.l (iL xs) f,.f (.func g) fi ca] L fun r post=>r= .ret (.l (iL (xs.filter p)) false)/\post=L:=by
 intro Z hs;refine As.fit (by kernel_rfl) fun hf=>?_
 have hxl:=Nj hf.1;have hM:=Mx;refine iZ kZ ?_;refine zv ?_;(repeat clear U K);repeat intro K U
 refine B4 xs.length (fun k v=>[(5,v),(10,eI (A7 k))]) (fun k v=>L++[.own v 1 (iL ((xs.take k).filter p))]) (fun _ _=>True) (.l [] true) rfl trivial (EY hs 1) ?_;clear hs;rintro k v Z hk - hs;have hfl:=TZ p (xs.take k);rw[Je]at hfl;rcases A9 xs hk with⟨y,hy,hlt⟩|hke
 .have hst:(xs.take (k+1)).filter p=if p y then(xs.take k).filter p++[y]else(xs.take k).filter p:=by
   rw[AU hy,List.filter_append];cases hp:p y<;>simp[hp]
  generalize (xs.take k).filter p=zs at *
  conv=>whnf
  repeat'((first|clear U K|apply st|(apply zk;intro K U)|refine zX ?_|refine hx.useF (s:=()) (rest:=[_]) trivial hs (fun Z hs=>?_)|(refine zd (fun hc=>?_) (fun hc=>?_)<;>try exact⟨⟩)|fail)<;>conv=>whnf)
  .refine G5 (GO hs L.length (xs:=zs) (x:=y) List.getElem?_concat_length (by omega) Cs fun v' Z' hs' hsl=>?_)
   rw[List.set_append_right _ _ (Ft _),Nat.sub_self]at hs';replace hs:=hs';refine zv ?_;(repeat clear U K);repeat intro K U
   rw[if_pos (by assumption)]at hst;exact⟨hlt,_,rfl,trivial,by rw[hst];exact hs⟩
  .rw[if_neg (by simp[*])]at hst
   exact⟨hlt,_,rfl,trivial,by rw[hst];exact hs⟩
 .refine zv ?_;(repeat clear U K);repeat intro K U
  rw[BA hke]at hs;obtain⟨Z2,h1,h2,h3⟩:=HT hs L.length List.getElem?_concat_length;refine Fx h1 h2 ⟨_,⟨rfl,rfl⟩,?_⟩;rw[List.eraseIdx_append_of_length_le (Ft _),Nat.sub_self]at h3;simpa using h3
def lM (g:FuncId) (fi ca:List V) (p:Int->Bool) (hpf:Vr g fi ca p) (xs:List Int) (u:V) (hxl:xs.length<=Ab):BL zP 394 [u,.f (.func g) fi ca] [.own u 1 (iL xs)] fun r post=>r= .ret (.l (iL (xs.filter p)) false)/\post= [.own u 1 (iL xs)]:=by
 intro Z hs;have hM:=Mx;refine iZ kZ ?_;refine zv ?_;(repeat clear U K);repeat intro K U
 refine B4 xs.length (fun k v=>[(5,v),(10,eI (A7 k))]) (fun k v=>[.own u 1 (iL xs),.own v 1 (iL ((xs.take k).filter p))]) (fun _ _=>True) (.l [] true) rfl trivial (EY hs 1) ?_;clear hs;rintro k v Z hk - hs;have hfl:=TZ p (xs.take k);rw[Je]at hfl;rcases A9 xs hk with⟨y,hy,hlt⟩|hke
 .have hst:(xs.take (k+1)).filter p=if p y then(xs.take k).filter p++[y]else(xs.take k).filter p:=by
   rw[AU hy,List.filter_append];cases hp:p y<;>simp[hp]
  generalize (xs.take k).filter p=zs at *
  conv=>whnf
  repeat'((first|clear U K|apply st|(apply zk;intro K U)|refine zX ?_|refine aq fun v Z hs hsl=>?_|refine Vr.use hpf ?_|refine za (fun hc=>?_) fun hc=>?_|fail)<;>conv=>whnf)
  .rw[if_pos (by assumption)]at hst
   exact⟨hlt,_,rfl,trivial,by rw[hst];exact hs.take 2⟩
  .rw[if_neg (by simp[*])]at hst
   exact⟨hlt,_,rfl,trivial,by rw[hst];exact hs.take 2⟩
 .refine zv ?_;(repeat clear U K);repeat intro K U
  rw[BA hke]at hs;obtain⟨Z2,h1,h2,h3⟩:=HT hs 1 rfl;exact Fx h1 h2 ⟨_,⟨rfl,rfl⟩,h3⟩
def zQ:Vr 406 [] [] (· != 0):=by
 intro y;refine uS kZ ?_;have hs:=Sn;exact zW
def mM (xs:List Int) (u:V) (hxl:xs.length<=Ab):BL zP 393 [u] [.own u 1 (iL xs)] fun r post=>r= .ret (.l (iL (xs.filter (· != 0))) false)/\post= [.own u 1 (iL xs)]:=by
 intro Z hs;refine uW kZ ?_
 conv=>whnf
 repeat'((first|clear U K|apply st|(apply zk;intro K U)|fail)<;>conv=>whnf)
 refine(lM 406 [] [] (· != 0) zQ xs u hxl).use (rest:=[]) hs ?_;clear hs;rintro r post Z ⟨rfl,rfl⟩ hs;refine zv ?_;(repeat clear U K);repeat intro K U
 exact Au hs (by simp) (.refl _) fun Z' hs'=>⟨_,⟨rfl,rfl⟩,hs'⟩
def bP (g : List (List Int)) (f:Bool):Pure zP 341 [.l (EV g) f] (.b (Dv g)):=by
 refine Pure.fit (by kernel_rfl) fun hf=>?_
 have⟨g1,g2⟩:=YZ hf.1;have hM:=Mx;refine uz kZ ?_;have hs:=Sn;by_cases h16:g.length<=16
 .conv=>whnf
  repeat'((first|clear U K|apply st|(apply zk;intro K U)|refine zX ?_|(refine zb (fun hc=>?_) (fun hc=>?_)<;>try exact⟨⟩)|fail)<;>conv=>whnf)
  all_goals try(exfalso;omega)
  refine B4 g.length (fun k (_:Unit)=>[(12,eI (A7 k))]) (fun _ _=>[]) (fun k _=>Dv g=JF k (g.drop k)) () rfl (by simp[Dv,h16]) hs ?_;clear hs;rintro k - Z hk hn hs;have hck:A7 k=k:=AS (by omega);rcases A9 g hk with⟨l,hl,hlt⟩|hke
  .have hll:=g2 l (B6 hl)
   rw[drop_cons hl,JF]at hn;by_cases h3:l.length<=3
   .rw[decide_eq_true h3,Cc]at hn
    conv=>whnf
    repeat'((first|clear U K|apply st|(apply zk;intro K U)|refine zX ?_|(refine zb (fun hc=>?_) (fun hc=>?_)<;>try exact⟨⟩)|fail)<;>conv=>whnf)
    all_goals try(exfalso;omega)
    refine B4 l.length (fun j (_:Unit)=>[(22,eI (A7 j))]) (fun _ _=>[]) (fun j _=>Dv g=(Na k (l.take j) (l.drop j)&&JF (k+1) (g.drop (k+1)))) () rfl hn hs ?_;clear hs hn;rintro j - Z hj hn hs;rcases A9 l hj with⟨c,hc0,hjlt⟩|hje
    .rw[drop_cons hc0,Na,rl]at hn
     have hw:IntKind.i64.wrap (3+A7 k)=3+(k:Int):=by rw[hck,wrap64 (by omega) (by omega)]
     conv=>whnf
     repeat'((first|clear U K|apply st|(apply zk;intro K U)|refine zX ?_|refine Pure.use (B3 _ _ _) ?_|(refine zd (fun hc=>?_) (fun hc=>?_)<;>try exact⟨⟩)|fail)<;>conv=>whnf)
     .exact AG (by rw[hn,hc];simp)
     .exact⟨hjlt,(),rfl,by rw[hn,hc,AU hc0];simp[*],hs⟩
     .exact AG (by(rw[hn];have: ¬c<3+(k:Int):=by omega);simp[this])
     .exact AG (by(rw[hn];have: ¬3<=c:=by omega);simp[this])
    .refine zv ?_;(repeat clear U K);repeat intro K U
     exact⟨hlt,(),rfl,by rw[hn,Aj hje];rfl,hs⟩
   .conv=>whnf
    repeat'((first|clear U K|apply st|(apply zk;intro K U)|refine zX ?_|(refine zb (fun hc=>?_) (fun hc=>?_)<;>try exact⟨⟩)|fail)<;>conv=>whnf)
    all_goals try(exfalso;omega)
    exact AG (by rw[hn];simp[h3])
  .refine zv ?_;(repeat clear U K);repeat intro K U
   exact AG (by rw[hn,Aj hke];rfl)
 .conv=>whnf
  repeat'((first|clear U K|apply st|(apply zk;intro K U)|refine zX ?_|(refine zb (fun hc=>?_) (fun hc=>?_)<;>try exact⟨⟩)|fail)<;>conv=>whnf)
  all_goals try(exfalso;omega)
  exact AG (by simp[Dv,h16])
def W6 (g:List (List Int)) (f:Bool):Pure zP 302 [.l (EV g) f] (eI (if Dv g then 0 else 2)):=by
 refine vM kZ ?_;have hs:=Sn
 conv=>whnf
 repeat'((first|clear U K|apply st|(apply zk;intro K U)|refine Pure.use (bP _ _) ?_|refine za (fun hc=>?_) fun hc=>?_|fail)<;>conv=>whnf)
 all_goals exact AG (by simp[*])
def zR (n:Nat) (h:Int):Cw zP (.f (.func 395) [] [.p n 0]) eI (fun _:Unit=>[.box n [eI h]]) (Vd (· != h)) (fun _ _=>True):=by
 intro y s _ Z hs;refine A0 ?_;show As zP 395 ([]++[eI y]++[.p n 0]) Z _;refine uV kZ ?_;refine zv ?_;(repeat clear U K);repeat intro K U
 exact Au hs (List.Sublist.refl _) (.refl _) fun Z' hs'=>⟨rfl,hs'⟩
def eH (ls:List (List Int)):FV ls []=false:=rfl
def ZF (ls:List (List Int)) (x:Int) (r:List Int):FV ls (x::r)=free ls x:=rfl
def eQ {α:Type} {p:α->Bool} {xs:List α} {k:Nat} {x:α} (hx:xs[k]? =some x) (h:(xs.take k).find? p=none):(xs.take (k+1)).find? p=if p x then some x else none:=by
 rw[AU hx,List.find?_append,h];simp only[List.find?_cons,List.find?_nil,Option.none_or];cases p x<;>rfl
def eP {α:Type} {p:α->Bool} {xs:List α} {k:Nat} {x:α} (h:(xs.take k).find? p=some x):xs.find? p=some x:=by
 conv=>lhs;rw[<-List.take_append_drop k xs]
 rw[List.find?_append,h];rfl
def aL (ls:List (List Int)):pick ls=(ls.find? (FV ls)).bind List.head? :=rfl
def lF (ls:List (List Int)) (f:Bool) (hok:NW ls) (ht:total ls<Ab):Pure zP 371 [.l (EV ls) f] (.t [.l (iL (CH ls).1) false,.b (CH ls).2]):=by
 have hM:=Mx;refine uf kZ ?_;have hs:=Sn;refine zv ?_;(repeat clear U K);repeat intro K U
 refine Ff (fun(x:List (List Int)×Bool×V×List Int)=>total x.1) (fun x=>[(0,.l (EV x.1) x.2.1),(4,x.2.2.1)]) (fun x=>[.own x.2.2.1 1 (iL x.2.2.2)])
  (fun x=>NW x.1/\x.2.2.2.length+total x.1<=total ls/\DT (total x.1) x.1 x.2.2.2=CH ls) (ls,f,.l [] true,[]) rfl ⟨hok,by simp,rfl⟩ (EY hs 1) ?_
 clear hs;rintro⟨ls',f',v,out⟩ Z ⟨hok',hlen,hm⟩ hs;dsimp only at hok' hlen hm hs;dsimp only;have hol:=hok'.1;refine zv ?_;(repeat clear U K);repeat intro K U
 refine B4 ls'.length (fun k (t:Bool)=>[(5,.b t),(16,eI (A7 k))]) (fun _ _=>[.own v 1 (iL out)]) (fun k t=>(ls'.take k).find? (FV ls')=none/\t=(ls'.take k).any fun l=> !l.isEmpty) false rfl ⟨rfl,rfl⟩ hs ?_;clear hs;rintro k t Z hk ⟨hfd,hta⟩ hs;rcases A9 ls' hk with⟨l,hl,hlt⟩|hke
 .have hfs:=eQ (p:=FV ls') hl hfd
  have has:((ls'.take (k+1)).any fun l=> !l.isEmpty)=(t|| !l.isEmpty):=by rw[AU hl,List.any_append,<-hta];simp
  have hb:=hok'.2 _ (B6 hl);cases l with
  | nil=>
    have hnl:([]:List Int).length=0:=rfl;rw[eH,if_neg (by decide)]at hfs
    conv=>whnf
    repeat'((first|clear U K|apply st|(apply zk;intro K U)|refine zX ?_|(refine zb (fun hc=>?_) (fun hc=>?_)<;>try exact⟨⟩)|fail)<;>conv=>whnf)
    exact⟨hlt,_,rfl,⟨hfs,by rw[has];simp⟩,hs⟩
  | cons x r=>
    have hx0:(x::r)[Int.toNat 0]? =some x:=rfl;have hnl:(x::r).length=r.length+1:=rfl;rw[ZF]at hfs;simp only[List.isEmpty_cons,Bool.not_false,Bool.or_true]at has
    conv=>whnf
    repeat'((first|clear U K|apply st|(apply zk;intro K U)|refine zX ?_|(refine zb (fun hc=>?_) (fun hc=>?_)<;>try exact⟨⟩)|fail)<;>conv=>whnf)
    refine B4 ls'.length (fun j (_:Unit)=>[(25,eI (A7 j))]) (fun _ _=>[.own v 1 (iL out)]) (fun j _=>free ls' x=(ls'.drop j).all fun m=> !(m.drop 1).contains x) () rfl rfl hs ?_;clear hs;rintro j - Z hj hfr hs;rcases A9 ls' hj with⟨m,hm0,hjlt⟩|hje
    .have hmb:=(hok'.2 _ (B6 hm0)).1
     rw[drop_cons hm0,Ri]at hfr;cases m with
     | nil=>
       have hml:([]:List Int).length=0:=rfl
       conv=>whnf
       repeat'((first|clear U K|apply st|(apply zk;intro K U)|refine zX ?_|(refine zb (fun hc=>?_) (fun hc=>?_)<;>try exact⟨⟩)|fail)<;>conv=>whnf)
       exact⟨hjlt,(),rfl,by rw[hfr];rfl,hs⟩
     | cons y s=>
       have hml:(y::s).length=s.length+1:=rfl
       conv=>whnf
       repeat'((first|clear U K|apply st|(apply zk;intro K U)|refine zX ?_|(refine zb (fun hc=>?_) (fun hc=>?_)<;>try exact⟨⟩)|fail)<;>conv=>whnf)
       refine V9 1 rfl (by omega) (fun _=>rfl) ?_
       conv=>whnf
       repeat'((first|clear U K|apply st|(apply zk;intro K U)|refine zX ?_|refine Pure.use (B3 _ _ _) ?_|refine za (fun hc=>?_) fun hc=>?_|fail)<;>conv=>whnf)
       .rw[hc]at hfr
        have hfr2:free ls' x=false:=by rw[hfr];rfl
        rw[hfr2,if_neg (by decide)]at hfs;exact⟨hlt,true,rfl,⟨hfs,by rw[has]⟩,hs⟩
       .exact⟨hjlt,(),rfl,by rw[hfr,hc];rfl,hs⟩
    .rw[Aj hje]at hfr
     have hgood:free ls' x=true:=hfr;rw[hgood,if_pos rfl]at hfs;have hp:pick ls'=some x:=by rw[aL,eP hfs];rfl
     have htp:=I3 hp
     conv=>whnf
     repeat'((first|clear U K|apply st|(apply zk;intro K U)|refine zX ?_|refine zr fun Z hs=>?_|refine aq fun v Z hs hsl=>?_|refine zp fun nn hnn Z hs=>?_|fail)<;>conv=>whnf)
     have hs2:Sat Z [.own v 1 (iL (out++[x])),.box nn [eI x]]:=hs;refine B4 ls'.length (fun k u=>[(11,u),(50,eI (A7 k))]) (fun k u=>[.own v 1 (iL (out++[x])),.box nn [eI x],.own u 1 (EV ((ls'.take k).map fun l=>l.filter (· != x)))]) (fun _ _=>True) (.l [] true) rfl trivial (EY hs2 1) ?_;clear hs hs2;rintro q u Z hq - hs;rcases A9 ls' hq with⟨w,hw,hqlt⟩|hqe
     .refine zv ?_;(repeat clear U K);repeat intro K U
      refine(pC 395 [] [.p nn 0] [.box nn [eI x]] (· != x) (zR nn x) w false).use (rest:=[_,_]) (hs.perm (.swap _ _ _)) ?_;clear hs;rintro rr post Z ⟨rfl,rfl⟩ hs
      conv=>whnf
      repeat'((first|clear U K|apply st|(apply zk;intro K U)|refine zX ?_|refine aq fun v Z hs hsl=>?_|fail)<;>conv=>whnf)
      refine⟨hqlt,_,rfl,trivial,?_⟩;rw[AU hw,LX];exact hs.perm (.swap _ _ _)
     .refine zv ?_;(repeat clear U K);repeat intro K U
      rw[BA hqe]at hs;refine sK hs 2 rfl fun Z' hs'=>?_
      refine zv ?_;(repeat clear U K);repeat intro K U
      refine⟨(ls'.map fun l=>l.filter (· != x),false,v,out++[x]),htp,rfl,⟨hok'.filter x,by simp;omega,?_⟩,hs'.take 1⟩;rw[<-Of hp];exact hm
 .rw[BA hke]at hfd hta
  have hp:pick ls'=none:=by rw[aL,hfd];rfl
  rw[RG hp]at hm;refine zv ?_;(repeat clear U K);repeat intro K U
  refine Af ?_;rw[<-hm];refine .t (.cons (hs.MB 0 rfl) (.cons ?_ .nil));have:(!t)=ls'.all List.isEmpty:=by rw[hta];simp[List.all_eq_not_any_not]
  rw[<-this];exact .refl _
abbrev Ord:=Int×V×List Int
def mr (e:Ord):V×V:=(eI e.1,e.2.1)
def fH (e:Ord):At:= .own e.2.1 1 (iL e.2.2)
abbrev pL (ps:List (List Int×Bool)):List (List V):=ps.map fun p=>[.l (iL p.1) p.2]
abbrev gH (n mm:Nat) (vp vu:V) (ps:List (List Int×Bool)) (us:List Nat) (M:List Ord):List At:=
 .box n [vp,vu,.m mm]:: .own vp 1 (pL ps):: .own vu 1 (us.map fun u=>[eU u]):: .map mm (M.map mr)::M.map fH
def CA (M:List Ord) (c:Int):List Int:=((M.find? fun e=>c==e.1).map fun e=>e.2.2).getD []
def Jh (M:List Ord) (c:Int):V:=((M.find? fun e=>c==e.1).map fun e=>e.2.1).getD (.l [] true)
def lK (M:List Ord) (c:Int):found (.l [] true) false (Cz (eI c) (M.map mr))=Jh M c:=by
 induction M with
 | nil=>rfl
 | cons e r ih=>
   simp only[CK,mr,Cz,Jh,List.find?_cons]at *;have he:Dw (eI c) (eI e.1)=(c==e.1):=rfl;rw[he];cases c==e.1
   .exact ih
   .rfl
def YV (M:List Ord): ∀kv∈M.map mr,Bl (.i .i64) kv.1=true:=by
 intro kv h;obtain⟨e,_,rfl⟩:=GK.1 h;rfl
def ow {M:List Ord} {c:Int} (v:V) (l:List Int) (h: ∀e∈M,e.1≠c):Du (eI c) v (M.map mr)=(M++[(c,v,l)]).map mr:=by
 induction M with
 | nil=>rfl
 | cons e r ih=>
   simp only[CK,List.cons_append,mr,Du];have he:Dw (eI c) (eI e.1)=(c==e.1):=rfl;rw[he,beq_false_of_ne (fun e'=>h e (.head _) e'.symm)];simp only[cond_false];rw[ih fun e he=>h e (.tail _ he)]
def QE (M:List Ord) (c:Int):(CA M c= []/\Jh M c= .l [] true)\/ ∃j:Nat,(M.map fH)[j]? =some (At.own (Jh M c) 1 (iL (CA M c))):=by
 unfold CA Jh;cases h:M.find? fun e=>c==e.1 with
 | none=>exact .inl ⟨rfl,rfl⟩
 | some e=>
   refine .inr ?_;obtain⟨j,hj⟩:=List.getElem?_of_mem (List.mem_of_find?_eq_some h);refine⟨j,?_⟩;rw[LY,hj];rfl
def QF {M:List Ord} {c:Int} {Z:AE} {fx:List At} (hs:Sat Z (fx++M.map fH)) (hl:(CA M c).length<=Ab) {K:V->Prop} (hk:K (.i .i64 (CA M c).length)):An (Jh M c) K:=by
 rcases QE M c with⟨h1,h2⟩|⟨j,hj⟩
 .rw[h2]
  rw[h1]at hk;exact Vj hk
 .have hj':(fx++M.map fH)[fx.length+j]? =some (At.own (Jh M c) 1 (iL (CA M c))):=by
   rw[List.getElem?_append_right (by omega),Nat.add_sub_cancel_left,hj]
  exact NZ hs _ hj' (by simpa using hl) (by simpa using hk)
def lkO {Z:AE} {l:List At} {i mm:Nat} {M:List Ord} {c:Int} {K:V->Prop} (hk:K (Jh M c)) (h:Sat Z l:=by assumption)
    (hi:l[i]? =some (.map mm (M.map mr)):=by first|exact Ro|exact Rn|exact Rm|exact Rl|exact Rk|exact Rj):AM Z (.i .i64) (.l [] true) false (.m mm) (eI c) K:=
 Hc h i hi rfl (YV M) (by rw[lK];exact hk)
def AAz {M:List Ord} {c:Int} {Z:AE} {fx:List At} (hs:Sat Z (fx++M.map fH)) (hl:(CA M c).length<=Ab) (hne:CA M c≠[]) {k kp:V->AE->Prop} (hk: ∀Z',Sat Z' (fx++M.map fH)->k (.l (iL ((CA M c).filter (· != 0))) false) Z'):As zP 393 [Jh M c] Z (qk k kp):=by
 rcases QE M c with⟨h1,h2⟩|⟨j,hj⟩
 .exact absurd h1 hne
 .have hj':(fx++M.map fH)[fx.length+j]? =some (At.own (Jh M c) 1 (iL (CA M c))):=by
   rw[List.getElem?_append_right (by omega),Nat.add_sub_cancel_left,hj]
  refine(mM (CA M c) (Jh M c) hl).qg hs hj' ?_;rintro r Z' rfl hs';exact hk Z' hs'
def XL {Z Z2:AE}: ∀ {a a' b b':List (List V)},Eg Z Z2 a a'->Eg Z Z2 b b'->Eg Z Z2 (a++b) (a'++b')
 | [],[],_,_,.nil,h=>h
 | _::_,_::_,_,_,.cons h1 h2,h=> .cons h1 (XL h2 h)
def lH (n mm:Nat) (vp vu:V) (ps:List (List Int×Bool)) (us:List Nat) (M:List Ord) (c:Int) (l:List Int) (b:Bool) (hc0:0<=c) (hl:ps[c.toNat]? =some (l,b)) (hll:l.length<=3) (hol: ∀c,(CA M c).length<=Ab) :
    BL zP 370 [.p n 0,eI c] (gH n mm vp vu ps us M) fun r post=>r= .ret (if l.any fun p=>(CA M p).isEmpty then .t [.l [] true,.b false]else .t [.l (EV (l.map (fun p=>(CA M p).filter (· != 0))++[l])) false,.b true])/\post=gH n mm vp vu ps us M:=by
 intro Z hs;have hM:=Mx;have hci:c<ps.length:=by have:=(Ip.1 hl).1;omega
 refine ug kZ ?_;refine zz ?_;(repeat clear U K);repeat intro K U
 refine B4 l.length (fun k v=>[(6,v),(17,eI (A7 k))]) (fun k v=> .own v 1 (EV ((l.take k).map fun p=>(CA M p).filter (· != 0)))::gH n mm vp vu ps us M) (fun k _=>((l.take k).any fun p=>(CA M p).isEmpty)=false) (.l [] true) rfl rfl (Ch hs 1) ?_;clear hs;rintro k v Z hk hne hs;rcases A9 l hk with⟨p,hp,hlt⟩|hke
 .have han:((l.take (k+1)).any fun p=>(CA M p).isEmpty)=(CA M p).isEmpty:=by rw[AU hp,List.any_append,hne];simp
  have hap:(l.take k).length<=3:=by rw[Je];omega
  conv=>whnf
  repeat'((first|clear U K|apply st|(apply zk;intro K U)|refine zY ?_|refine lkO ?_|refine QF (fx:=_::_::_::_::_:: []) hs (hol _) ?_|refine za (fun hc=>?_) fun hc=>?_|fail)<;>conv=>whnf)
  .have h0:(CA M p).isEmpty=true:=by rw[List.isEmpty_iff_length_eq_zero];omega
   have hany:(l.any fun p=>(CA M p).isEmpty)=true:=GY.2 ⟨p,B6 hp,h0⟩;refine Au (l':=gH n mm vp vu ps us M) hs (Gg _ _) (.refl _) fun Z' hs'=>⟨_,⟨?_,rfl⟩,hs'⟩
   rw[if_pos hany]
  .have h0:(CA M p).isEmpty=false:=by
    cases h:(CA M p).isEmpty
    .rfl
    .rw[List.isEmpty_iff_length_eq_zero]at h;omega
   refine AAz (fx:=_::_::_::_::_:: []) hs (hol _) (fun e=>by rw[e]at h0;cases h0) fun Z hs=>?_
   conv=>whnf
   repeat'((first|clear U K|apply st|(apply zk;intro K U)|refine zY ?_|refine aq fun v Z hs hsl=>?_|fail)<;>conv=>whnf)
   refine⟨hlt,_,rfl,by rw[han];exact h0,?_⟩;rw[AU hp,LX];exact hs
 .rw[BA hke]at hne hs
  refine zz ?_;(repeat clear U K);repeat intro K U
  refine hAppend hs 0 rfl (by simp;omega) (fun e he=>by simp at he;subst he;rfl) (fun e he v hv=>by simp at he;subst he;simp at hv;subst hv;rfl) fun v Z hs=>?_
  refine zz ?_;(repeat clear U K);repeat intro K U
  obtain⟨Z2,h1,h2,h3⟩:=ts (es':=EV (l.map (fun p=>(CA M p).filter (· != 0))++[l])) hs 0 rfl fun Z2=>by
   have e:EV (l.map (fun p=>(CA M p).filter (· != 0))++[l])=EV (l.map fun p=>(CA M p).filter (· != 0))++[[.l (iL l) false]]:=by simp only[EV,LX,CK,List.map_nil]
   rw[e];exact XL (C2 _) (.cons (.cons OQ .nil) .nil)
  refine Fx h1 (.t (.cons h2 (.cons (.refl _) .nil))) ⟨_,⟨?_,rfl⟩,h3⟩;rw[hne,if_neg (by decide)]
def Sat.rot2 {Z:AE} {l:List At} {a:At} (h:Sat Z (a::l)):Sat Z (l++[a]):=h.perm (by
 have:=HP (l₁:=[a]) (l₂:=l)
 simpa using this)
def DP (M:List Ord) (l:List Int):List (List Int):=l.map (fun p=>(CA M p).filter (· != 0))++[l]
def Hm (M:List Ord) (l:List Int) (c:Int):List Int:=
 if c=0 then [0]else if l.any (fun p=>(CA M p).isEmpty)then []else if(CH (DP M l)).2 then [c]++(CH (DP M l)).1++[0]else []
def bJ (n mm:Nat) (vp vu:V) (ps:List (List Int×Bool)) (us:List Nat) (M:List Ord) {c:Int} {v:V} {l:List Int} (hk: ∀e∈M,e.1≠c) {Z:AE}
    (hs:Sat Z (.own v 1 (iL l):: .box n [vp,vu,.m mm]:: .own vp 1 (pL ps):: .own vu 1 (us.map fun u=>[eU u]):: .map mm (Du (eI c) v (M.map mr))::M.map fH)):Sat Z (gH n mm vp vu ps us (M++[(c,v,l)])):=by
 rw[ow v l hk]at hs;have:=hs.rot2;unfold gH;rw[LX (f:=fH)];exact this
def kY (n mm:Nat) (vp vu:V) (ps:List (List Int×Bool)) (us:List Nat) (M:List Ord) (c:Int) (l:List Int) (b:Bool) (hc0:0<=c) (hl:ps[c.toNat]? =some (l,b)) (hll:l.length<=3) (hol: ∀c,(CA M c).length<=Ab) (hk: ∀e∈M,e.1≠c)
    (hok:NW (DP M l)) (ht:total (DP M l)<1000000000) :
    BL zP 344 [.p n 0,eI c] (gH n mm vp vu ps us M) fun r post=>r= .ret (.t [])/\ ∃M',post=gH n mm vp vu ps us M'/\((M'=M/\Hm M l c= [])\/ ∃v,M'=M++[(c,v,Hm M l c)]/\Hm M l c≠[]):=by
 intro Z hs;have hM:=Mx;refine uw kZ ?_;by_cases hc:c=0
 .subst hc
  conv=>whnf
  repeat'((first|clear U K|apply st|(apply zk;intro K U)|refine zY ?_|(refine zb (fun hc=>?_) (fun hc=>?_)<;>try exact⟨⟩)|fail)<;>conv=>whnf)
  refine Hb hs 3 rfl rfl (YV M) fun Z hs=>?_
  refine zz ?_;(repeat clear U K);repeat intro K U
  refine Au (l':=gH n mm vp vu ps us (M++[(0,.l [[eI 0]] true,[0])])) ?_ (List.Sublist.refl _) (.refl _) fun Z' hs'=>⟨_,⟨rfl,_,rfl,.inr ⟨.l [[eI 0]] true,?_,?_⟩⟩,hs'⟩
  .refine bJ n mm vp vu ps us M hk ?_
   exact gP hs (fun e he=>by simp at he;subst he;rfl)
  .rw[Hm,if_pos rfl]
  .rw[Hm,if_pos rfl];exact fun e=>by cases e
 .have hoc:Hm M l c=if l.any (fun p=>(CA M p).isEmpty)then []else if(CH (DP M l)).2 then [c]++(CH (DP M l)).1++[0]else []:=by rw[Hm,if_neg hc]
  have hli:=lH n mm vp vu ps us M c l b hc0 hl hll hol;have hmg:=lF (DP M l) false hok (by omega);have hml:=I7 (total (DP M l)) (DP M l) [];have hml2:(CH (DP M l)).1.length<=total (DP M l):=by simpa[CH]using hml
  cases hany:l.any fun p=>(CA M p).isEmpty
  .rw[hany,if_neg (by decide)]at hoc
   simp only[hany,JX,if_false]at hli;have hdn: ∀ {Z:AE} {M':List Ord},Sat Z (gH n mm vp vu ps us M')->((M'=M/\Hm M l c= [])\/ ∃v,M'=M++[(c,v,Hm M l c)]/\Hm M l c≠[])->Ag Z (.t []) fun r Z'=> ∃post,(r= .ret (.t [])/\ ∃M',post=gH n mm vp vu ps us M'/\((M'=M/\Hm M l c= [])\/ ∃v,M'=M++[(c,v,Hm M l c)]/\Hm M l c≠[]))/\Sat Z' post:=fun hs h=>Au hs (List.Sublist.refl _) (.refl _) fun Z' hs'=>⟨_,⟨rfl,_,rfl,h⟩,hs'⟩
   conv=>whnf
   repeat'((first|clear U K|apply st|(apply zk;intro K U)|refine zY ?_|(refine zb (fun hc=>?_) (fun hc=>?_)<;>try exact⟨⟩)|fail)<;>conv=>whnf)
   refine hli.use (rest:=[]) (by simpa using hs) ?_;clear hs;rintro r post Z ⟨rfl,rfl⟩ hs;rw[D8]at hs;have hml3:(DP M l)=l.map (fun p=>(CA M p).filter (· != 0))++[l]:=rfl;rw[<-hml3];generalize DP M l=ll at *;cases hb:(CH ll).2<;>rw[hb]at hmg hoc
   .conv=>whnf
    repeat'((first|clear U K|apply st|(apply zk;intro K U)|refine zY ?_|refine zC ?_|fail)<;>conv=>whnf)
    exact hdn hs (.inl ⟨rfl,by rw[hoc];rfl⟩)
   .rw[if_pos rfl]at hoc
    conv=>whnf
    repeat'((first|clear U K|apply st|(apply zk;intro K U)|refine zY ?_|refine zC ?_|fail)<;>conv=>whnf)
    replace hs:=gP hs (sz:=1) (es:=[[eI c]]) (fun e he=>by simp at he;subst he;rfl);refine JI hs 0 (xs:=[c]) (ys:=(CH ll).1) rfl (by simp;omega) Cs fun v Z hs=>?_
    conv=>whnf
    repeat'((first|apply st|refine zY ?_|refine rk ?_ ?_|exact fun s e=>by cases e;rfl|refine aq fun v Z hs hsl=>?_|fail)<;>conv=>whnf)
    refine Hb hs 4 rfl rfl (YV M) fun Z hs=>?_
    refine zz ?_;(repeat clear U K);repeat intro K U
    refine hdn (bJ n mm vp vu ps us M hk (l:=Hm M l c) ?_) (.inr ⟨v,rfl,by rw[hoc];simp⟩);rw[hoc];exact hs
  .rw[hany,if_pos rfl]at hoc
   simp only[hany,if_true]at hli
   conv=>whnf
   repeat'((first|clear U K|apply st|(apply zk;intro K U)|refine zY ?_|(refine zb (fun hc=>?_) (fun hc=>?_)<;>try exact⟨⟩)|fail)<;>conv=>whnf)
   refine hli.use (rest:=[]) (by simpa using hs) ?_;clear hs;rintro r post Z ⟨rfl,rfl⟩ hs;rw[D8]at hs;refine zz ?_;(repeat clear U K);repeat intro K U
   exact Au hs (List.Sublist.refl _) (.refl _) fun Z' hs'=>⟨_,⟨rfl,_,rfl,.inl ⟨rfl,hoc⟩⟩,hs'⟩
end Go.Gl
namespace Go.Gl
def dX {M:List Ord} {k:Int} {v:V} {o:List Int} (h: ∀e∈M,e.1<k) (d:Int):CA (M++[(k,v,o)]) d=if d=k then o else CA M d:=by
 unfold CA;rw[List.find?_append];split
 .rename_i e
  have:M.find? (fun e=>d==e.1)=none:=by
   rw[List.find?_eq_none];intro x hx;have:=h x hx;simp;omega
  rw[this];simp[e]
 .rename_i e
  cases hf:M.find? fun e=>d==e.1 with
  | some x=>simp
  | none=>simp[List.find?_cons,e]
structure JS (g:List (List Int)) (k:Nat) (M:List Ord):Prop where
 keys: ∀e∈M,0<=e.1/\e.1<(k:Int)
 fW: ∀d:Int,0<=d->d<k->CA M d=(B9 g).getD d.toNat []
def WO {g:List (List Int)} {k:Nat} {M:List Ord} (h:JS g k M) {d:Int} (hd:d<0\/(k:Int)<=d):CA M d= []:=by
 unfold CA
 have:M.find? (fun e=>d==e.1)=none:=by
  rw[List.find?_eq_none];intro x hx;have:=h.keys x hx;simp;omega
 rw[this];rfl
def Ms {g:List (List Int)} (hg:JJ g) {k:Nat} {M:List Ord} (h:JS g k M) (d:Int):(CA M d).length<=71744535/\ ∀x∈CA M d,(0:Int)<=x:=by
 by_cases hd:d<0\/(k:Int)<=d
 .rw[WO h hd]
  exact⟨by simp,fun x hx=>by cases hx⟩
 .rw[h.fW d (by omega) (by omega)]
  have hb:=JD hg (2+g.length);have hl:=bk (k:=2+g.length) (by have:=hg.1;omega);unfold B9;exact⟨Wo (fun o ho=>Nat.le_trans (hb o ho).1 hl) _,Qe (fun o ho=>(hb o ho).2) _⟩
def df {g:List (List Int)} (hg:JJ g) {k:Nat} {M:List Ord} (h:JS g k M) {l:List Int} (hl:l.length<=3) (h0: ∀x∈l,(0:Int)<=x):NW (DP M l)/\total (DP M l)<1000000000:=by
 have hM:Ab=17592186044416:=rfl;have hf: ∀p,((CA M p).filter (· != 0)).length<=71744535:=fun p=>Nat.le_trans (TZ _ _) (Ms hg h p).1
 have ht: ∀l:List Int,total (l.map fun p=>(CA M p).filter (· != 0))<=l.length*71744535:=by
  intro l
  induction l with
  | nil=>simp[total]
  | cons p r ih=>
    simp only[total,CK,List.sum_cons,HH]at *;have:=hf p;rw[Nat.add_mul];omega
 refine⟨⟨by simp[DP];omega,fun m hm=>?_⟩,?_⟩
 .rcases Dn.1 hm with hm|hm
  .obtain⟨p,_,rfl⟩:=GK.1 hm
   refine⟨by have:=hf p;omega,fun x hx=>(Ms hg h p).2 x (HD.1 hx).1⟩
  .rw[Jf.1 hm]
   exact⟨by omega,h0⟩
 .have h1:=ht l
  have h2:total (DP M l)=total (l.map fun p=>(CA M p).filter (· != 0))+l.length:=by simp[DP,total]
  have h3:=SE 71744535 hl;omega
def oS {g:List (List Int)} {k:Nat} {M:List Ord} (h:JS g (k+1) M) {l:List Int} (hl:l=A3 g ((k:Int)+1)) (hp: ∀p∈l,(0:Int)<=p/\p<(k:Int)+1) (hk:k+1<3+g.length) :
    Hm M l ((k:Int)+1)=EA g (Bb g k) ((k:Int)+1):=by
 have ho: ∀p∈l,CA M p=(Bb g k).getD p.toNat []:=fun p hpl=>by
  obtain⟨h0,h1⟩:=hp p hpl;rw[h.fW p h0 (by omega)];unfold B9;rw[Cq,Cq,FO (k:=2+g.length) (j:=p.toNat) (by omega),FO (k:=k) (j:=p.toNat) (by omega)]
 have e1:(l.any fun p=>(CA M p).isEmpty)=(l.any fun p=>((Bb g k).getD p.toNat []).isEmpty):=by
  rw[Hl,GY,GY];constructor
  .rintro⟨p,h1,h2⟩;exact⟨p,h1,by rw[<-ho p h1];exact h2⟩
  .rintro⟨p,h1,h2⟩;exact⟨p,h1,by rw[ho p h1];exact h2⟩
 have e2:DP M l=l.map (fun p=>((Bb g k).getD p.toNat []).filter (· != 0))++[l]:=by
  unfold DP;congr 1;exact List.map_congr_left fun p hpl=>by rw[ho p hpl]
 unfold Hm EA Ed;rw[if_neg (by omega),e1,e2,<-hl];split<;>rfl
def JS.nil {g:List (List Int)}:JS g 0 []:=⟨fun e h=>(by cases h),fun d h0 h1=>by omega⟩
def JS.step {g:List (List Int)} {k:Nat} {M M':List Ord} (h:JS g k M) {l:List Int} (hl:l=A3 g (k:Int)) (hp: ∀p∈l,(0:Int)<=p/\p<(k:Int)) (hk:k<3+g.length)
    (hM:(M'=M/\Hm M l k= [])\/ ∃v,M'=M++[((k:Int),v,Hm M l k)]/\Hm M l k≠[]):JS g (k+1) M':=by
 have hc:Hm M l k=(B9 g).getD k []:=by
  cases k with
  | zero=>
    unfold Hm B9;rw[if_pos (by simp),Cq,FO (j:=0) (by omega)];rfl
  | succ k=>
    have:=oS h (by simpa using hl) (fun p hpl=>by have:=hp p hpl;simpa using this) hk;have e:((k+1:Nat):Int)=(k:Int)+1:=by omega
    rw[e,this];unfold B9;rw[Cq,FO (k:=2+g.length) (j:=k+1) (by omega),Bb,List.getElem?_append_right (by rw[Cb];omega),Cb,Nat.sub_self];rfl
 rcases hM with⟨rfl,he⟩|⟨v,rfl,_⟩
 .refine⟨fun e he=>by have:=h.keys e he;omega,fun d h0 h1=>?_⟩
  by_cases hd:d=k
  .subst hd
   rw[WO h (by omega)];rw[GR,<-hc,he]
  .exact h.fW d h0 (by omega)
 .refine⟨fun e he=>?_,fun d h0 h1=>?_⟩
  .rcases Dn.1 he with he|he
   .have:=h.keys e he;omega
   .rw[Jf.1 he]
    exact⟨by simp,by simp;omega⟩
  .rw[dX (fun e he=>(h.keys e he).2)]
   split
   .rename_i hd
    rw[hd,GR];exact hc
   .exact h.fW d h0 (by omega)
end Go.Gl
namespace Go.Gl
open Go.Proofs
attribute [local irreducible] As Ag AY AQ AL AX AP AR AK AW AM AN Ai Ap Sat AT An AZ W
def Ay (p:Prog):List (List Int):=p.AO.map (·.parents)
def sL (p:Prog):Prop:=p.AO.length<=Ab/\ ∀c∈p.AO,c.parents.length<=Ab/\c.AI.length<=Ab/\c.inits.length<=Ab
def bF (p:Prog) (hp:sL p) (hk0:p.AO.length<=1000):Pure zP 59 [.a (BF p)] (.l (EV (Ay p)) false):=by
 refine AAY kZ ?_;refine zh ?_;(repeat clear U K);repeat intro K U
 refine B4 p.AO.length (fun k v=>[(3,v),(4,eI (A7 k))]) (fun k v=>[.own v 1 (EV ((p.AO.take k).map (·.parents)))]) (fun _ _=>True) (.l [] true) rfl trivial (EY Sat.nil 1) ?_;rintro k v Z hk - hs;refine zh ?_;(repeat clear U K);repeat intro K U
 refine Gv hk hp.1 (fun c hc hlt=>?_) fun hk=>?_
 .have hcm:=hp.2 c (B6 hc)
  refine zh ?_;(repeat clear U K);repeat intro K U
  refine Jm hc hp.1 rfl ?_;refine zh ?_;(repeat clear U K);repeat intro K U
  refine iO Cs (by have:=hcm.1;have hM:=Mx;omega) ?_
  conv=>whnf
  refine GO hs 0 (x:=c.parents) rfl (by have hM:=Mx;simp only[Bc,Je];omega) DQ fun v' Z' hs'=>?_
  refine zh ?_;(repeat clear U K);repeat intro K U
  refine⟨hlt,v',rfl,trivial,?_⟩;rw[AU hc,LX];exact hs'
 .refine zh ?_;(repeat clear U K);repeat intro K U
  exact G0 hs 0 rfl (by rw[BA hk];rfl)
def BN (i:Nat):List Rp->List Int
 | []=>[]
 | c::r=>List.replicate c.AI.length ((i:Int)+3)++BN (i+1) r
def AH (p:Prog):AF:=⟨Ay p,BN 0 p.AO⟩
def JU (i:Nat) (a b:List Rp):BN i (a++b)=BN i a++BN (i+a.length) b:=by
 induction a generalizing i with
 | nil=>simp[BN]
 | cons c r ih=>
   simp only[List.cons_append,BN,ih,LC,HH];rw[show i+1+r.length=i+(r.length+1) by omega]
def Br (cs:List Rp):Nat:=(cs.map (·.AI.length)).sum
def CV (i:Nat) (cs:List Rp):(BN i cs).length=Br cs:=by
 induction cs generalizing i with
 | nil=>rfl
 | cons c r ih=>simp[BN,ih,Br]
def RI {cs:List Rp} {k:Nat} {c:Rp} (h:cs[k]? =some c):Br (cs.take k)+c.AI.length<=Br cs:=by
 induction cs generalizing k with
 | nil=>cases h
 | cons d r ih=>
   cases k with
   | zero=>simp at h;subst h;simp[Br]
   | succ k=>simp at h;have:=ih h;simp only[Br,List.take_succ_cons,CK,List.sum_cons]at *;omega
def UG (p:Prog) (hp:sL p) (hk0:p.AO.length<=1000) (hm:Br p.AO<=Ab):Pure zP 14 [.a (BF p)] (.a (A5 (AH p))):=by
 refine AAs kZ ?_
 conv=>whnf
 repeat((first|clear U K|(apply zk;intro K U)|fail);conv=>whnf)
 intro n hn;have hs:=fh (l:=[]) (Z:=emp) Sat.nil hn (o:= .cs [.l [] true,.l [] true]);refine zh ?_;(repeat clear U K);repeat intro K U
 refine(bF p hp hk0).use ?_
 conv=>whnf
 intro m hm;have hs:=fh hs hm (o:= .cs [.l [] true,.l [] true])
 conv=>whnf
 refine FF hs 1 rfl rfl rfl rfl (by decide) fun Z hs=>?_
 refine zh ?_;(repeat clear U K);repeat intro K U
 refine B4 p.AO.length (fun k _=>[(4,eI (A7 k))]) (fun k v=>[.box n [.l [] true,.l [] true],.box m [.l (EV (Ay p)) false,v],.own v 1 (iL (BN 0 (p.AO.take k)))]) (fun _ _=>True) (.l [] true) rfl trivial (EY hs 1) ?_;rintro k v Z hk - hs;refine zh ?_;(repeat clear U K);repeat intro K U
 refine Gv hk hp.1 (fun c hc hlt=>?_) fun hk=>?_
 .have hcm:=hp.2 c (B6 hc)
  have htk:=RI hc;refine zh ?_;(repeat clear U K);repeat intro K U
  refine B4 c.AI.length (fun j _=>[(5,eI (A7 j))]) (fun j v=>[.box n [.l [] true,.l [] true],.box m [.l (EV (Ay p)) false,v],.own v 1 (iL (BN 0 (p.AO.take k)++List.replicate j ((k:Int)+3)))]) (fun _ _=>True) v rfl trivial (by simpa using hs) ?_;rintro j v Z hj - hs;refine zh ?_;(repeat clear U K);repeat intro K U
  refine Jm hc hp.1 rfl ?_;refine zh ?_;(repeat clear U K);repeat intro K U
  refine Gv hj hcm.2.1 (fun s hsl hjlt=>?_) fun hj=>?_
  .refine zh ?_;(repeat clear U K);repeat intro K U
   refine Vl hs 1 rfl ?_;refine zh ?_;(repeat clear U K);repeat intro K U
   have he:IntKind.i64.wrap (A7 k+3)=(k:Int)+3:=by
    have:=hp.1;rw[AS (by omega),wrap64 (by omega) (by simp only[Ab]at *;omega)]
   refine GO hs 2 (x:=IntKind.i64.wrap (A7 k+3)) rfl (by have hM:=Mx;simp only[HQ,CV,List.length_replicate];omega) Cs fun v' Z' hs'=>?_
   conv=>whnf
   refine Iz hs' 1 rfl (FZ hs' 2 rfl) kZ fun Z2 hs2=>?_
   refine zh ?_;(repeat clear U K);repeat intro K U
   refine⟨hjlt,v',rfl,trivial,?_⟩;rw[List.replicate_succ',<-LC];rw[he]at hs2;exact hs2
  .refine zh ?_;(repeat clear U K);repeat intro K U
   refine⟨hlt,v,rfl,trivial,?_⟩;rw[AU hc,JU];have:(p.AO.take k).length=k:=by simp;omega
   rw[this];simpa[BN,hj]using hs
 .refine zh ?_;(repeat clear U K);repeat intro K U
  refine Vl hs 1 rfl ?_;refine zh ?_;(repeat clear U K);repeat intro K U
  refine FF hs 0 rfl rfl rfl (by simp[FZ hs 2 rfl]) kZ fun Z2 hs2=>?_
  refine zh ?_;(repeat clear U K);repeat intro K U
  refine Vl hs2 0 rfl ?_;refine zh ?_;(repeat clear U K);repeat intro K U
  refine Af (.a (.cons (.refl _) (.cons ?_ .nil)));have:=hs2.MB 2 rfl;rw[BA hk]at this;exact this
end Go.Gl
