import Derived.Test.YtnidfcmdimehdaaGreatV12
import Derived.Test.YtnidfcmdimehdaaGreatV14
import Derived.Test.YtnidfcmdimehdaaGreatV15
import Derived.Test.YtnidfcmdimehdaaGreatV16
import Derived.Test.YtnidfcmdimehdaaGreatV17
set_option linter.all false
set_option linter.defProp false
set_option maxHeartbeats 8000000
noncomputable section
namespace Go.Gl
open Go.Proofs
attribute [local irreducible] Av An Af AQ AL Ac AP AS AK Ab AN AO As A3 Sat AV A0 Ag W
def V1 (g:FuncId) (fi ca:List V) (f:Int->Bool):Prop:= ∀y:Int,Pure zP g (fi++[eI y]++ca) (.b (f y))
def V1.use {g:FuncId} {fi ca:List V} {f:Int->Bool} (h:V1 g fi ca f) {y:Int} {Z:AE} {k kp:V->AE->Prop} (hk:k (.b (f y)) Z):As zP (.f (.func g) fi ca) [eI y] Z (qk k kp):=BH ((h y).use hk)
def oR (g:FuncId) (fi ca:List V) (L:List At) (p:Int->Bool) (hx:DG zP (.f (.func g) fi ca) eI (fun _:Unit=>L) (Vk p) (fun _ _=>True)) (xs:List Int) (f:Bool):BO zP 332 [.l (iL xs) f,.f (.func g) fi ca] L fun r post=>r= .ret (.l (iL (xs.filter p)) false)/\post=L:=by
 intro Z hs;refine Av.fit (by kernel_rfl) fun hf=>?_
 have hxl:=T8 hf.1;have hM:=Mx;refine iR kZ ?_;refine zv ?_;(repeat clear U K);repeat intro K U
 refine Cn xs.length (fun k v=>[(5,v),(10,eI (BR k))]) (fun k v=>L++[.own v 1 (iL ((xs.take k).filter p))]) (fun _ _=>True) (.l [] true) rfl trivial (IU hs 1) ?_;clear hs;rintro k v Z hk - hs;have hfl:=Xv p (xs.take k);rw[Lv]at hfl;rcases BK xs hk with⟨y,hy,hlt⟩|hke
 .have hst:(xs.take (k+1)).filter p=if p y then(xs.take k).filter p++[y]else(xs.take k).filter p:=by
   rw[AU hy,List.filter_append];cases hp:p y<;>simp[hp]
  generalize (xs.take k).filter p=zs at *
  conv=>whnf
  repeat'((first|clear U K|apply st|(apply zk;intro K U)|refine zX ?_|refine hx.useF (s:=()) (rest:=[_]) trivial hs (fun Z hs=>?_)|(refine zd (fun hc=>?_) (fun hc=>?_)<;>try exact⟨⟩)|fail)<;>conv=>whnf)
  .refine Ir (GR hs L.length (xs:=zs) (x:=y) List.getElem?_concat_length (by omega) Cy fun v' Z' hs' hsl=>?_)
   rw[List.set_append_right _ _ (IS _),Nat.sub_self]at hs';replace hs:=hs';refine zv ?_;(repeat clear U K);repeat intro K U
   rw[if_pos (by assumption)]at hst;exact⟨hlt,_,rfl,trivial,by rw[hst];exact hs⟩
  .rw[if_neg (by simp[*])]at hst
   exact⟨hlt,_,rfl,trivial,by rw[hst];exact hs⟩
 .refine zv ?_;(repeat clear U K);repeat intro K U
  rw[BI hke]at hs;obtain⟨Z2,h1,h2,h3⟩:=I6 hs L.length List.getElem?_concat_length;refine Ij h1 h2 ⟨_,⟨rfl,rfl⟩,?_⟩;rw[List.eraseIdx_append_of_length_le (IS _),Nat.sub_self]at h3;simpa using h3
def kX (g:FuncId) (fi ca:List V) (p:Int->Bool) (hpf:V1 g fi ca p) (xs:List Int) (u:V) (hxl:xs.length<=Ad):BO zP 332 [u,.f (.func g) fi ca] [.own u 1 (iL xs)] fun r post=>r= .ret (.l (iL (xs.filter p)) false)/\post= [.own u 1 (iL xs)]:=by
 intro Z hs;have hM:=Mx;refine iR kZ ?_;refine zv ?_;(repeat clear U K);repeat intro K U
 refine Cn xs.length (fun k v=>[(5,v),(10,eI (BR k))]) (fun k v=>[.own u 1 (iL xs),.own v 1 (iL ((xs.take k).filter p))]) (fun _ _=>True) (.l [] true) rfl trivial (IU hs 1) ?_;clear hs;rintro k v Z hk - hs;have hfl:=Xv p (xs.take k);rw[Lv]at hfl;rcases BK xs hk with⟨y,hy,hlt⟩|hke
 .have hst:(xs.take (k+1)).filter p=if p y then(xs.take k).filter p++[y]else(xs.take k).filter p:=by
   rw[AU hy,List.filter_append];cases hp:p y<;>simp[hp]
  generalize (xs.take k).filter p=zs at *
  conv=>whnf
  repeat'((first|clear U K|apply st|(apply zk;intro K U)|refine zX ?_|refine aq fun v Z hs hsl=>?_|refine V1.use hpf ?_|refine za (fun hc=>?_) fun hc=>?_|fail)<;>conv=>whnf)
  .rw[if_pos (by assumption)]at hst
   exact⟨hlt,_,rfl,trivial,by rw[hst];exact hs.take 2⟩
  .rw[if_neg (by simp[*])]at hst
   exact⟨hlt,_,rfl,trivial,by rw[hst];exact hs.take 2⟩
 .refine zv ?_;(repeat clear U K);repeat intro K U
  rw[BI hke]at hs;obtain⟨Z2,h1,h2,h3⟩:=I6 hs 1 rfl;exact Ij h1 h2 ⟨_,⟨rfl,rfl⟩,h3⟩
def yg:V1 334 [] [] (· != 0):=by
 intro y;refine tz kZ ?_;have hs:=Sn;exact zW
def lj (xs:List Int) (u:V) (hxl:xs.length<=Ad):BO zP 331 [u] [.own u 1 (iL xs)] fun r post=>r= .ret (.l (iL (xs.filter (· != 0))) false)/\post= [.own u 1 (iL xs)]:=by
 intro Z hs;refine uB kZ ?_
 conv=>whnf
 repeat'((first|clear U K|apply st|(apply zk;intro K U)|fail)<;>conv=>whnf)
 refine(kX 334 [] [] (· != 0) yg xs u hxl).use (rest:=[]) hs ?_;clear hs;rintro r post Z ⟨rfl,rfl⟩ hs;refine zv ?_;(repeat clear U K);repeat intro K U
 exact Ay hs (by simp) (.refl _) fun Z' hs'=>⟨_,⟨rfl,rfl⟩,hs'⟩
def av (g : List (List Int)) (f:Bool):Pure zP 313 [.l (Es g) f] (.b (Dy g)):=by
 refine Pure.fit (by kernel_rfl) fun hf=>?_
 have⟨g1,g2⟩:=YT hf.1;have hM:=Mx;refine uK kZ ?_;have hs:=Sn;by_cases h16:g.length<=16
 .conv=>whnf
  repeat'((first|clear U K|apply st|(apply zk;intro K U)|refine zX ?_|(refine zb (fun hc=>?_) (fun hc=>?_)<;>try exact⟨⟩)|fail)<;>conv=>whnf)
  all_goals try(exfalso;omega)
  refine Cn g.length (fun k (_:Unit)=>[(12,eI (BR k))]) (fun _ _=>[]) (fun k _=>Dy g=I1 k (g.drop k)) () rfl (by simp[Dy,h16]) hs ?_;clear hs;rintro k - Z hk hn hs;have hck:BR k=k:=Ae (by omega);rcases BK g hk with⟨l,hl,hlt⟩|hke
  .have hll:=g2 l (Cm hl)
   rw[drop_cons hl,I1]at hn;by_cases h3:l.length<=3
   .rw[decide_eq_true h3,Du]at hn
    conv=>whnf
    repeat'((first|clear U K|apply st|(apply zk;intro K U)|refine zX ?_|(refine zb (fun hc=>?_) (fun hc=>?_)<;>try exact⟨⟩)|fail)<;>conv=>whnf)
    all_goals try(exfalso;omega)
    refine Cn l.length (fun j (_:Unit)=>[(22,eI (BR j))]) (fun _ _=>[]) (fun j _=>Dy g=(NY k (l.take j) (l.drop j)&&I1 (k+1) (g.drop (k+1)))) () rfl hn hs ?_;clear hs hn;rintro j - Z hj hn hs;rcases BK l hj with⟨c,hc0,hjlt⟩|hje
    .rw[drop_cons hc0,NY,rT]at hn
     have hw:IntKind.i64.wrap (3+BR k)=3+(k:Int):=by rw[hck,wrap64 (by omega) (by omega)]
     conv=>whnf
     repeat'((first|clear U K|apply st|(apply zk;intro K U)|refine zX ?_|refine Pure.use (Cl _ _ _) ?_|(refine zd (fun hc=>?_) (fun hc=>?_)<;>try exact⟨⟩)|fail)<;>conv=>whnf)
     .exact AJ (by rw[hn,hc];simp)
     .exact⟨hjlt,(),rfl,by rw[hn,hc,AU hc0];simp[*],hs⟩
     .exact AJ (by(rw[hn];have: ¬c<3+(k:Int):=by omega);simp[this])
     .exact AJ (by(rw[hn];have: ¬3<=c:=by omega);simp[this])
    .refine zv ?_;(repeat clear U K);repeat intro K U
     exact⟨hlt,(),rfl,by rw[hn,Au hje];rfl,hs⟩
   .conv=>whnf
    repeat'((first|clear U K|apply st|(apply zk;intro K U)|refine zX ?_|(refine zb (fun hc=>?_) (fun hc=>?_)<;>try exact⟨⟩)|fail)<;>conv=>whnf)
    all_goals try(exfalso;omega)
    exact AJ (by rw[hn];simp[h3])
  .refine zv ?_;(repeat clear U K);repeat intro K U
   exact AJ (by rw[hn,Au hke];rfl)
 .conv=>whnf
  repeat'((first|clear U K|apply st|(apply zk;intro K U)|refine zX ?_|(refine zb (fun hc=>?_) (fun hc=>?_)<;>try exact⟨⟩)|fail)<;>conv=>whnf)
  all_goals try(exfalso;omega)
  exact AJ (by simp[Dy,h16])
def W5 (g:List (List Int)) (f:Bool):Pure zP 289 [.l (Es g) f] (eI (if Dy g then 0 else 2)):=by
 refine uZ kZ ?_;have hs:=Sn
 conv=>whnf
 repeat'((first|clear U K|apply st|(apply zk;intro K U)|refine Pure.use (av _ _) ?_|refine za (fun hc=>?_) fun hc=>?_|fail)<;>conv=>whnf)
 all_goals exact AJ (by simp[*])
def yh (n:Nat) (h:Int):DG zP (.f (.func 333) [] [.p n 0]) eI (fun _:Unit=>[.box n [eI h]]) (Vk (· != h)) (fun _ _=>True):=by
 intro y s _ Z hs;refine BH ?_;show Av zP 333 ([]++[eI y]++[.p n 0]) Z _;refine uA kZ ?_;refine zv ?_;(repeat clear U K);repeat intro K U
 exact Ay hs (List.Sublist.refl _) (.refl _) fun Z' hs'=>⟨rfl,hs'⟩
def dY (ls:List (List Int)):FJ ls []=false:=rfl
def ZB (ls:List (List Int)) (x:Int) (r:List Int):FJ ls (x::r)=free ls x:=rfl
def dg {α:Type} {p:α->Bool} {xs:List α} {k:Nat} {x:α} (hx:xs[k]? =some x) (h:(xs.take k).find? p=none):(xs.take (k+1)).find? p=if p x then some x else none:=by
 rw[AU hx,List.find?_append,h];simp only[List.find?_cons,List.find?_nil,Option.none_or];cases p x<;>rfl
def df {α:Type} {p:α->Bool} {xs:List α} {k:Nat} {x:α} (h:(xs.take k).find? p=some x):xs.find? p=some x:=by
 conv=>lhs;rw[<-List.take_append_drop k xs]
 rw[List.find?_append,h];rfl
def aB (ls:List (List Int)):pick ls=(ls.find? (FJ ls)).bind List.head? :=rfl
def kL (ls:List (List Int)) (f:Bool) (hok:NU ls) (ht:total ls<Ad):Pure zP 330 [.l (Es ls) f] (.t [.l (iL (CL ls).1) false,.b (CL ls).2]):=by
 have hM:=Mx;refine uC kZ ?_;have hs:=Sn;refine zv ?_;(repeat clear U K);repeat intro K U
 refine GU (fun(x:List (List Int)×Bool×V×List Int)=>total x.1) (fun x=>[(0,.l (Es x.1) x.2.1),(4,x.2.2.1)]) (fun x=>[.own x.2.2.1 1 (iL x.2.2.2)])
  (fun x=>NU x.1/\x.2.2.2.length+total x.1<=total ls/\DM (total x.1) x.1 x.2.2.2=CL ls) (ls,f,.l [] true,[]) rfl ⟨hok,by simp,rfl⟩ (IU hs 1) ?_
 clear hs;rintro⟨ls',f',v,out⟩ Z ⟨hok',hlen,hm⟩ hs;dsimp only at hok' hlen hm hs;dsimp only;have hol:=hok'.1;refine zv ?_;(repeat clear U K);repeat intro K U
 refine Cn ls'.length (fun k (t:Bool)=>[(5,.b t),(16,eI (BR k))]) (fun _ _=>[.own v 1 (iL out)]) (fun k t=>(ls'.take k).find? (FJ ls')=none/\t=(ls'.take k).any fun l=> !l.isEmpty) false rfl ⟨rfl,rfl⟩ hs ?_;clear hs;rintro k t Z hk ⟨hfd,hta⟩ hs;rcases BK ls' hk with⟨l,hl,hlt⟩|hke
 .have hfs:=dg (p:=FJ ls') hl hfd
  have has:((ls'.take (k+1)).any fun l=> !l.isEmpty)=(t|| !l.isEmpty):=by rw[AU hl,List.any_append,<-hta];simp
  have hb:=hok'.2 _ (Cm hl);cases l with
  | nil=>
    have hnl:([]:List Int).length=0:=rfl;rw[dY,if_neg (by decide)]at hfs
    conv=>whnf
    repeat'((first|clear U K|apply st|(apply zk;intro K U)|refine zX ?_|(refine zb (fun hc=>?_) (fun hc=>?_)<;>try exact⟨⟩)|fail)<;>conv=>whnf)
    exact⟨hlt,_,rfl,⟨hfs,by rw[has];simp⟩,hs⟩
  | cons x r=>
    have hx0:(x::r)[Int.toNat 0]? =some x:=rfl;have hnl:(x::r).length=r.length+1:=rfl;rw[ZB]at hfs;simp only[List.isEmpty_cons,Bool.not_false,Bool.or_true]at has
    conv=>whnf
    repeat'((first|clear U K|apply st|(apply zk;intro K U)|refine zX ?_|(refine zb (fun hc=>?_) (fun hc=>?_)<;>try exact⟨⟩)|fail)<;>conv=>whnf)
    refine Cn ls'.length (fun j (_:Unit)=>[(25,eI (BR j))]) (fun _ _=>[.own v 1 (iL out)]) (fun j _=>free ls' x=(ls'.drop j).all fun m=> !(m.drop 1).contains x) () rfl rfl hs ?_;clear hs;rintro j - Z hj hfr hs;rcases BK ls' hj with⟨m,hm0,hjlt⟩|hje
    .have hmb:=(hok'.2 _ (Cm hm0)).1
     rw[drop_cons hm0,Pg]at hfr;cases m with
     | nil=>
       have hml:([]:List Int).length=0:=rfl
       conv=>whnf
       repeat'((first|clear U K|apply st|(apply zk;intro K U)|refine zX ?_|(refine zb (fun hc=>?_) (fun hc=>?_)<;>try exact⟨⟩)|fail)<;>conv=>whnf)
       exact⟨hjlt,(),rfl,by rw[hfr];rfl,hs⟩
     | cons y s=>
       have hml:(y::s).length=s.length+1:=rfl
       conv=>whnf
       repeat'((first|clear U K|apply st|(apply zk;intro K U)|refine zX ?_|(refine zb (fun hc=>?_) (fun hc=>?_)<;>try exact⟨⟩)|fail)<;>conv=>whnf)
       refine WL 1 rfl (by omega) (fun _=>rfl) ?_
       conv=>whnf
       repeat'((first|clear U K|apply st|(apply zk;intro K U)|refine zX ?_|refine Pure.use (Cl _ _ _) ?_|refine za (fun hc=>?_) fun hc=>?_|fail)<;>conv=>whnf)
       .rw[hc]at hfr
        have hfr2:free ls' x=false:=by rw[hfr];rfl
        rw[hfr2,if_neg (by decide)]at hfs;exact⟨hlt,true,rfl,⟨hfs,by rw[has]⟩,hs⟩
       .exact⟨hjlt,(),rfl,by rw[hfr,hc];rfl,hs⟩
    .rw[Au hje]at hfr
     have hgood:free ls' x=true:=hfr;rw[hgood,if_pos rfl]at hfs;have hp:pick ls'=some x:=by rw[aB,df hfs];rfl
     have htp:=Il hp
     conv=>whnf
     repeat'((first|clear U K|apply st|(apply zk;intro K U)|refine zX ?_|refine zr fun Z hs=>?_|refine aq fun v Z hs hsl=>?_|refine zp fun nn hnn Z hs=>?_|fail)<;>conv=>whnf)
     have hs2:Sat Z [.own v 1 (iL (out++[x])),.box nn [eI x]]:=hs;refine Cn ls'.length (fun k u=>[(11,u),(50,eI (BR k))]) (fun k u=>[.own v 1 (iL (out++[x])),.box nn [eI x],.own u 1 (Es ((ls'.take k).map fun l=>l.filter (· != x)))]) (fun _ _=>True) (.l [] true) rfl trivial (IU hs2 1) ?_;clear hs hs2;rintro q u Z hq - hs;rcases BK ls' hq with⟨w,hw,hqlt⟩|hqe
     .refine zv ?_;(repeat clear U K);repeat intro K U
      refine(oR 333 [] [.p nn 0] [.box nn [eI x]] (· != x) (yh nn x) w false).use (rest:=[_,_]) (hs.perm (.swap _ _ _)) ?_;clear hs;rintro rr post Z ⟨rfl,rfl⟩ hs
      conv=>whnf
      repeat'((first|clear U K|apply st|(apply zk;intro K U)|refine zX ?_|refine aq fun v Z hs hsl=>?_|fail)<;>conv=>whnf)
      refine⟨hqlt,_,rfl,trivial,?_⟩;rw[AU hw,VB];exact hs.perm (.swap _ _ _)
     .refine zv ?_;(repeat clear U K);repeat intro K U
      rw[BI hqe]at hs;refine r9 hs 2 rfl fun Z' hs'=>?_
      refine zv ?_;(repeat clear U K);repeat intro K U
      refine⟨(ls'.map fun l=>l.filter (· != x),false,v,out++[x]),htp,rfl,⟨hok'.filter x,by simp;omega,?_⟩,hs'.take 1⟩;rw[<-Oo hp];exact hm
 .rw[BI hke]at hfd hta
  have hp:pick ls'=none:=by rw[aB,hfd];rfl
  rw[Q5 hp]at hm;refine zv ?_;(repeat clear U K);repeat intro K U
  refine Be ?_;rw[<-hm];refine .t (.cons (hs.Ha 0 rfl) (.cons ?_ .nil));have:(!t)=ls'.all List.isEmpty:=by rw[hta];simp[List.all_eq_not_any_not]
  rw[<-this];exact .refl _
abbrev Ord:=Int×V×List Int
def mF (e:Ord):V×V:=(eI e.1,e.2.1)
def ez (e:Ord):At:= .own e.2.1 1 (iL e.2.2)
abbrev pL (ps:List (List Int×Bool)):List (List V):=ps.map fun p=>[.l (iL p.1) p.2]
abbrev gH (n mm:Nat) (vp vu:V) (ps:List (List Int×Bool)) (us:List Nat) (M:List Ord):List At:=
 .box n [vp,vu,.m mm]:: .own vp 1 (pL ps):: .own vu 1 (us.map fun u=>[eU u]):: .map mm (M.map mF)::M.map ez
def CC (M:List Ord) (c:Int):List Int:=((M.find? fun e=>c==e.1).map fun e=>e.2.2).getD []
def JP (M:List Ord) (c:Int):V:=((M.find? fun e=>c==e.1).map fun e=>e.2.1).getD (.l [] true)
def kV (M:List Ord) (c:Int):found (.l [] true) false (Ch (eI c) (M.map mF))=JP M c:=by
 induction M with
 | nil=>rfl
 | cons e r ih=>
   simp only[EZ,mF,Ch,JP,List.find?_cons]at *;have he:Dz (eI c) (eI e.1)=(c==e.1):=rfl;rw[he];cases c==e.1
   .exact ih
   .rfl
def YN (M:List Ord): ∀kv∈M.map mF,BQ (.i .i64) kv.1=true:=by
 intro kv h;obtain⟨e,_,rfl⟩:=Hc.1 h;rfl
def oG {M:List Ord} {c:Int} (v:V) (l:List Int) (h: ∀e∈M,e.1≠c):DU (eI c) v (M.map mF)=(M++[(c,v,l)]).map mF:=by
 induction M with
 | nil=>rfl
 | cons e r ih=>
   simp only[EZ,List.cons_append,mF,DU];have he:Dz (eI c) (eI e.1)=(c==e.1):=rfl;rw[he,beq_false_of_ne (fun e'=>h e (.head _) e'.symm)];simp only[cond_false];rw[ih fun e he=>h e (.tail _ he)]
def QI (M:List Ord) (c:Int):(CC M c= []/\JP M c= .l [] true)\/ ∃j:Nat,(M.map ez)[j]? =some (At.own (JP M c) 1 (iL (CC M c))):=by
 unfold CC JP;cases h:M.find? fun e=>c==e.1 with
 | none=>exact .inl ⟨rfl,rfl⟩
 | some e=>
   refine .inr ?_;obtain⟨j,hj⟩:=List.getElem?_of_mem (List.mem_of_find?_eq_some h);refine⟨j,?_⟩;rw[OU,hj];rfl
def QJ {M:List Ord} {c:Int} {Z:AE} {fx:List At} (hs:Sat Z (fx++M.map ez)) (hl:(CC M c).length<=Ad) {K:V->Prop} (hk:K (.i .i64 (CC M c).length)):A0 (JP M c) K:=by
 rcases QI M c with⟨h1,h2⟩|⟨j,hj⟩
 .rw[h2]
  rw[h1]at hk;exact Kv hk
 .have hj':(fx++M.map ez)[fx.length+j]? =some (At.own (JP M c) 1 (iL (CC M c))):=by
   rw[List.getElem?_append_right (by omega),Nat.add_sub_cancel_left,hj]
  exact yG hs _ hj' (by simpa using hl) (by simpa using hk)
def lkO {Z:AE} {l:List At} {i mm:Nat} {M:List Ord} {c:Int} {K:V->Prop} (hk:K (JP M c)) (h:Sat Z l:=by assumption)
    (hi:l[i]? =some (.map mm (M.map mF)):=by first|exact Rr|exact Rq|exact Rp|exact Ro|exact Rn|exact Rm):AN Z (.i .i64) (.l [] true) false (.m mm) (eI c) K:=
 J8 h i hi rfl (YN M) (by rw[kV];exact hk)
def zy {M:List Ord} {c:Int} {Z:AE} {fx:List At} (hs:Sat Z (fx++M.map ez)) (hl:(CC M c).length<=Ad) (hne:CC M c≠[]) {k kp:V->AE->Prop} (hk: ∀Z',Sat Z' (fx++M.map ez)->k (.l (iL ((CC M c).filter (· != 0))) false) Z'):Av zP 331 [JP M c] Z (qk k kp):=by
 rcases QI M c with⟨h1,h2⟩|⟨j,hj⟩
 .exact absurd h1 hne
 .have hj':(fx++M.map ez)[fx.length+j]? =some (At.own (JP M c) 1 (iL (CC M c))):=by
   rw[List.getElem?_append_right (by omega),Nat.add_sub_cancel_left,hj]
  refine(lj (CC M c) (JP M c) hl).qN hs hj' ?_;rintro r Z' rfl hs';exact hk Z' hs'
def Ql {Z Z2:AE}: ∀ {a a' b b':List (List V)},Ea Z Z2 a a'->Ea Z Z2 b b'->Ea Z Z2 (a++b) (a'++b')
 | [],[],_,_,.nil,h=>h
 | _::_,_::_,_,_,.cons h1 h2,h=> .cons h1 (Ql h2 h)
def kR (n mm:Nat) (vp vu:V) (ps:List (List Int×Bool)) (us:List Nat) (M:List Ord) (c:Int) (l:List Int) (b:Bool) (hc0:0<=c) (hl:ps[c.toNat]? =some (l,b)) (hll:l.length<=3) (hol: ∀c,(CC M c).length<=Ad) :
    BO zP 329 [.p n 0,eI c] (gH n mm vp vu ps us M) fun r post=>r= .ret (if l.any fun p=>(CC M p).isEmpty then .t [.l [] true,.b false]else .t [.l (Es (l.map (fun p=>(CC M p).filter (· != 0))++[l])) false,.b true])/\post=gH n mm vp vu ps us M:=by
 intro Z hs;have hM:=Mx;have hci:c<ps.length:=by have:=(JM.1 hl).1;omega
 refine uD kZ ?_;refine zz ?_;(repeat clear U K);repeat intro K U
 refine Cn l.length (fun k v=>[(6,v),(17,eI (BR k))]) (fun k v=> .own v 1 (Es ((l.take k).map fun p=>(CC M p).filter (· != 0)))::gH n mm vp vu ps us M) (fun k _=>((l.take k).any fun p=>(CC M p).isEmpty)=false) (.l [] true) rfl rfl (DF hs 1) ?_;clear hs;rintro k v Z hk hne hs;rcases BK l hk with⟨p,hp,hlt⟩|hke
 .have han:((l.take (k+1)).any fun p=>(CC M p).isEmpty)=(CC M p).isEmpty:=by rw[AU hp,List.any_append,hne];simp
  have hap:(l.take k).length<=3:=by rw[Lv];omega
  conv=>whnf
  repeat'((first|clear U K|apply st|(apply zk;intro K U)|refine zY ?_|refine lkO ?_|refine QJ (fx:=_::_::_::_::_:: []) hs (hol _) ?_|refine za (fun hc=>?_) fun hc=>?_|fail)<;>conv=>whnf)
  .have h0:(CC M p).isEmpty=true:=by rw[List.isEmpty_iff_length_eq_zero];omega
   have hany:(l.any fun p=>(CC M p).isEmpty)=true:=Gx.2 ⟨p,Cm hp,h0⟩;refine Ay (l':=gH n mm vp vu ps us M) hs (OS _ _) (.refl _) fun Z' hs'=>⟨_,⟨?_,rfl⟩,hs'⟩
   rw[if_pos hany]
  .have h0:(CC M p).isEmpty=false:=by
    cases h:(CC M p).isEmpty
    .rfl
    .rw[List.isEmpty_iff_length_eq_zero]at h;omega
   refine zy (fx:=_::_::_::_::_:: []) hs (hol _) (fun e=>by rw[e]at h0;cases h0) fun Z hs=>?_
   conv=>whnf
   repeat'((first|clear U K|apply st|(apply zk;intro K U)|refine zY ?_|refine aq fun v Z hs hsl=>?_|fail)<;>conv=>whnf)
   refine⟨hlt,_,rfl,by rw[han];exact h0,?_⟩;rw[AU hp,VB];exact hs
 .rw[BI hke]at hne hs
  refine zz ?_;(repeat clear U K);repeat intro K U
  refine hAppend hs 0 rfl (by simp;omega) (fun e he=>by simp at he;subst he;rfl) (fun e he v hv=>by simp at he;subst he;simp at hv;subst hv;rfl) fun v Z hs=>?_
  refine zz ?_;(repeat clear U K);repeat intro K U
  obtain⟨Z2,h1,h2,h3⟩:=gz (es':=Es (l.map (fun p=>(CC M p).filter (· != 0))++[l])) hs 0 rfl fun Z2=>by
   have e:Es (l.map (fun p=>(CC M p).filter (· != 0))++[l])=Es (l.map fun p=>(CC M p).filter (· != 0))++[[.l (iL l) false]]:=by simp only[Es,VB,EZ,List.map_nil]
   rw[e];exact Ql (IQ _) (.cons (.cons gJ .nil) .nil)
  refine Ij h1 (.t (.cons h2 (.cons (.refl _) .nil))) ⟨_,⟨?_,rfl⟩,h3⟩;rw[hne,if_neg (by decide)]
def Sat.rot2 {Z:AE} {l:List At} {a:At} (h:Sat Z (a::l)):Sat Z (l++[a]):=h.perm (by
 have:=PH (l₁:=[a]) (l₂:=l)
 simpa using this)
def DI (M:List Ord) (l:List Int):List (List Int):=l.map (fun p=>(CC M p).filter (· != 0))++[l]
def HF (M:List Ord) (l:List Int) (c:Int):List Int:=
 if c=0 then [0]else if l.any (fun p=>(CC M p).isEmpty)then []else if(CL (DI M l)).2 then [c]++(CL (DI M l)).1++[0]else []
def aZ (n mm:Nat) (vp vu:V) (ps:List (List Int×Bool)) (us:List Nat) (M:List Ord) {c:Int} {v:V} {l:List Int} (hk: ∀e∈M,e.1≠c) {Z:AE}
    (hs:Sat Z (.own v 1 (iL l):: .box n [vp,vu,.m mm]:: .own vp 1 (pL ps):: .own vu 1 (us.map fun u=>[eU u]):: .map mm (DU (eI c) v (M.map mF))::M.map ez)):Sat Z (gH n mm vp vu ps us (M++[(c,v,l)])):=by
 rw[oG v l hk]at hs;have:=hs.rot2;unfold gH;rw[VB (f:=ez)];exact this
def jy (n mm:Nat) (vp vu:V) (ps:List (List Int×Bool)) (us:List Nat) (M:List Ord) (c:Int) (l:List Int) (b:Bool) (hc0:0<=c) (hl:ps[c.toNat]? =some (l,b)) (hll:l.length<=3) (hol: ∀c,(CC M c).length<=Ad) (hk: ∀e∈M,e.1≠c)
    (hok:NU (DI M l)) (ht:total (DI M l)<1000000000) :
    BO zP 327 [.p n 0,eI c] (gH n mm vp vu ps us M) fun r post=>r= .ret (.t [])/\ ∃M',post=gH n mm vp vu ps us M'/\((M'=M/\HF M l c= [])\/ ∃v,M'=M++[(c,v,HF M l c)]/\HF M l c≠[]):=by
 intro Z hs;have hM:=Mx;refine uE kZ ?_;by_cases hc:c=0
 .subst hc
  conv=>whnf
  repeat'((first|clear U K|apply st|(apply zk;intro K U)|refine zY ?_|(refine zb (fun hc=>?_) (fun hc=>?_)<;>try exact⟨⟩)|fail)<;>conv=>whnf)
  refine Ic hs 3 rfl rfl (YN M) fun Z hs=>?_
  refine zz ?_;(repeat clear U K);repeat intro K U
  refine Ay (l':=gH n mm vp vu ps us (M++[(0,.l [[eI 0]] true,[0])])) ?_ (List.Sublist.refl _) (.refl _) fun Z' hs'=>⟨_,⟨rfl,_,rfl,.inr ⟨.l [[eI 0]] true,?_,?_⟩⟩,hs'⟩
  .refine aZ n mm vp vu ps us M hk ?_
   exact gI hs (fun e he=>by simp at he;subst he;rfl)
  .rw[HF,if_pos rfl]
  .rw[HF,if_pos rfl];exact fun e=>by cases e
 .have hoc:HF M l c=if l.any (fun p=>(CC M p).isEmpty)then []else if(CL (DI M l)).2 then [c]++(CL (DI M l)).1++[0]else []:=by rw[HF,if_neg hc]
  have hli:=kR n mm vp vu ps us M c l b hc0 hl hll hol;have hmg:=kL (DI M l) false hok (by omega);have hml:=Ip (total (DI M l)) (DI M l) [];have hml2:(CL (DI M l)).1.length<=total (DI M l):=by simpa[CL]using hml
  cases hany:l.any fun p=>(CC M p).isEmpty
  .rw[hany,if_neg (by decide)]at hoc
   simp only[hany,NN,if_false]at hli;have hdn: ∀ {Z:AE} {M':List Ord},Sat Z (gH n mm vp vu ps us M')->((M'=M/\HF M l c= [])\/ ∃v,M'=M++[(c,v,HF M l c)]/\HF M l c≠[])->An Z (.t []) fun r Z'=> ∃post,(r= .ret (.t [])/\ ∃M',post=gH n mm vp vu ps us M'/\((M'=M/\HF M l c= [])\/ ∃v,M'=M++[(c,v,HF M l c)]/\HF M l c≠[]))/\Sat Z' post:=fun hs h=>Ay hs (List.Sublist.refl _) (.refl _) fun Z' hs'=>⟨_,⟨rfl,_,rfl,h⟩,hs'⟩
   conv=>whnf
   repeat'((first|clear U K|apply st|(apply zk;intro K U)|refine zY ?_|(refine zb (fun hc=>?_) (fun hc=>?_)<;>try exact⟨⟩)|fail)<;>conv=>whnf)
   refine hli.use (rest:=[]) (by simpa using hs) ?_;clear hs;rintro r post Z ⟨rfl,rfl⟩ hs;rw[FE]at hs;have hml3:(DI M l)=l.map (fun p=>(CC M p).filter (· != 0))++[l]:=rfl;rw[<-hml3];generalize DI M l=ll at *;cases hb:(CL ll).2<;>rw[hb]at hmg hoc
   .conv=>whnf
    repeat'((first|clear U K|apply st|(apply zk;intro K U)|refine zY ?_|refine zC ?_|fail)<;>conv=>whnf)
    exact hdn hs (.inl ⟨rfl,by rw[hoc];rfl⟩)
   .rw[if_pos rfl]at hoc
    conv=>whnf
    repeat'((first|clear U K|apply st|(apply zk;intro K U)|refine zY ?_|refine zC ?_|fail)<;>conv=>whnf)
    replace hs:=gI hs (sz:=1) (es:=[[eI c]]) (fun e he=>by simp at he;subst he;rfl);refine Kx hs 0 (xs:=[c]) (ys:=(CL ll).1) rfl (by simp;omega) Cy fun v Z hs=>?_
    conv=>whnf
    repeat'((first|apply st|refine zY ?_|refine rk ?_ ?_|exact fun s e=>by cases e;rfl|refine aq fun v Z hs hsl=>?_|fail)<;>conv=>whnf)
    refine Ic hs 4 rfl rfl (YN M) fun Z hs=>?_
    refine zz ?_;(repeat clear U K);repeat intro K U
    refine hdn (aZ n mm vp vu ps us M hk (l:=HF M l c) ?_) (.inr ⟨v,rfl,by rw[hoc];simp⟩);rw[hoc];exact hs
  .rw[hany,if_pos rfl]at hoc
   simp only[hany,if_true]at hli
   conv=>whnf
   repeat'((first|clear U K|apply st|(apply zk;intro K U)|refine zY ?_|(refine zb (fun hc=>?_) (fun hc=>?_)<;>try exact⟨⟩)|fail)<;>conv=>whnf)
   refine hli.use (rest:=[]) (by simpa using hs) ?_;clear hs;rintro r post Z ⟨rfl,rfl⟩ hs;rw[FE]at hs;refine zz ?_;(repeat clear U K);repeat intro K U
   exact Ay hs (List.Sublist.refl _) (.refl _) fun Z' hs'=>⟨_,⟨rfl,_,rfl,.inl ⟨rfl,hoc⟩⟩,hs'⟩
end Go.Gl
namespace Go.Gl
def c7 {M:List Ord} {k:Int} {v:V} {o:List Int} (h: ∀e∈M,e.1<k) (d:Int):CC (M++[(k,v,o)]) d=if d=k then o else CC M d:=by
 unfold CC;rw[List.find?_append];split
 .rename_i e
  have:M.find? (fun e=>d==e.1)=none:=by
   rw[List.find?_eq_none];intro x hx;have:=h x hx;simp;omega
  rw[this];simp[e]
 .rename_i e
  cases hf:M.find? fun e=>d==e.1 with
  | some x=>simp
  | none=>simp[List.find?_cons,e]
structure JF (g:List (List Int)) (k:Nat) (M:List Ord):Prop where
 keys: ∀e∈M,0<=e.1/\e.1<(k:Int)
 fW: ∀d:Int,0<=d->d<k->CC M d=(B9 g).getD d.toNat []
def Wa {g:List (List Int)} {k:Nat} {M:List Ord} (h:JF g k M) {d:Int} (hd:d<0\/(k:Int)<=d):CC M d= []:=by
 unfold CC
 have:M.find? (fun e=>d==e.1)=none:=by
  rw[List.find?_eq_none];intro x hx;have:=h.keys x hx;simp;omega
 rw[this];rfl
def Mj {g:List (List Int)} (hg:I7 g) {k:Nat} {M:List Ord} (h:JF g k M) (d:Int):(CC M d).length<=71744535/\ ∀x∈CC M d,(0:Int)<=x:=by
 by_cases hd:d<0\/(k:Int)<=d
 .rw[Wa h hd]
  exact⟨by simp,fun x hx=>by cases hx⟩
 .rw[h.fW d (by omega) (by omega)]
  have hb:=Iw hg (2+g.length);have hl:=bK (k:=2+g.length) (by have:=hg.1;omega);unfold B9;exact⟨Wo (fun o ho=>Nat.le_trans (hb o ho).1 hl) _,QX (fun o ho=>(hb o ho).2) _⟩
def dF {g:List (List Int)} (hg:I7 g) {k:Nat} {M:List Ord} (h:JF g k M) {l:List Int} (hl:l.length<=3) (h0: ∀x∈l,(0:Int)<=x):NU (DI M l)/\total (DI M l)<1000000000:=by
 have hM:Ad=17592186044416:=rfl;have hf: ∀p,((CC M p).filter (· != 0)).length<=71744535:=fun p=>Nat.le_trans (Xv _ _) (Mj hg h p).1
 have ht: ∀l:List Int,total (l.map fun p=>(CC M p).filter (· != 0))<=l.length*71744535:=by
  intro l
  induction l with
  | nil=>simp[total]
  | cons p r ih=>
    simp only[total,EZ,List.sum_cons,NM]at *;have:=hf p;rw[Nat.add_mul];omega
 refine⟨⟨by simp[DI];omega,fun m hm=>?_⟩,?_⟩
 .rcases Ds.1 hm with hm|hm
  .obtain⟨p,_,rfl⟩:=Hc.1 hm
   refine⟨by have:=hf p;omega,fun x hx=>(Mj hg h p).2 x (Kj.1 hx).1⟩
  .rw[Lu.1 hm]
   exact⟨by omega,h0⟩
 .have h1:=ht l
  have h2:total (DI M l)=total (l.map fun p=>(CC M p).filter (· != 0))+l.length:=by simp[DI,total]
  have h3:=VC 71744535 hl;omega
def nc {g:List (List Int)} {k:Nat} {M:List Ord} (h:JF g (k+1) M) {l:List Int} (hl:l=Ax g ((k:Int)+1)) (hp: ∀p∈l,(0:Int)<=p/\p<(k:Int)+1) (hk:k+1<3+g.length) :
    HF M l ((k:Int)+1)=EE g (BZ g k) ((k:Int)+1):=by
 have ho: ∀p∈l,CC M p=(BZ g k).getD p.toNat []:=fun p hpl=>by
  obtain⟨h0,h1⟩:=hp p hpl;rw[h.fW p h0 (by omega)];unfold B9;rw[DK,DK,FB (k:=2+g.length) (j:=p.toNat) (by omega),FB (k:=k) (j:=p.toNat) (by omega)]
 have e1:(l.any fun p=>(CC M p).isEmpty)=(l.any fun p=>((BZ g k).getD p.toNat []).isEmpty):=by
  rw[Hb,Gx,Gx];constructor
  .rintro⟨p,h1,h2⟩;exact⟨p,h1,by rw[<-ho p h1];exact h2⟩
  .rintro⟨p,h1,h2⟩;exact⟨p,h1,by rw[ho p h1];exact h2⟩
 have e2:DI M l=l.map (fun p=>((BZ g k).getD p.toNat []).filter (· != 0))++[l]:=by
  unfold DI;congr 1;exact List.map_congr_left fun p hpl=>by rw[ho p hpl]
 unfold HF EE EX;rw[if_neg (by omega),e1,e2,<-hl];split<;>rfl
def JF.nil {g:List (List Int)}:JF g 0 []:=⟨fun e h=>(by cases h),fun d h0 h1=>by omega⟩
def JF.step {g:List (List Int)} {k:Nat} {M M':List Ord} (h:JF g k M) {l:List Int} (hl:l=Ax g (k:Int)) (hp: ∀p∈l,(0:Int)<=p/\p<(k:Int)) (hk:k<3+g.length)
    (hM:(M'=M/\HF M l k= [])\/ ∃v,M'=M++[((k:Int),v,HF M l k)]/\HF M l k≠[]):JF g (k+1) M':=by
 have hc:HF M l k=(B9 g).getD k []:=by
  cases k with
  | zero=>
    unfold HF B9;rw[if_pos (by simp),DK,FB (j:=0) (by omega)];rfl
  | succ k=>
    have:=nc h (by simpa using hl) (fun p hpl=>by have:=hp p hpl;simpa using this) hk;have e:((k+1:Nat):Int)=(k:Int)+1:=by omega
    rw[e,this];unfold B9;rw[DK,FB (k:=2+g.length) (j:=k+1) (by omega),BZ,List.getElem?_append_right (by rw[Cj];omega),Cj,Nat.sub_self];rfl
 rcases hM with⟨rfl,he⟩|⟨v,rfl,_⟩
 .refine⟨fun e he=>by have:=h.keys e he;omega,fun d h0 h1=>?_⟩
  by_cases hd:d=k
  .subst hd
   rw[Wa h (by omega)];rw[HX,<-hc,he]
  .exact h.fW d h0 (by omega)
 .refine⟨fun e he=>?_,fun d h0 h1=>?_⟩
  .rcases Ds.1 he with he|he
   .have:=h.keys e he;omega
   .rw[Lu.1 he]
    exact⟨by simp,by simp;omega⟩
  .rw[c7 (fun e he=>(h.keys e he).2)]
   split
   .rename_i hd
    rw[hd,HX];exact hc
   .exact h.fW d h0 (by omega)
end Go.Gl
namespace Go.Gl
open Go.Proofs
attribute [local irreducible] Av An Af AQ AL Ac AP AS AK Ab AN AO As A3 Sat AV A0 Ag W
def Aw (p:Prog):List (List Int):=p.AM.map (·.parents)
def sC (p:Prog):Prop:=p.AM.length<=Ad/\ ∀c∈p.AM,c.parents.length<=Ad/\c.AF.length<=Ad/\c.inits.length<=Ad
def aW (p:Prog) (hp:sC p) (hk0:p.AM.length<=1000):Pure zP 76 [.a (BT p)] (.l (Es (Aw p)) false):=by
 refine zI kZ ?_;refine zh ?_;(repeat clear U K);repeat intro K U
 refine Cn p.AM.length (fun k v=>[(3,v),(4,eI (BR k))]) (fun k v=>[.own v 1 (Es ((p.AM.take k).map (·.parents)))]) (fun _ _=>True) (.l [] true) rfl trivial (IU Sat.nil 1) ?_;rintro k v Z hk - hs;refine zh ?_;(repeat clear U K);repeat intro K U
 refine GZ hk hp.1 (fun c hc hlt=>?_) fun hk=>?_
 .have hcm:=hp.2 c (Cm hc)
  refine zh ?_;(repeat clear U K);repeat intro K U
  refine JV hc hp.1 rfl ?_;refine zh ?_;(repeat clear U K);repeat intro K U
  refine iI Cy (by have:=hcm.1;have hM:=Mx;omega) ?_
  conv=>whnf
  refine GR hs 0 (x:=c.parents) rfl (by have hM:=Mx;simp only[CW,Lv];omega) DJ fun v' Z' hs'=>?_
  refine zh ?_;(repeat clear U K);repeat intro K U
  refine⟨hlt,v',rfl,trivial,?_⟩;rw[AU hc,VB];exact hs'
 .refine zh ?_;(repeat clear U K);repeat intro K U
  exact Ge hs 0 rfl (by rw[BI hk];rfl)
def BJ (i:Nat):List Pn->List Int
 | []=>[]
 | c::r=>List.replicate c.AF.length ((i:Int)+3)++BJ (i+1) r
def AI (p:Prog):AG:=⟨Aw p,BJ 0 p.AM⟩
def Fy (i:Nat) (a b:List Pn):BJ i (a++b)=BJ i a++BJ (i+a.length) b:=by
 induction a generalizing i with
 | nil=>simp[BJ]
 | cons c r ih=>
   simp only[List.cons_append,BJ,ih,Ph,NM];rw[show i+1+r.length=i+(r.length+1) by omega]
def Bn (cs:List Pn):Nat:=(cs.map (·.AF.length)).sum
def Cd (i:Nat) (cs:List Pn):(BJ i cs).length=Bn cs:=by
 induction cs generalizing i with
 | nil=>rfl
 | cons c r ih=>simp[BJ,ih,Bn]
def Q7 {cs:List Pn} {k:Nat} {c:Pn} (h:cs[k]? =some c):Bn (cs.take k)+c.AF.length<=Bn cs:=by
 induction cs generalizing k with
 | nil=>cases h
 | cons d r ih=>
   cases k with
   | zero=>simp at h;subst h;simp[Bn]
   | succ k=>simp at h;have:=ih h;simp only[Bn,List.take_succ_cons,EZ,List.sum_cons]at *;omega
def Zq (p:Prog) (hp:sC p) (hk0:p.AM.length<=1000) (hm:Bn p.AM<=Ad):Pure zP 27 [.a (BT p)] (.a (BL (AI p))):=by
 refine zV kZ ?_
 conv=>whnf
 repeat((first|clear U K|(apply zk;intro K U)|fail);conv=>whnf)
 intro n hn;have hs:=ff (l:=[]) (Z:=emp) Sat.nil hn (o:= .cs [.l [] true,.l [] true]);refine zh ?_;(repeat clear U K);repeat intro K U
 refine(aW p hp hk0).use ?_
 conv=>whnf
 intro m hm;have hs:=ff hs hm (o:= .cs [.l [] true,.l [] true])
 conv=>whnf
 refine Jg hs 1 rfl rfl rfl rfl (by decide) fun Z hs=>?_
 refine zh ?_;(repeat clear U K);repeat intro K U
 refine Cn p.AM.length (fun k _=>[(4,eI (BR k))]) (fun k v=>[.box n [.l [] true,.l [] true],.box m [.l (Es (Aw p)) false,v],.own v 1 (iL (BJ 0 (p.AM.take k)))]) (fun _ _=>True) (.l [] true) rfl trivial (IU hs 1) ?_;rintro k v Z hk - hs;refine zh ?_;(repeat clear U K);repeat intro K U
 refine GZ hk hp.1 (fun c hc hlt=>?_) fun hk=>?_
 .have hcm:=hp.2 c (Cm hc)
  have htk:=Q7 hc;refine zh ?_;(repeat clear U K);repeat intro K U
  refine Cn c.AF.length (fun j _=>[(5,eI (BR j))]) (fun j v=>[.box n [.l [] true,.l [] true],.box m [.l (Es (Aw p)) false,v],.own v 1 (iL (BJ 0 (p.AM.take k)++List.replicate j ((k:Int)+3)))]) (fun _ _=>True) v rfl trivial (by simpa using hs) ?_;rintro j v Z hj - hs;refine zh ?_;(repeat clear U K);repeat intro K U
  refine JV hc hp.1 rfl ?_;refine zh ?_;(repeat clear U K);repeat intro K U
  refine GZ hj hcm.2.1 (fun s hsl hjlt=>?_) fun hj=>?_
  .refine zh ?_;(repeat clear U K);repeat intro K U
   refine Vn hs 1 rfl ?_;refine zh ?_;(repeat clear U K);repeat intro K U
   have he:IntKind.i64.wrap (BR k+3)=(k:Int)+3:=by
    have:=hp.1;rw[Ae (by omega),wrap64 (by omega) (by simp only[Ad]at *;omega)]
   refine GR hs 2 (x:=IntKind.i64.wrap (BR k+3)) rfl (by have hM:=Mx;simp only[Ri,Cd,List.length_replicate];omega) Cy fun v' Z' hs'=>?_
   conv=>whnf
   refine MJ hs' 1 rfl (Hj hs' 2 rfl) kZ fun Z2 hs2=>?_
   refine zh ?_;(repeat clear U K);repeat intro K U
   refine⟨hjlt,v',rfl,trivial,?_⟩;rw[List.replicate_succ',<-Ph];rw[he]at hs2;exact hs2
  .refine zh ?_;(repeat clear U K);repeat intro K U
   refine⟨hlt,v,rfl,trivial,?_⟩;rw[AU hc,Fy];have:(p.AM.take k).length=k:=by simp;omega
   rw[this];simpa[BJ,hj]using hs
 .refine zh ?_;(repeat clear U K);repeat intro K U
  refine Vn hs 1 rfl ?_;refine zh ?_;(repeat clear U K);repeat intro K U
  refine Jg hs 0 rfl rfl rfl (by simp[Hj hs 2 rfl]) kZ fun Z2 hs2=>?_
  refine zh ?_;(repeat clear U K);repeat intro K U
  refine Vn hs2 0 rfl ?_;refine zh ?_;(repeat clear U K);repeat intro K U
  refine Be (.a (.cons (.refl _) (.cons ?_ .nil)));have:=hs2.Ha 2 rfl;rw[BI hk]at this;exact this
end Go.Gl
