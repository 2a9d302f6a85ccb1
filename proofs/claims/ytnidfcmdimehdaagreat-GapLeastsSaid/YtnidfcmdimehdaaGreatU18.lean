import Derived.Test.YtnidfcmdimehdaaGreatU12
import Derived.Test.YtnidfcmdimehdaaGreatU14
import Derived.Test.YtnidfcmdimehdaaGreatU15
import Derived.Test.YtnidfcmdimehdaaGreatU16
import Derived.Test.YtnidfcmdimehdaaGreatU17
set_option linter.all false
set_option linter.defProp false
set_option maxHeartbeats 8000000
noncomputable section
namespace Go.Gl
open Go.Proofs
attribute [local irreducible] As Af AV AQ AI AU AP AR AJ AT AM AN Ag Ar Sat AS Ap AX W
def Vl (g:FuncId) (fi ca:List V) (f:Int->Bool):Prop:= ∀y:Int,Pure zP g (fi++[eI y]++ca) (.b (f y))
def Vl.use {g:FuncId} {fi ca:List V} {f:Int->Bool} (h:Vl g fi ca f) {y:Int} {Z:AD} {k kp:V->AD->Prop} (hk:k (.b (f y)) Z):Ag zP (.f (.func g) fi ca) [eI y] Z (qk k kp):=A6 ((h y).use hk)
def nY (g:FuncId) (fi ca:List V) (L:List At) (p:Int->Bool) (hx:Cq zP (.f (.func g) fi ca) eI (fun _:Unit=>L) (VZ p) (fun _ _=>True)) (xs:List Int) (f:Bool):BL zP 332 [.l (iL xs) f,.f (.func g) fi ca] L fun r post=>r= .ret (.l (iL (xs.filter p)) false)/\post=L:=by
 intro Z hs;refine As.fit (by kernel_rfl) fun hf=>?_
 have hxl:=Nc hf.1;have hM:=Mx;refine gR kZ ?_;refine zv ?_;(repeat clear U K);repeat intro K U
 refine Ba xs.length (fun k v=>[(5,v),(10,eI (Au k))]) (fun k v=>L++[.own v 1 (iL ((xs.take k).filter p))]) (fun _ _=>True) (.l [] true) rfl trivial (Ce hs 1) ?_;clear hs;rintro k v Z hk - hs;have hfl:=NI p (xs.take k);rw[Ib]at hfl;rcases Aw xs hk with⟨y,hy,hlt⟩|hke
 .have hst:(xs.take (k+1)).filter p=if p y then(xs.take k).filter p++[y]else(xs.take k).filter p:=by
   rw[AO hy,List.filter_append];cases hp:p y<;>simp[hp]
  generalize (xs.take k).filter p=zs at *
  conv=>whnf
  repeat'((first|clear U K|apply st|(apply zk;intro K U)|refine zX ?_|refine hx.useF (s:=()) (rest:=[_]) trivial hs (fun Z hs=>?_)|(refine zd (fun hc=>?_) (fun hc=>?_)<;>try exact⟨⟩)|fail)<;>conv=>whnf)
  .refine Gt (GJ hs L.length (xs:=zs) (x:=y) List.getElem?_concat_length (by omega) Bg fun v' Z' hs' hsl=>?_)
   rw[List.set_append_right _ _ (G0 _),Nat.sub_self]at hs';replace hs:=hs';refine zv ?_;(repeat clear U K);repeat intro K U
   rw[if_pos (by assumption)]at hst;exact⟨hlt,_,rfl,trivial,by rw[hst];exact hs⟩
  .rw[if_neg (by simp[*])]at hst
   exact⟨hlt,_,rfl,trivial,by rw[hst];exact hs⟩
 .refine zv ?_;(repeat clear U K);repeat intro K U
  rw[Ak hke]at hs;obtain⟨Z2,h1,h2,h3⟩:=Gb hs L.length List.getElem?_concat_length;refine Ft h1 h2 ⟨_,⟨rfl,rfl⟩,?_⟩;rw[List.eraseIdx_append_of_length_le (G0 _),Nat.sub_self]at h3;simpa using h3
def jr (g:FuncId) (fi ca:List V) (p:Int->Bool) (hpf:Vl g fi ca p) (xs:List Int) (u:V) (hxl:xs.length<=AZ):BL zP 332 [u,.f (.func g) fi ca] [.own u 1 (iL xs)] fun r post=>r= .ret (.l (iL (xs.filter p)) false)/\post= [.own u 1 (iL xs)]:=by
 intro Z hs;have hM:=Mx;refine gR kZ ?_;refine zv ?_;(repeat clear U K);repeat intro K U
 refine Ba xs.length (fun k v=>[(5,v),(10,eI (Au k))]) (fun k v=>[.own u 1 (iL xs),.own v 1 (iL ((xs.take k).filter p))]) (fun _ _=>True) (.l [] true) rfl trivial (Ce hs 1) ?_;clear hs;rintro k v Z hk - hs;have hfl:=NI p (xs.take k);rw[Ib]at hfl;rcases Aw xs hk with⟨y,hy,hlt⟩|hke
 .have hst:(xs.take (k+1)).filter p=if p y then(xs.take k).filter p++[y]else(xs.take k).filter p:=by
   rw[AO hy,List.filter_append];cases hp:p y<;>simp[hp]
  generalize (xs.take k).filter p=zs at *
  conv=>whnf
  repeat'((first|clear U K|apply st|(apply zk;intro K U)|refine zX ?_|refine aq fun v Z hs hsl=>?_|refine Vl.use hpf ?_|refine za (fun hc=>?_) fun hc=>?_|fail)<;>conv=>whnf)
  .rw[if_pos (by assumption)]at hst
   exact⟨hlt,_,rfl,trivial,by rw[hst];exact hs.take 2⟩
  .rw[if_neg (by simp[*])]at hst
   exact⟨hlt,_,rfl,trivial,by rw[hst];exact hs.take 2⟩
 .refine zv ?_;(repeat clear U K);repeat intro K U
  rw[Ak hke]at hs;obtain⟨Z2,h1,h2,h3⟩:=Gb hs 1 rfl;exact Ft h1 h2 ⟨_,⟨rfl,rfl⟩,h3⟩
def yQ:Vl 334 [] [] (· != 0):=by
 intro y;refine s7 kZ ?_;have hs:=Sn;exact zW
def kV (xs:List Int) (u:V) (hxl:xs.length<=AZ):BL zP 331 [u] [.own u 1 (iL xs)] fun r post=>r= .ret (.l (iL (xs.filter (· != 0))) false)/\post= [.own u 1 (iL xs)]:=by
 intro Z hs;refine s9 kZ ?_
 conv=>whnf
 repeat'((first|clear U K|apply st|(apply zk;intro K U)|fail)<;>conv=>whnf)
 refine(jr 334 [] [] (· != 0) yQ xs u hxl).use (rest:=[]) hs ?_;clear hs;rintro r post Z ⟨rfl,rfl⟩ hs;refine zv ?_;(repeat clear U K);repeat intro K U
 exact Aj hs (by simp) (.refl _) fun Z' hs'=>⟨_,⟨rfl,rfl⟩,hs'⟩
def ae (g : List (List Int)) (f:Bool):Pure zP 313 [.l (EF g) f] (.b (Dz g)):=by
 refine Pure.fit (by kernel_rfl) fun hf=>?_
 have⟨g1,g2⟩:=T9 hf.1;have hM:=Mx;refine tR kZ ?_;have hs:=Sn;by_cases h16:g.length<=16
 .conv=>whnf
  repeat'((first|clear U K|apply st|(apply zk;intro K U)|refine zX ?_|(refine zb (fun hc=>?_) (fun hc=>?_)<;>try exact⟨⟩)|fail)<;>conv=>whnf)
  all_goals try(exfalso;omega)
  refine Ba g.length (fun k (_:Unit)=>[(12,eI (Au k))]) (fun _ _=>[]) (fun k _=>Dz g=JF k (g.drop k)) () rfl (by simp[Dz,h16]) hs ?_;clear hs;rintro k - Z hk hn hs;have hck:Au k=k:=AW (by omega);rcases Aw g hk with⟨l,hl,hlt⟩|hke
  .have hll:=g2 l (BY hl)
   rw[drop_cons hl,JF]at hn;by_cases h3:l.length<=3
   .rw[decide_eq_true h3,Db]at hn
    conv=>whnf
    repeat'((first|clear U K|apply st|(apply zk;intro K U)|refine zX ?_|(refine zb (fun hc=>?_) (fun hc=>?_)<;>try exact⟨⟩)|fail)<;>conv=>whnf)
    all_goals try(exfalso;omega)
    refine Ba l.length (fun j (_:Unit)=>[(22,eI (Au j))]) (fun _ _=>[]) (fun j _=>Dz g=(NS k (l.take j) (l.drop j)&&JF (k+1) (g.drop (k+1)))) () rfl hn hs ?_;clear hs hn;rintro j - Z hj hn hs;rcases Aw l hj with⟨c,hc0,hjlt⟩|hje
    .rw[drop_cons hc0,NS,qX]at hn
     have hw:IntKind.i64.wrap (3+Au k)=3+(k:Int):=by rw[hck,wrap64 (by omega) (by omega)]
     conv=>whnf
     repeat'((first|clear U K|apply st|(apply zk;intro K U)|refine zX ?_|refine Pure.use (CP _ _ _) ?_|(refine zd (fun hc=>?_) (fun hc=>?_)<;>try exact⟨⟩)|fail)<;>conv=>whnf)
     .exact AF (by rw[hn,hc];simp)
     .exact⟨hjlt,(),rfl,by rw[hn,hc,AO hc0];simp[*],hs⟩
     .exact AF (by(rw[hn];have: ¬c<3+(k:Int):=by omega);simp[this])
     .exact AF (by(rw[hn];have: ¬3<=c:=by omega);simp[this])
    .refine zv ?_;(repeat clear U K);repeat intro K U
     exact⟨hlt,(),rfl,by rw[hn,Ad hje];rfl,hs⟩
   .conv=>whnf
    repeat'((first|clear U K|apply st|(apply zk;intro K U)|refine zX ?_|(refine zb (fun hc=>?_) (fun hc=>?_)<;>try exact⟨⟩)|fail)<;>conv=>whnf)
    all_goals try(exfalso;omega)
    exact AF (by rw[hn];simp[h3])
  .refine zv ?_;(repeat clear U K);repeat intro K U
   exact AF (by rw[hn,Ad hke];rfl)
 .conv=>whnf
  repeat'((first|clear U K|apply st|(apply zk;intro K U)|refine zX ?_|(refine zb (fun hc=>?_) (fun hc=>?_)<;>try exact⟨⟩)|fail)<;>conv=>whnf)
  all_goals try(exfalso;omega)
  exact AF (by simp[Dz,h16])
def Wm (g:List (List Int)) (f:Bool):Pure zP 289 [.l (EF g) f] (eI (if Dz g then 0 else 2)):=by
 refine ti kZ ?_;have hs:=Sn
 conv=>whnf
 repeat'((first|clear U K|apply st|(apply zk;intro K U)|refine Pure.use (ae _ _) ?_|refine za (fun hc=>?_) fun hc=>?_|fail)<;>conv=>whnf)
 all_goals exact AF (by simp[*])
def yR (n:Nat) (h:Int):Cq zP (.f (.func 333) [] [.p n 0]) eI (fun _:Unit=>[.box n [eI h]]) (VZ (· != h)) (fun _ _=>True):=by
 intro y s _ Z hs;refine A6 ?_;show As zP 333 ([]++[eI y]++[.p n 0]) Z _;refine s8 kZ ?_;refine zv ?_;(repeat clear U K);repeat intro K U
 exact Aj hs (List.Sublist.refl _) (.refl _) fun Z' hs'=>⟨rfl,hs'⟩
def dH (ls:List (List Int)):Fc ls []=false:=rfl
def Yw (ls:List (List Int)) (x:Int) (r:List Int):Fc ls (x::r)=free ls x:=rfl
def dR {α:Type} {p:α->Bool} {xs:List α} {k:Nat} {x:α} (hx:xs[k]? =some x) (h:(xs.take k).find? p=none):(xs.take (k+1)).find? p=if p x then some x else none:=by
 rw[AO hx,List.find?_append,h];simp only[List.find?_cons,List.find?_nil,Option.none_or];cases p x<;>rfl
def dQ {α:Type} {p:α->Bool} {xs:List α} {k:Nat} {x:α} (h:(xs.take k).find? p=some x):xs.find? p=some x:=by
 conv=>lhs;rw[<-List.take_append_drop k xs]
 rw[List.find?_append,h];rfl
def Zz (ls:List (List Int)):pick ls=(ls.find? (Fc ls)).bind List.head? :=rfl
def ji (ls:List (List Int)) (f:Bool) (hok:NN ls) (ht:total ls<AZ):Pure zP 330 [.l (EF ls) f] (.t [.l (iL (CH ls).1) false,.b (CH ls).2]):=by
 have hM:=Mx;refine tA kZ ?_;have hs:=Sn;refine zv ?_;(repeat clear U K);repeat intro K U
 refine DD (fun(x:List (List Int)×Bool×V×List Int)=>total x.1) (fun x=>[(0,.l (EF x.1) x.2.1),(4,x.2.2.1)]) (fun x=>[.own x.2.2.1 1 (iL x.2.2.2)])
  (fun x=>NN x.1/\x.2.2.2.length+total x.1<=total ls/\DN (total x.1) x.1 x.2.2.2=CH ls) (ls,f,.l [] true,[]) rfl ⟨hok,by simp,rfl⟩ (Ce hs 1) ?_
 clear hs;rintro⟨ls',f',v,out⟩ Z ⟨hok',hlen,hm⟩ hs;dsimp only at hok' hlen hm hs;dsimp only;have hol:=hok'.1;refine zv ?_;(repeat clear U K);repeat intro K U
 refine Ba ls'.length (fun k (t:Bool)=>[(5,.b t),(16,eI (Au k))]) (fun _ _=>[.own v 1 (iL out)]) (fun k t=>(ls'.take k).find? (Fc ls')=none/\t=(ls'.take k).any fun l=> !l.isEmpty) false rfl ⟨rfl,rfl⟩ hs ?_;clear hs;rintro k t Z hk ⟨hfd,hta⟩ hs;rcases Aw ls' hk with⟨l,hl,hlt⟩|hke
 .have hfs:=dR (p:=Fc ls') hl hfd
  have has:((ls'.take (k+1)).any fun l=> !l.isEmpty)=(t|| !l.isEmpty):=by rw[AO hl,List.any_append,<-hta];simp
  have hb:=hok'.2 _ (BY hl);cases l with
  | nil=>
    have hnl:([]:List Int).length=0:=rfl;rw[dH,if_neg (by decide)]at hfs
    conv=>whnf
    repeat'((first|clear U K|apply st|(apply zk;intro K U)|refine zX ?_|(refine zb (fun hc=>?_) (fun hc=>?_)<;>try exact⟨⟩)|fail)<;>conv=>whnf)
    exact⟨hlt,_,rfl,⟨hfs,by rw[has];simp⟩,hs⟩
  | cons x r=>
    have hx0:(x::r)[Int.toNat 0]? =some x:=rfl;have hnl:(x::r).length=r.length+1:=rfl;rw[Yw]at hfs;simp only[List.isEmpty_cons,Bool.not_false,Bool.or_true]at has
    conv=>whnf
    repeat'((first|clear U K|apply st|(apply zk;intro K U)|refine zX ?_|(refine zb (fun hc=>?_) (fun hc=>?_)<;>try exact⟨⟩)|fail)<;>conv=>whnf)
    refine Ba ls'.length (fun j (_:Unit)=>[(25,eI (Au j))]) (fun _ _=>[.own v 1 (iL out)]) (fun j _=>free ls' x=(ls'.drop j).all fun m=> !(m.drop 1).contains x) () rfl rfl hs ?_;clear hs;rintro j - Z hj hfr hs;rcases Aw ls' hj with⟨m,hm0,hjlt⟩|hje
    .have hmb:=(hok'.2 _ (BY hm0)).1
     rw[drop_cons hm0,Jd]at hfr;cases m with
     | nil=>
       have hml:([]:List Int).length=0:=rfl
       conv=>whnf
       repeat'((first|clear U K|apply st|(apply zk;intro K U)|refine zX ?_|(refine zb (fun hc=>?_) (fun hc=>?_)<;>try exact⟨⟩)|fail)<;>conv=>whnf)
       exact⟨hjlt,(),rfl,by rw[hfr];rfl,hs⟩
     | cons y s=>
       have hml:(y::s).length=s.length+1:=rfl
       conv=>whnf
       repeat'((first|clear U K|apply st|(apply zk;intro K U)|refine zX ?_|(refine zb (fun hc=>?_) (fun hc=>?_)<;>try exact⟨⟩)|fail)<;>conv=>whnf)
       refine V2 1 rfl (by omega) (fun _=>rfl) ?_
       conv=>whnf
       repeat'((first|clear U K|apply st|(apply zk;intro K U)|refine zX ?_|refine Pure.use (CP _ _ _) ?_|refine za (fun hc=>?_) fun hc=>?_|fail)<;>conv=>whnf)
       .rw[hc]at hfr
        have hfr2:free ls' x=false:=by rw[hfr];rfl
        rw[hfr2,if_neg (by decide)]at hfs;exact⟨hlt,true,rfl,⟨hfs,by rw[has]⟩,hs⟩
       .exact⟨hjlt,(),rfl,by rw[hfr,hc];rfl,hs⟩
    .rw[Ad hje]at hfr
     have hgood:free ls' x=true:=hfr;rw[hgood,if_pos rfl]at hfs;have hp:pick ls'=some x:=by rw[Zz,dQ hfs];rfl
     have htp:=It hp
     conv=>whnf
     repeat'((first|clear U K|apply st|(apply zk;intro K U)|refine zX ?_|refine zr fun Z hs=>?_|refine aq fun v Z hs hsl=>?_|refine zp fun nn hnn Z hs=>?_|fail)<;>conv=>whnf)
     have hs2:Sat Z [.own v 1 (iL (out++[x])),.box nn [eI x]]:=hs;refine Ba ls'.length (fun k u=>[(11,u),(50,eI (Au k))]) (fun k u=>[.own v 1 (iL (out++[x])),.box nn [eI x],.own u 1 (EF ((ls'.take k).map fun l=>l.filter (· != x)))]) (fun _ _=>True) (.l [] true) rfl trivial (Ce hs2 1) ?_;clear hs hs2;rintro q u Z hq - hs;rcases Aw ls' hq with⟨w,hw,hqlt⟩|hqe
     .refine zv ?_;(repeat clear U K);repeat intro K U
      refine(nY 333 [] [.p nn 0] [.box nn [eI x]] (· != x) (yR nn x) w false).use (rest:=[_,_]) (hs.perm (.swap _ _ _)) ?_;clear hs;rintro rr post Z ⟨rfl,rfl⟩ hs
      conv=>whnf
      repeat'((first|clear U K|apply st|(apply zk;intro K U)|refine zX ?_|refine aq fun v Z hs hsl=>?_|fail)<;>conv=>whnf)
      refine⟨hqlt,_,rfl,trivial,?_⟩;rw[AO hw,ND];exact hs.perm (.swap _ _ _)
     .refine zv ?_;(repeat clear U K);repeat intro K U
      rw[Ak hqe]at hs;refine qp hs 2 rfl fun Z' hs'=>?_
      refine zv ?_;(repeat clear U K);repeat intro K U
      refine⟨(ls'.map fun l=>l.filter (· != x),false,v,out++[x]),htp,rfl,⟨hok'.filter x,by simp;omega,?_⟩,hs'.take 1⟩;rw[<-OY hp];exact hm
 .rw[Ak hke]at hfd hta
  have hp:pick ls'=none:=by rw[Zz,hfd];rfl
  rw[RA hp]at hm;refine zv ?_;(repeat clear U K);repeat intro K U
  refine AY ?_;rw[<-hm];refine .t (.cons (hs.Ic 0 rfl) (.cons ?_ .nil));have:(!t)=ls'.all List.isEmpty:=by rw[hta];simp[List.all_eq_not_any_not]
  rw[<-this];exact .refl _
abbrev Ord:=Int×V×List Int
def lN (e:Ord):V×V:=(eI e.1,e.2.1)
def dt (e:Ord):At:= .own e.2.1 1 (iL e.2.2)
abbrev pL (ps:List (List Int×Bool)):List (List V):=ps.map fun p=>[.l (iL p.1) p.2]
abbrev gH (n mm:Nat) (vp vu:V) (ps:List (List Int×Bool)) (us:List Nat) (M:List Ord):List At:=
 .box n [vp,vu,.m mm]:: .own vp 1 (pL ps):: .own vu 1 (us.map fun u=>[eU u]):: .map mm (M.map lN)::M.map dt
def B8 (M:List Ord) (c:Int):List Int:=((M.find? fun e=>c==e.1).map fun e=>e.2.2).getD []
def Jf (M:List Ord) (c:Int):V:=((M.find? fun e=>c==e.1).map fun e=>e.2.1).getD (.l [] true)
def jo (M:List Ord) (c:Int):found (.l [] true) false (Cs (eI c) (M.map lN))=Jf M c:=by
 induction M with
 | nil=>rfl
 | cons e r ih=>
   simp only[Cn,lN,Cs,Jf,List.find?_cons]at *;have he:D1 (eI c) (eI e.1)=(c==e.1):=rfl;rw[he];cases c==e.1
   .exact ih
   .rfl
def YB (M:List Ord): ∀kv∈M.map lN,Bf (.i .i64) kv.1=true:=by
 intro kv h;obtain⟨e,_,rfl⟩:=GL.1 h;rfl
def nG {M:List Ord} {c:Int} (v:V) (l:List Int) (h: ∀e∈M,e.1≠c):Dy (eI c) v (M.map lN)=(M++[(c,v,l)]).map lN:=by
 induction M with
 | nil=>rfl
 | cons e r ih=>
   simp only[Cn,List.cons_append,lN,Dy];have he:D1 (eI c) (eI e.1)=(c==e.1):=rfl;rw[he,beq_false_of_ne (fun e'=>h e (.head _) e'.symm)];simp only[cond_false];rw[ih fun e he=>h e (.tail _ he)]
def P8 (M:List Ord) (c:Int):(B8 M c= []/\Jf M c= .l [] true)\/ ∃j:Nat,(M.map dt)[j]? =some (At.own (Jf M c) 1 (iL (B8 M c))):=by
 unfold B8 Jf;cases h:M.find? fun e=>c==e.1 with
 | none=>exact .inl ⟨rfl,rfl⟩
 | some e=>
   refine .inr ?_;obtain⟨j,hj⟩:=List.getElem?_of_mem (List.mem_of_find?_eq_some h);refine⟨j,?_⟩;rw[JV,hj];rfl
def P9 {M:List Ord} {c:Int} {Z:AD} {fx:List At} (hs:Sat Z (fx++M.map dt)) (hl:(B8 M c).length<=AZ) {K:V->Prop} (hk:K (.i .i64 (B8 M c).length)):Ap (Jf M c) K:=by
 rcases P8 M c with⟨h1,h2⟩|⟨j,hj⟩
 .rw[h2]
  rw[h1]at hk;exact Vf hk
 .have hj':(fx++M.map dt)[fx.length+j]? =some (At.own (Jf M c) 1 (iL (B8 M c))):=by
   rw[List.getElem?_append_right (by omega),Nat.add_sub_cancel_left,hj]
  exact NR hs _ hj' (by simpa using hl) (by simpa using hk)
def lkO {Z:AD} {l:List At} {i mm:Nat} {M:List Ord} {c:Int} {K:V->Prop} (hk:K (Jf M c)) (h:Sat Z l:=by assumption)
    (hi:l[i]? =some (.map mm (M.map lN)):=by first|exact Ro|exact Rn|exact Rm|exact Rl|exact Rk|exact Rj):AM Z (.i .i64) (.l [] true) false (.m mm) (eI c) K:=
 HN h i hi rfl (YB M) (by rw[jo];exact hk)
def z8 {M:List Ord} {c:Int} {Z:AD} {fx:List At} (hs:Sat Z (fx++M.map dt)) (hl:(B8 M c).length<=AZ) (hne:B8 M c≠[]) {k kp:V->AD->Prop} (hk: ∀Z',Sat Z' (fx++M.map dt)->k (.l (iL ((B8 M c).filter (· != 0))) false) Z'):As zP 331 [Jf M c] Z (qk k kp):=by
 rcases P8 M c with⟨h1,h2⟩|⟨j,hj⟩
 .exact absurd h1 hne
 .have hj':(fx++M.map dt)[fx.length+j]? =some (At.own (Jf M c) 1 (iL (B8 M c))):=by
   rw[List.getElem?_append_right (by omega),Nat.add_sub_cancel_left,hj]
  refine(kV (B8 M c) (Jf M c) hl).o8 hs hj' ?_;rintro r Z' rfl hs';exact hk Z' hs'
def W6 {Z Z2:AD}: ∀ {a a' b b':List (List V)},EL Z Z2 a a'->EL Z Z2 b b'->EL Z Z2 (a++b) (a'++b')
 | [],[],_,_,.nil,h=>h
 | _::_,_::_,_,_,.cons h1 h2,h=> .cons h1 (W6 h2 h)
def jk (n mm:Nat) (vp vu:V) (ps:List (List Int×Bool)) (us:List Nat) (M:List Ord) (c:Int) (l:List Int) (b:Bool) (hc0:0<=c) (hl:ps[c.toNat]? =some (l,b)) (hll:l.length<=3) (hol: ∀c,(B8 M c).length<=AZ) :
    BL zP 329 [.p n 0,eI c] (gH n mm vp vu ps us M) fun r post=>r= .ret (if l.any fun p=>(B8 M p).isEmpty then .t [.l [] true,.b false]else .t [.l (EF (l.map (fun p=>(B8 M p).filter (· != 0))++[l])) false,.b true])/\post=gH n mm vp vu ps us M:=by
 intro Z hs;have hM:=Mx;have hci:c<ps.length:=by have:=(JA.1 hl).1;omega
 refine tB kZ ?_;refine zz ?_;(repeat clear U K);repeat intro K U
 refine Ba l.length (fun k v=>[(6,v),(17,eI (Au k))]) (fun k v=> .own v 1 (EF ((l.take k).map fun p=>(B8 M p).filter (· != 0)))::gH n mm vp vu ps us M) (fun k _=>((l.take k).any fun p=>(B8 M p).isEmpty)=false) (.l [] true) rfl rfl (CM hs 1) ?_;clear hs;rintro k v Z hk hne hs;rcases Aw l hk with⟨p,hp,hlt⟩|hke
 .have han:((l.take (k+1)).any fun p=>(B8 M p).isEmpty)=(B8 M p).isEmpty:=by rw[AO hp,List.any_append,hne];simp
  have hap:(l.take k).length<=3:=by rw[Ib];omega
  conv=>whnf
  repeat'((first|clear U K|apply st|(apply zk;intro K U)|refine zY ?_|refine lkO ?_|refine P9 (fx:=_::_::_::_::_:: []) hs (hol _) ?_|refine za (fun hc=>?_) fun hc=>?_|fail)<;>conv=>whnf)
  .have h0:(B8 M p).isEmpty=true:=by rw[List.isEmpty_iff_length_eq_zero];omega
   have hany:(l.any fun p=>(B8 M p).isEmpty)=true:=G1.2 ⟨p,BY hp,h0⟩;refine Aj (l':=gH n mm vp vu ps us M) hs (HU _ _) (.refl _) fun Z' hs'=>⟨_,⟨?_,rfl⟩,hs'⟩
   rw[if_pos hany]
  .have h0:(B8 M p).isEmpty=false:=by
    cases h:(B8 M p).isEmpty
    .rfl
    .rw[List.isEmpty_iff_length_eq_zero]at h;omega
   refine z8 (fx:=_::_::_::_::_:: []) hs (hol _) (fun e=>by rw[e]at h0;cases h0) fun Z hs=>?_
   conv=>whnf
   repeat'((first|clear U K|apply st|(apply zk;intro K U)|refine zY ?_|refine aq fun v Z hs hsl=>?_|fail)<;>conv=>whnf)
   refine⟨hlt,_,rfl,by rw[han];exact h0,?_⟩;rw[AO hp,ND];exact hs
 .rw[Ak hke]at hne hs
  refine zz ?_;(repeat clear U K);repeat intro K U
  refine hAppend hs 0 rfl (by simp;omega) (fun e he=>by simp at he;subst he;rfl) (fun e he v hv=>by simp at he;subst he;simp at hv;subst hv;rfl) fun v Z hs=>?_
  refine zz ?_;(repeat clear U K);repeat intro K U
  obtain⟨Z2,h1,h2,h3⟩:=sT (es':=EF (l.map (fun p=>(B8 M p).filter (· != 0))++[l])) hs 0 rfl fun Z2=>by
   have e:EF (l.map (fun p=>(B8 M p).filter (· != 0))++[l])=EF (l.map fun p=>(B8 M p).filter (· != 0))++[[.l (iL l) false]]:=by simp only[EF,ND,Cn,List.map_nil]
   rw[e];exact W6 (CU _) (.cons (.cons OJ .nil) .nil)
  refine Ft h1 (.t (.cons h2 (.cons (.refl _) .nil))) ⟨_,⟨?_,rfl⟩,h3⟩;rw[hne,if_neg (by decide)]
def Sat.rot2 {Z:AD} {l:List At} {a:At} (h:Sat Z (a::l)):Sat Z (l++[a]):=h.perm (by
 have:=NF (l₁:=[a]) (l₂:=l)
 simpa using this)
def DG (M:List Ord) (l:List Int):List (List Int):=l.map (fun p=>(B8 M p).filter (· != 0))++[l]
def HW (M:List Ord) (l:List Int) (c:Int):List Int:=
 if c=0 then [0]else if l.any (fun p=>(B8 M p).isEmpty)then []else if(CH (DG M l)).2 then [c]++(CH (DG M l)).1++[0]else []
def aV (n mm:Nat) (vp vu:V) (ps:List (List Int×Bool)) (us:List Nat) (M:List Ord) {c:Int} {v:V} {l:List Int} (hk: ∀e∈M,e.1≠c) {Z:AD}
    (hs:Sat Z (.own v 1 (iL l):: .box n [vp,vu,.m mm]:: .own vp 1 (pL ps):: .own vu 1 (us.map fun u=>[eU u]):: .map mm (Dy (eI c) v (M.map lN))::M.map dt)):Sat Z (gH n mm vp vu ps us (M++[(c,v,l)])):=by
 rw[nG v l hk]at hs;have:=hs.rot2;unfold gH;rw[ND (f:=dt)];exact this
def jS (n mm:Nat) (vp vu:V) (ps:List (List Int×Bool)) (us:List Nat) (M:List Ord) (c:Int) (l:List Int) (b:Bool) (hc0:0<=c) (hl:ps[c.toNat]? =some (l,b)) (hll:l.length<=3) (hol: ∀c,(B8 M c).length<=AZ) (hk: ∀e∈M,e.1≠c)
    (hok:NN (DG M l)) (ht:total (DG M l)<1000000000) :
    BL zP 327 [.p n 0,eI c] (gH n mm vp vu ps us M) fun r post=>r= .ret (.t [])/\ ∃M',post=gH n mm vp vu ps us M'/\((M'=M/\HW M l c= [])\/ ∃v,M'=M++[(c,v,HW M l c)]/\HW M l c≠[]):=by
 intro Z hs;have hM:=Mx;refine tD kZ ?_;by_cases hc:c=0
 .subst hc
  conv=>whnf
  repeat'((first|clear U K|apply st|(apply zk;intro K U)|refine zY ?_|(refine zb (fun hc=>?_) (fun hc=>?_)<;>try exact⟨⟩)|fail)<;>conv=>whnf)
  refine HM hs 3 rfl rfl (YB M) fun Z hs=>?_
  refine zz ?_;(repeat clear U K);repeat intro K U
  refine Aj (l':=gH n mm vp vu ps us (M++[(0,.l [[eI 0]] true,[0])])) ?_ (List.Sublist.refl _) (.refl _) fun Z' hs'=>⟨_,⟨rfl,_,rfl,.inr ⟨.l [[eI 0]] true,?_,?_⟩⟩,hs'⟩
  .refine aV n mm vp vu ps us M hk ?_
   exact fH hs (fun e he=>by simp at he;subst he;rfl)
  .rw[HW,if_pos rfl]
  .rw[HW,if_pos rfl];exact fun e=>by cases e
 .have hoc:HW M l c=if l.any (fun p=>(B8 M p).isEmpty)then []else if(CH (DG M l)).2 then [c]++(CH (DG M l)).1++[0]else []:=by rw[HW,if_neg hc]
  have hli:=jk n mm vp vu ps us M c l b hc0 hl hll hol;have hmg:=ji (DG M l) false hok (by omega);have hml:=Iz (total (DG M l)) (DG M l) [];have hml2:(CH (DG M l)).1.length<=total (DG M l):=by simpa[CH]using hml
  cases hany:l.any fun p=>(B8 M p).isEmpty
  .rw[hany,if_neg (by decide)]at hoc
   simp only[hany,Jc,if_false]at hli;have hdn: ∀ {Z:AD} {M':List Ord},Sat Z (gH n mm vp vu ps us M')->((M'=M/\HW M l c= [])\/ ∃v,M'=M++[(c,v,HW M l c)]/\HW M l c≠[])->Af Z (.t []) fun r Z'=> ∃post,(r= .ret (.t [])/\ ∃M',post=gH n mm vp vu ps us M'/\((M'=M/\HW M l c= [])\/ ∃v,M'=M++[(c,v,HW M l c)]/\HW M l c≠[]))/\Sat Z' post:=fun hs h=>Aj hs (List.Sublist.refl _) (.refl _) fun Z' hs'=>⟨_,⟨rfl,_,rfl,h⟩,hs'⟩
   conv=>whnf
   repeat'((first|clear U K|apply st|(apply zk;intro K U)|refine zY ?_|(refine zb (fun hc=>?_) (fun hc=>?_)<;>try exact⟨⟩)|fail)<;>conv=>whnf)
   refine hli.use (rest:=[]) (by simpa using hs) ?_;clear hs;rintro r post Z ⟨rfl,rfl⟩ hs;rw[EU]at hs;have hml3:(DG M l)=l.map (fun p=>(B8 M p).filter (· != 0))++[l]:=rfl;rw[<-hml3];generalize DG M l=ll at *;cases hb:(CH ll).2<;>rw[hb]at hmg hoc
   .conv=>whnf
    repeat'((first|clear U K|apply st|(apply zk;intro K U)|refine zY ?_|refine zC ?_|fail)<;>conv=>whnf)
    exact hdn hs (.inl ⟨rfl,by rw[hoc];rfl⟩)
   .rw[if_pos rfl]at hoc
    conv=>whnf
    repeat'((first|clear U K|apply st|(apply zk;intro K U)|refine zY ?_|refine zC ?_|fail)<;>conv=>whnf)
    replace hs:=fH hs (sz:=1) (es:=[[eI c]]) (fun e he=>by simp at he;subst he;rfl);refine EH hs 0 (xs:=[c]) (ys:=(CH ll).1) rfl (by simp;omega) Bg fun v Z hs=>?_
    conv=>whnf
    repeat'((first|apply st|refine zY ?_|refine rk ?_ ?_|exact fun s e=>by cases e;rfl|refine aq fun v Z hs hsl=>?_|fail)<;>conv=>whnf)
    refine HM hs 4 rfl rfl (YB M) fun Z hs=>?_
    refine zz ?_;(repeat clear U K);repeat intro K U
    refine hdn (aV n mm vp vu ps us M hk (l:=HW M l c) ?_) (.inr ⟨v,rfl,by rw[hoc];simp⟩);rw[hoc];exact hs
  .rw[hany,if_pos rfl]at hoc
   simp only[hany,if_true]at hli
   conv=>whnf
   repeat'((first|clear U K|apply st|(apply zk;intro K U)|refine zY ?_|(refine zb (fun hc=>?_) (fun hc=>?_)<;>try exact⟨⟩)|fail)<;>conv=>whnf)
   refine hli.use (rest:=[]) (by simpa using hs) ?_;clear hs;rintro r post Z ⟨rfl,rfl⟩ hs;rw[EU]at hs;refine zz ?_;(repeat clear U K);repeat intro K U
   exact Aj hs (List.Sublist.refl _) (.refl _) fun Z' hs'=>⟨_,⟨rfl,_,rfl,.inl ⟨rfl,hoc⟩⟩,hs'⟩
end Go.Gl
namespace Go.Gl
def cQ {M:List Ord} {k:Int} {v:V} {o:List Int} (h: ∀e∈M,e.1<k) (d:Int):B8 (M++[(k,v,o)]) d=if d=k then o else B8 M d:=by
 unfold B8;rw[List.find?_append];split
 .rename_i e
  have:M.find? (fun e=>d==e.1)=none:=by
   rw[List.find?_eq_none];intro x hx;have:=h x hx;simp;omega
  rw[this];simp[e]
 .rename_i e
  cases hf:M.find? fun e=>d==e.1 with
  | some x=>simp
  | none=>simp[List.find?_cons,e]
structure JO (g:List (List Int)) (k:Nat) (M:List Ord):Prop where
 keys: ∀e∈M,0<=e.1/\e.1<(k:Int)
 eQ: ∀d:Int,0<=d->d<k->B8 M d=(B6 g).getD d.toNat []
def WG {g:List (List Int)} {k:Nat} {M:List Ord} (h:JO g k M) {d:Int} (hd:d<0\/(k:Int)<=d):B8 M d= []:=by
 unfold B8
 have:M.find? (fun e=>d==e.1)=none:=by
  rw[List.find?_eq_none];intro x hx;have:=h.keys x hx;simp;omega
 rw[this];rfl
def Mg {g:List (List Int)} (hg:JI g) {k:Nat} {M:List Ord} (h:JO g k M) (d:Int):(B8 M d).length<=71744535/\ ∀x∈B8 M d,(0:Int)<=x:=by
 by_cases hd:d<0\/(k:Int)<=d
 .rw[WG h hd]
  exact⟨by simp,fun x hx=>by cases hx⟩
 .rw[h.eQ d (by omega) (by omega)]
  have hb:=I8 hg (2+g.length);have hl:=bH (k:=2+g.length) (by have:=hg.1;omega);unfold B6;exact⟨Wc (fun o ho=>Nat.le_trans (hb o ho).1 hl) _,QW (fun o ho=>(hb o ho).2) _⟩
def cb {g:List (List Int)} (hg:JI g) {k:Nat} {M:List Ord} (h:JO g k M) {l:List Int} (hl:l.length<=3) (h0: ∀x∈l,(0:Int)<=x):NN (DG M l)/\total (DG M l)<1000000000:=by
 have hM:AZ=17592186044416:=rfl;have hf: ∀p,((B8 M p).filter (· != 0)).length<=71744535:=fun p=>Nat.le_trans (NI _ _) (Mg hg h p).1
 have ht: ∀l:List Int,total (l.map fun p=>(B8 M p).filter (· != 0))<=l.length*71744535:=by
  intro l
  induction l with
  | nil=>simp[total]
  | cons p r ih=>
    simp only[total,Cn,List.sum_cons,JU]at *;have:=hf p;rw[Nat.add_mul];omega
 refine⟨⟨by simp[DG];omega,fun m hm=>?_⟩,?_⟩
 .rcases Du.1 hm with hm|hm
  .obtain⟨p,_,rfl⟩:=GL.1 hm
   refine⟨by have:=hf p;omega,fun x hx=>(Mg hg h p).2 x (Ia.1 hx).1⟩
  .rw[JT.1 hm]
   exact⟨by omega,h0⟩
 .have h1:=ht l
  have h2:total (DG M l)=total (l.map fun p=>(B8 M p).filter (· != 0))+l.length:=by simp[DG,total]
  have h3:=Ta 71744535 hl;omega
def ml {g:List (List Int)} {k:Nat} {M:List Ord} (h:JO g (k+1) M) {l:List Int} (hl:l=A4 g ((k:Int)+1)) (hp: ∀p∈l,(0:Int)<=p/\p<(k:Int)+1) (hk:k+1<3+g.length) :
    HW M l ((k:Int)+1)=EC g (BX g k) ((k:Int)+1):=by
 have ho: ∀p∈l,B8 M p=(BX g k).getD p.toNat []:=fun p hpl=>by
  obtain⟨h0,h1⟩:=hp p hpl;rw[h.eQ p h0 (by omega)];unfold B6;rw[Co,Co,FW (k:=2+g.length) (j:=p.toNat) (by omega),FW (k:=k) (j:=p.toNat) (by omega)]
 have e1:(l.any fun p=>(B8 M p).isEmpty)=(l.any fun p=>((BX g k).getD p.toNat []).isEmpty):=by
  rw[KF,G1,G1];constructor
  .rintro⟨p,h1,h2⟩;exact⟨p,h1,by rw[<-ho p h1];exact h2⟩
  .rintro⟨p,h1,h2⟩;exact⟨p,h1,by rw[ho p h1];exact h2⟩
 have e2:DG M l=l.map (fun p=>((BX g k).getD p.toNat []).filter (· != 0))++[l]:=by
  unfold DG;congr 1;exact List.map_congr_left fun p hpl=>by rw[ho p hpl]
 unfold HW EC Eg;rw[if_neg (by omega),e1,e2,<-hl];split<;>rfl
def JO.nil {g:List (List Int)}:JO g 0 []:=⟨fun e h=>(by cases h),fun d h0 h1=>by omega⟩
def JO.step {g:List (List Int)} {k:Nat} {M M':List Ord} (h:JO g k M) {l:List Int} (hl:l=A4 g (k:Int)) (hp: ∀p∈l,(0:Int)<=p/\p<(k:Int)) (hk:k<3+g.length)
    (hM:(M'=M/\HW M l k= [])\/ ∃v,M'=M++[((k:Int),v,HW M l k)]/\HW M l k≠[]):JO g (k+1) M':=by
 have hc:HW M l k=(B6 g).getD k []:=by
  cases k with
  | zero=>
    unfold HW B6;rw[if_pos (by simp),Co,FW (j:=0) (by omega)];rfl
  | succ k=>
    have:=ml h (by simpa using hl) (fun p hpl=>by have:=hp p hpl;simpa using this) hk;have e:((k+1:Nat):Int)=(k:Int)+1:=by omega
    rw[e,this];unfold B6;rw[Co,FW (k:=2+g.length) (j:=k+1) (by omega),BX,List.getElem?_append_right (by rw[Cb];omega),Cb,Nat.sub_self];rfl
 rcases hM with⟨rfl,he⟩|⟨v,rfl,_⟩
 .refine⟨fun e he=>by have:=h.keys e he;omega,fun d h0 h1=>?_⟩
  by_cases hd:d=k
  .subst hd
   rw[WG h (by omega)];rw[FZ,<-hc,he]
  .exact h.eQ d h0 (by omega)
 .refine⟨fun e he=>?_,fun d h0 h1=>?_⟩
  .rcases Du.1 he with he|he
   .have:=h.keys e he;omega
   .rw[JT.1 he]
    exact⟨by simp,by simp;omega⟩
  .rw[cQ (fun e he=>(h.keys e he).2)]
   split
   .rename_i hd
    rw[hd,FZ];exact hc
   .exact h.eQ d h0 (by omega)
end Go.Gl
namespace Go.Gl
open Go.Proofs
attribute [local irreducible] As Af AV AQ AI AU AP AR AJ AT AM AN Ag Ar Sat AS Ap AX W
def A0 (p:Prog):List (List Int):=p.AK.map (·.parents)
def qq (p:Prog):Prop:=p.AK.length<=AZ/\ ∀c∈p.AK,c.parents.length<=AZ/\c.AL.length<=AZ/\c.inits.length<=AZ
def aQ (p:Prog) (hp:qq p) (hk0:p.AK.length<=1000):Pure zP 76 [.a (A3 p)] (.l (EF (A0 p)) false):=by
 refine y4 kZ ?_;refine zh ?_;(repeat clear U K);repeat intro K U
 refine Ba p.AK.length (fun k v=>[(3,v),(4,eI (Au k))]) (fun k v=>[.own v 1 (EF ((p.AK.take k).map (·.parents)))]) (fun _ _=>True) (.l [] true) rfl trivial (Ce Sat.nil 1) ?_;rintro k v Z hk - hs;refine zh ?_;(repeat clear U K);repeat intro K U
 refine Gh hk hp.1 (fun c hc hlt=>?_) fun hk=>?_
 .have hcm:=hp.2 c (BY hc)
  refine zh ?_;(repeat clear U K);repeat intro K U
  refine Jl hc hp.1 rfl ?_;refine zh ?_;(repeat clear U K);repeat intro K U
  refine gJ Bg (by have:=hcm.1;have hM:=Mx;omega) ?_
  conv=>whnf
  refine GJ hs 0 (x:=c.parents) rfl (by have hM:=Mx;simp only[Bh,Ib];omega) DI fun v' Z' hs'=>?_
  refine zh ?_;(repeat clear U K);repeat intro K U
  refine⟨hlt,v',rfl,trivial,?_⟩;rw[AO hc,ND];exact hs'
 .refine zh ?_;(repeat clear U K);repeat intro K U
  exact Ee hs 0 rfl (by rw[Ak hk];rfl)
def BO (i:Nat):List Rp->List Int
 | []=>[]
 | c::r=>List.replicate c.AL.length ((i:Int)+3)++BO (i+1) r
def AG (p:Prog):AE:=⟨A0 p,BO 0 p.AK⟩
def JQ (i:Nat) (a b:List Rp):BO i (a++b)=BO i a++BO (i+a.length) b:=by
 induction a generalizing i with
 | nil=>simp[BO]
 | cons c r ih=>
   simp only[List.cons_append,BO,ih,NJ,JU];rw[show i+1+r.length=i+(r.length+1) by omega]
def Bl (cs:List Rp):Nat:=(cs.map (·.AL.length)).sum
def CX (i:Nat) (cs:List Rp):(BO i cs).length=Bl cs:=by
 induction cs generalizing i with
 | nil=>rfl
 | cons c r ih=>simp[BO,ih,Bl]
def RD {cs:List Rp} {k:Nat} {c:Rp} (h:cs[k]? =some c):Bl (cs.take k)+c.AL.length<=Bl cs:=by
 induction cs generalizing k with
 | nil=>cases h
 | cons d r ih=>
   cases k with
   | zero=>simp at h;subst h;simp[Bl]
   | succ k=>simp at h;have:=ih h;simp only[Bl,List.take_succ_cons,Cn,List.sum_cons]at *;omega
def O4 (p:Prog) (hp:qq p) (hk0:p.AK.length<=1000) (hm:Bl p.AK<=AZ):Pure zP 27 [.a (A3 p)] (.a (Ax (AG p))):=by
 refine zm kZ ?_
 conv=>whnf
 repeat((first|clear U K|(apply zk;intro K U)|fail);conv=>whnf)
 intro n hn;have hs:=eW (l:=[]) (Z:=emp) Sat.nil hn (o:= .cs [.l [] true,.l [] true]);refine zh ?_;(repeat clear U K);repeat intro K U
 refine(aQ p hp hk0).use ?_
 conv=>whnf
 intro m hm;have hs:=eW hs hm (o:= .cs [.l [] true,.l [] true])
 conv=>whnf
 refine FN hs 1 rfl rfl rfl rfl (by decide) fun Z hs=>?_
 refine zh ?_;(repeat clear U K);repeat intro K U
 refine Ba p.AK.length (fun k _=>[(4,eI (Au k))]) (fun k v=>[.box n [.l [] true,.l [] true],.box m [.l (EF (A0 p)) false,v],.own v 1 (iL (BO 0 (p.AK.take k)))]) (fun _ _=>True) (.l [] true) rfl trivial (Ce hs 1) ?_;rintro k v Z hk - hs;refine zh ?_;(repeat clear U K);repeat intro K U
 refine Gh hk hp.1 (fun c hc hlt=>?_) fun hk=>?_
 .have hcm:=hp.2 c (BY hc)
  have htk:=RD hc;refine zh ?_;(repeat clear U K);repeat intro K U
  refine Ba c.AL.length (fun j _=>[(5,eI (Au j))]) (fun j v=>[.box n [.l [] true,.l [] true],.box m [.l (EF (A0 p)) false,v],.own v 1 (iL (BO 0 (p.AK.take k)++List.replicate j ((k:Int)+3)))]) (fun _ _=>True) v rfl trivial (by simpa using hs) ?_;rintro j v Z hj - hs;refine zh ?_;(repeat clear U K);repeat intro K U
  refine Jl hc hp.1 rfl ?_;refine zh ?_;(repeat clear U K);repeat intro K U
  refine Gh hj hcm.2.1 (fun s hsl hjlt=>?_) fun hj=>?_
  .refine zh ?_;(repeat clear U K);repeat intro K U
   refine Vh hs 1 rfl ?_;refine zh ?_;(repeat clear U K);repeat intro K U
   have he:IntKind.i64.wrap (Au k+3)=(k:Int)+3:=by
    have:=hp.1;rw[AW (by omega),wrap64 (by omega) (by simp only[AZ]at *;omega)]
   refine GJ hs 2 (x:=IntKind.i64.wrap (Au k+3)) rfl (by have hM:=Mx;simp only[Kt,CX,List.length_replicate];omega) Bg fun v' Z' hs'=>?_
   conv=>whnf
   refine MO hs' 1 rfl (F8 hs' 2 rfl) kZ fun Z2 hs2=>?_
   refine zh ?_;(repeat clear U K);repeat intro K U
   refine⟨hjlt,v',rfl,trivial,?_⟩;rw[List.replicate_succ',<-NJ];rw[he]at hs2;exact hs2
  .refine zh ?_;(repeat clear U K);repeat intro K U
   refine⟨hlt,v,rfl,trivial,?_⟩;rw[AO hc,JQ];have:(p.AK.take k).length=k:=by simp;omega
   rw[this];simpa[BO,hj]using hs
 .refine zh ?_;(repeat clear U K);repeat intro K U
  refine Vh hs 1 rfl ?_;refine zh ?_;(repeat clear U K);repeat intro K U
  refine FN hs 0 rfl rfl rfl (by simp[F8 hs 2 rfl]) kZ fun Z2 hs2=>?_
  refine zh ?_;(repeat clear U K);repeat intro K U
  refine Vh hs2 0 rfl ?_;refine zh ?_;(repeat clear U K);repeat intro K U
  refine AY (.a (.cons (.refl _) (.cons ?_ .nil)));have:=hs2.Ic 2 rfl;rw[Ak hk]at this;exact this
end Go.Gl
