import Derived.Test.YtcfkfhaedllcpaaGreatW12
import Derived.Test.YtcfkfhaedllcpaaGreatW14
import Derived.Test.YtcfkfhaedllcpaaGreatW15
import Derived.Test.YtcfkfhaedllcpaaGreatW16
import Derived.Test.YtcfkfhaedllcpaaGreatW17
set_option linter.all false
set_option linter.defProp false
set_option maxHeartbeats 8000000
noncomputable section
namespace Go.Gl
open Go.Proofs
attribute [local irreducible] A3 Aq Af AR AJ Ad AQ AT AK Ac AM AN Ax A5 Sat AX A4 Ah W
def VJ (g:FuncId) (fi ca:List V) (f:Int->Bool):Prop:= ∀y:Int,Pure zP g (fi++[eI y]++ca) (.b (f y))
def VJ.use {g:FuncId} {fi ca:List V} {f:Int->Bool} (h:VJ g fi ca f) {y:Int} {Z:AE} {k kp:V->AE->Prop} (hk:k (.b (f y)) Z):Ax zP (.f (.func g) fi ca) [eI y] Z (qk k kp):=By ((h y).use hk)
def mL (g:FuncId) (fi ca:List V) (L:List At) (p:Int->Bool) (hx:Cz zP (.f (.func g) fi ca) eI (fun _:Unit=>L) (U4 p) (fun _ _=>True)) (xs:List Int) (f:Bool):Bc zP 382 [.l (iL xs) f,.f (.func g) fi ca] L fun r post=>r= .ret (.l (iL (xs.filter p)) false)/\post=L:=by
 intro Z hs;refine A3.fit (by kernel_rfl) fun hf=>?_
 have hxl:=PN hf.1;have hM:=Mx;refine fm kZ ?_;refine zv ?_;(repeat clear U K);repeat intro K U
 refine B0 xs.length (fun k v=>[(5,v),(10,eI (A8 k))]) (fun k v=>L++[.own v 1 (iL ((xs.take k).filter p))]) (fun _ _=>True) (.l [] true) rfl trivial (El hs 1) ?_;clear hs;rintro k v Z hk - hs;have hfl:=Qs p (xs.take k);rw[Mf]at hfl;rcases BC xs hk with⟨y,hy,hlt⟩|hke
 .have hst:(xs.take (k+1)).filter p=if p y then(xs.take k).filter p++[y]else(xs.take k).filter p:=by
   rw[AL hy,List.filter_append];cases hp:p y<;>simp[hp]
  generalize (xs.take k).filter p=zs at *
  conv=>whnf
  repeat'((first|clear U K|apply st|(apply zk;intro K U)|refine zX ?_|refine hx.yV (s:=()) (rest:=[_]) trivial hs (fun Z hs=>?_)|(refine zd (fun hc=>?_) (fun hc=>?_)<;>try exact⟨⟩)|fail)<;>conv=>whnf)
  .refine GK (Fj hs L.length (xs:=zs) (x:=y) List.getElem?_concat_length (by omega) BZ fun v' Z' hs' hsl=>?_)
   rw[List.set_append_right _ _ (Io _),Nat.sub_self]at hs';replace hs:=hs';refine zv ?_;(repeat clear U K);repeat intro K U
   rw[if_pos (by assumption)]at hst;exact⟨hlt,_,rfl,trivial,by rw[hst];exact hs⟩
  .rw[if_neg (by simp[*])]at hst
   exact⟨hlt,_,rfl,trivial,by rw[hst];exact hs⟩
 .refine zv ?_;(repeat clear U K);repeat intro K U
  rw[Au hke]at hs;obtain⟨Z2,h1,h2,h3⟩:=IZ hs L.length List.getElem?_concat_length;refine Gg h1 h2 ⟨_,⟨rfl,rfl⟩,?_⟩;rw[List.eraseIdx_append_of_length_le (Io _),Nat.sub_self]at h3;simpa using h3
def ig (g:FuncId) (fi ca:List V) (p:Int->Bool) (hpf:VJ g fi ca p) (xs:List Int) (u:V) (hxl:xs.length<=AY):Bc zP 382 [u,.f (.func g) fi ca] [.own u 1 (iL xs)] fun r post=>r= .ret (.l (iL (xs.filter p)) false)/\post= [.own u 1 (iL xs)]:=by
 intro Z hs;have hM:=Mx;refine fm kZ ?_;refine zv ?_;(repeat clear U K);repeat intro K U
 refine B0 xs.length (fun k v=>[(5,v),(10,eI (A8 k))]) (fun k v=>[.own u 1 (iL xs),.own v 1 (iL ((xs.take k).filter p))]) (fun _ _=>True) (.l [] true) rfl trivial (El hs 1) ?_;clear hs;rintro k v Z hk - hs;have hfl:=Qs p (xs.take k);rw[Mf]at hfl;rcases BC xs hk with⟨y,hy,hlt⟩|hke
 .have hst:(xs.take (k+1)).filter p=if p y then(xs.take k).filter p++[y]else(xs.take k).filter p:=by
   rw[AL hy,List.filter_append];cases hp:p y<;>simp[hp]
  generalize (xs.take k).filter p=zs at *
  conv=>whnf
  repeat'((first|clear U K|apply st|(apply zk;intro K U)|refine zX ?_|refine aq fun v Z hs hsl=>?_|refine VJ.use hpf ?_|refine za (fun hc=>?_) fun hc=>?_|fail)<;>conv=>whnf)
  .rw[if_pos (by assumption)]at hst
   exact⟨hlt,_,rfl,trivial,by rw[hst];exact hs.take 2⟩
  .rw[if_neg (by simp[*])]at hst
   exact⟨hlt,_,rfl,trivial,by rw[hst];exact hs.take 2⟩
 .refine zv ?_;(repeat clear U K);repeat intro K U
  rw[Au hke]at hs;obtain⟨Z2,h1,h2,h3⟩:=IZ hs 1 rfl;exact Gg h1 h2 ⟨_,⟨rfl,rfl⟩,h3⟩
def wy:VJ 390 [] [] (· != 0):=by
 intro y;refine sM kZ ?_;have hs:=Sn;exact zW
def jh (xs:List Int) (u:V) (hxl:xs.length<=AY):Bc zP 381 [u] [.own u 1 (iL xs)] fun r post=>r= .ret (.l (iL (xs.filter (· != 0))) false)/\post= [.own u 1 (iL xs)]:=by
 intro Z hs;refine sS kZ ?_
 conv=>whnf
 repeat'((first|clear U K|apply st|(apply zk;intro K U)|fail)<;>conv=>whnf)
 refine(ig 390 [] [] (· != 0) wy xs u hxl).use (rest:=[]) hs ?_;clear hs;rintro r post Z ⟨rfl,rfl⟩ hs;refine zv ?_;(repeat clear U K);repeat intro K U
 exact Ak hs (by simp) (.refl _) fun Z' hs'=>⟨_,⟨rfl,rfl⟩,hs'⟩
def Zs (g : List (List Int)) (f:Bool):Pure zP 296 [.l (Ee g) f] (.b (Dd g)):=by
 refine Pure.fit (by kernel_rfl) fun hf=>?_
 have⟨g1,g2⟩:=TZ hf.1;have hM:=Mx;refine tR kZ ?_;have hs:=Sn;by_cases h16:g.length<=16
 .conv=>whnf
  repeat'((first|clear U K|apply st|(apply zk;intro K U)|refine zX ?_|(refine zb (fun hc=>?_) (fun hc=>?_)<;>try exact⟨⟩)|fail)<;>conv=>whnf)
  all_goals try(exfalso;omega)
  refine B0 g.length (fun k (_:Unit)=>[(12,eI (A8 k))]) (fun _ _=>[]) (fun k _=>Dd g=IV k (g.drop k)) () rfl (by simp[Dd,h16]) hs ?_;clear hs;rintro k - Z hk hn hs;have hck:A8 k=k:=AO (by omega);rcases BC g hk with⟨l,hl,hlt⟩|hke
  .have hll:=g2 l (B1 hl)
   rw[drop_cons hl,IV]at hn;by_cases h3:l.length<=3
   .rw[decide_eq_true h3,G7]at hn
    conv=>whnf
    repeat'((first|clear U K|apply st|(apply zk;intro K U)|refine zX ?_|(refine zb (fun hc=>?_) (fun hc=>?_)<;>try exact⟨⟩)|fail)<;>conv=>whnf)
    all_goals try(exfalso;omega)
    refine B0 l.length (fun j (_:Unit)=>[(22,eI (A8 j))]) (fun _ _=>[]) (fun j _=>Dd g=(Mo k (l.take j) (l.drop j)&&IV (k+1) (g.drop (k+1)))) () rfl hn hs ?_;clear hs hn;rintro j - Z hj hn hs;rcases BC l hj with⟨c,hc0,hjlt⟩|hje
    .rw[drop_cons hc0,Mo,pO]at hn
     have hw:IntKind.i64.wrap (3+A8 k)=3+(k:Int):=by rw[hck,wrap64 (by omega) (by omega)]
     conv=>whnf
     repeat'((first|clear U K|apply st|(apply zk;intro K U)|refine zX ?_|refine Pure.use (Dp _ _ _) ?_|(refine zd (fun hc=>?_) (fun hc=>?_)<;>try exact⟨⟩)|fail)<;>conv=>whnf)
     .exact AF (by rw[hn,hc];simp)
     .exact⟨hjlt,(),rfl,by rw[hn,hc,AL hc0];simp[*],hs⟩
     .exact AF (by(rw[hn];have: ¬c<3+(k:Int):=by omega);simp[this])
     .exact AF (by(rw[hn];have: ¬3<=c:=by omega);simp[this])
    .refine zv ?_;(repeat clear U K);repeat intro K U
     exact⟨hlt,(),rfl,by rw[hn,Ao hje];rfl,hs⟩
   .conv=>whnf
    repeat'((first|clear U K|apply st|(apply zk;intro K U)|refine zX ?_|(refine zb (fun hc=>?_) (fun hc=>?_)<;>try exact⟨⟩)|fail)<;>conv=>whnf)
    all_goals try(exfalso;omega)
    exact AF (by rw[hn];simp[h3])
  .refine zv ?_;(repeat clear U K);repeat intro K U
   exact AF (by rw[hn,Ao hke];rfl)
 .conv=>whnf
  repeat'((first|clear U K|apply st|(apply zk;intro K U)|refine zX ?_|(refine zb (fun hc=>?_) (fun hc=>?_)<;>try exact⟨⟩)|fail)<;>conv=>whnf)
  all_goals try(exfalso;omega)
  exact AF (by simp[Dd,h16])
def V8 (g:List (List Int)) (f:Bool):Pure zP 260 [.l (Ee g) f] (eI (if Dd g then 0 else 2)):=by
 refine tj kZ ?_;have hs:=Sn
 conv=>whnf
 repeat'((first|clear U K|apply st|(apply zk;intro K U)|refine Pure.use (Zs _ _) ?_|refine za (fun hc=>?_) fun hc=>?_|fail)<;>conv=>whnf)
 all_goals exact AF (by simp[*])
def wz (n:Nat) (h:Int):Cz zP (.f (.func 383) [] [.p n 0]) eI (fun _:Unit=>[.box n [eI h]]) (U4 (· != h)) (fun _ _=>True):=by
 intro y s _ Z hs;refine By ?_;show A3 zP 383 ([]++[eI y]++[.p n 0]) Z _;refine sR kZ ?_;refine zv ?_;(repeat clear U K);repeat intro K U
 exact Ak hs (List.Sublist.refl _) (.refl _) fun Z' hs'=>⟨rfl,hs'⟩
def cS (ls:List (List Int)):E8 ls []=false:=rfl
def YG (ls:List (List Int)) (x:Int) (r:List Int):E8 ls (x::r)=free ls x:=rfl
def cb {α:Type} {p:α->Bool} {xs:List α} {k:Nat} {x:α} (hx:xs[k]? =some x) (h:(xs.take k).find? p=none):(xs.take (k+1)).find? p=if p x then some x else none:=by
 rw[AL hx,List.find?_append,h];simp only[List.find?_cons,List.find?_nil,Option.none_or];cases p x<;>rfl
def cZ {α:Type} {p:α->Bool} {xs:List α} {k:Nat} {x:α} (h:(xs.take k).find? p=some x):xs.find? p=some x:=by
 conv=>lhs;rw[<-List.take_append_drop k xs]
 rw[List.find?_append,h];rfl
def ZP (ls:List (List Int)):pick ls=(ls.find? (E8 ls)).bind List.head? :=rfl
def iV (ls:List (List Int)) (f:Bool) (hok:Mj ls) (ht:total ls<AY):Pure zP 361 [.l (Ee ls) f] (.t [.l (iL (CE ls).1) false,.b (CE ls).2]):=by
 have hM:=Mx;refine sd kZ ?_;have hs:=Sn;refine zv ?_;(repeat clear U K);repeat intro K U
 refine Dz (fun(x:List (List Int)×Bool×V×List Int)=>total x.1) (fun x=>[(0,.l (Ee x.1) x.2.1),(4,x.2.2.1)]) (fun x=>[.own x.2.2.1 1 (iL x.2.2.2)])
  (fun x=>Mj x.1/\x.2.2.2.length+total x.1<=total ls/\DB (total x.1) x.1 x.2.2.2=CE ls) (ls,f,.l [] true,[]) rfl ⟨hok,by simp,rfl⟩ (El hs 1) ?_
 clear hs;rintro⟨ls',f',v,out⟩ Z ⟨hok',hlen,hm⟩ hs;dsimp only at hok' hlen hm hs;dsimp only;have hol:=hok'.1;refine zv ?_;(repeat clear U K);repeat intro K U
 refine B0 ls'.length (fun k (t:Bool)=>[(5,.b t),(16,eI (A8 k))]) (fun _ _=>[.own v 1 (iL out)]) (fun k t=>(ls'.take k).find? (E8 ls')=none/\t=(ls'.take k).any fun l=> !l.isEmpty) false rfl ⟨rfl,rfl⟩ hs ?_;clear hs;rintro k t Z hk ⟨hfd,hta⟩ hs;rcases BC ls' hk with⟨l,hl,hlt⟩|hke
 .have hfs:=cb (p:=E8 ls') hl hfd
  have has:((ls'.take (k+1)).any fun l=> !l.isEmpty)=(t|| !l.isEmpty):=by rw[AL hl,List.any_append,<-hta];simp
  have hb:=hok'.2 _ (B1 hl);cases l with
  | nil=>
    have hnl:([]:List Int).length=0:=rfl;rw[cS,if_neg (by decide)]at hfs
    conv=>whnf
    repeat'((first|clear U K|apply st|(apply zk;intro K U)|refine zX ?_|(refine zb (fun hc=>?_) (fun hc=>?_)<;>try exact⟨⟩)|fail)<;>conv=>whnf)
    exact⟨hlt,_,rfl,⟨hfs,by rw[has];simp⟩,hs⟩
  | cons x r=>
    have hx0:(x::r)[Int.toNat 0]? =some x:=rfl;have hnl:(x::r).length=r.length+1:=rfl;rw[YG]at hfs;simp only[List.isEmpty_cons,Bool.not_false,Bool.or_true]at has
    conv=>whnf
    repeat'((first|clear U K|apply st|(apply zk;intro K U)|refine zX ?_|(refine zb (fun hc=>?_) (fun hc=>?_)<;>try exact⟨⟩)|fail)<;>conv=>whnf)
    refine B0 ls'.length (fun j (_:Unit)=>[(25,eI (A8 j))]) (fun _ _=>[.own v 1 (iL out)]) (fun j _=>free ls' x=(ls'.drop j).all fun m=> !(m.drop 1).contains x) () rfl rfl hs ?_;clear hs;rintro j - Z hj hfr hs;rcases BC ls' hj with⟨m,hm0,hjlt⟩|hje
    .have hmb:=(hok'.2 _ (B1 hm0)).1
     rw[drop_cons hm0,LC]at hfr;cases m with
     | nil=>
       have hml:([]:List Int).length=0:=rfl
       conv=>whnf
       repeat'((first|clear U K|apply st|(apply zk;intro K U)|refine zX ?_|(refine zb (fun hc=>?_) (fun hc=>?_)<;>try exact⟨⟩)|fail)<;>conv=>whnf)
       exact⟨hjlt,(),rfl,by rw[hfr];rfl,hs⟩
     | cons y s=>
       have hml:(y::s).length=s.length+1:=rfl
       conv=>whnf
       repeat'((first|clear U K|apply st|(apply zk;intro K U)|refine zX ?_|(refine zb (fun hc=>?_) (fun hc=>?_)<;>try exact⟨⟩)|fail)<;>conv=>whnf)
       refine VY 1 rfl (by omega) (fun _=>rfl) ?_
       conv=>whnf
       repeat'((first|clear U K|apply st|(apply zk;intro K U)|refine zX ?_|refine Pure.use (Dp _ _ _) ?_|refine za (fun hc=>?_) fun hc=>?_|fail)<;>conv=>whnf)
       .rw[hc]at hfr
        have hfr2:free ls' x=false:=by rw[hfr];rfl
        rw[hfr2,if_neg (by decide)]at hfs;exact⟨hlt,true,rfl,⟨hfs,by rw[has]⟩,hs⟩
       .exact⟨hjlt,(),rfl,by rw[hfr,hc];rfl,hs⟩
    .rw[Ao hje]at hfr
     have hgood:free ls' x=true:=hfr;rw[hgood,if_pos rfl]at hfs;have hp:pick ls'=some x:=by rw[ZP,cZ hfs];rfl
     have htp:=H8 hp
     conv=>whnf
     repeat'((first|clear U K|apply st|(apply zk;intro K U)|refine zX ?_|refine zr fun Z hs=>?_|refine aq fun v Z hs hsl=>?_|refine zp fun nn hnn Z hs=>?_|fail)<;>conv=>whnf)
     have hs2:Sat Z [.own v 1 (iL (out++[x])),.box nn [eI x]]:=hs;refine B0 ls'.length (fun k u=>[(11,u),(50,eI (A8 k))]) (fun k u=>[.own v 1 (iL (out++[x])),.box nn [eI x],.own u 1 (Ee ((ls'.take k).map fun l=>l.filter (· != x)))]) (fun _ _=>True) (.l [] true) rfl trivial (El hs2 1) ?_;clear hs hs2;rintro q u Z hq - hs;rcases BC ls' hq with⟨w,hw,hqlt⟩|hqe
     .refine zv ?_;(repeat clear U K);repeat intro K U
      refine(mL 383 [] [.p nn 0] [.box nn [eI x]] (· != x) (wz nn x) w false).use (rest:=[_,_]) (hs.perm (.swap _ _ _)) ?_;clear hs;rintro rr post Z ⟨rfl,rfl⟩ hs
      conv=>whnf
      repeat'((first|clear U K|apply st|(apply zk;intro K U)|refine zX ?_|refine aq fun v Z hs hsl=>?_|fail)<;>conv=>whnf)
      refine⟨hqlt,_,rfl,trivial,?_⟩;rw[AL hw,Uf];exact hs.perm (.swap _ _ _)
     .refine zv ?_;(repeat clear U K);repeat intro K U
      rw[Au hqe]at hs;refine pq hs 2 rfl fun Z' hs'=>?_
      refine zv ?_;(repeat clear U K);repeat intro K U
      refine⟨(ls'.map fun l=>l.filter (· != x),false,v,out++[x]),htp,rfl,⟨hok'.filter x,by simp;omega,?_⟩,hs'.take 1⟩;rw[<-N8 hp];exact hm
 .rw[Au hke]at hfd hta
  have hp:pick ls'=none:=by rw[ZP,hfd];rfl
  rw[QO hp]at hm;refine zv ?_;(repeat clear U K);repeat intro K U
  refine Ap ?_;rw[<-hm];refine .t (.cons (hs.GW 0 rfl) (.cons ?_ .nil));have:(!t)=ls'.all List.isEmpty:=by rw[hta];simp[List.all_eq_not_any_not]
  rw[<-this];exact .refl _
abbrev Ord:=Int×V×List Int
def kA (e:Ord):V×V:=(eI e.1,e.2.1)
def dZ (e:Ord):At:= .own e.2.1 1 (iL e.2.2)
abbrev pL (ps:List (List Int×Bool)):List (List V):=ps.map fun p=>[.l (iL p.1) p.2]
abbrev gH (n mm:Nat) (vp vu:V) (ps:List (List Int×Bool)) (us:List Nat) (M:List Ord):List At:=
 .box n [vp,vu,.m mm]:: .own vp 1 (pL ps):: .own vu 1 (us.map fun u=>[eU u]):: .map mm (M.map kA)::M.map dZ
def B2 (M:List Ord) (c:Int):List Int:=((M.find? fun e=>c==e.1).map fun e=>e.2.2).getD []
def Ix (M:List Ord) (c:Int):V:=((M.find? fun e=>c==e.1).map fun e=>e.2.1).getD (.l [] true)
def ic (M:List Ord) (c:Int):found (.l [] true) false (CZ (eI c) (M.map kA))=Ix M c:=by
 induction M with
 | nil=>rfl
 | cons e r ih=>
   simp only[Ex,kA,CZ,Ix,List.find?_cons]at *;have he:Df (eI c) (eI e.1)=(c==e.1):=rfl;rw[he];cases c==e.1
   .exact ih
   .rfl
def XV (M:List Ord): ∀kv∈M.map kA,BN (.i .i64) kv.1=true:=by
 intro kv h;obtain⟨e,_,rfl⟩:=Mg.1 h;rfl
def mB {M:List Ord} {c:Int} (v:V) (l:List Int) (h: ∀e∈M,e.1≠c):DV (eI c) v (M.map kA)=(M++[(c,v,l)]).map kA:=by
 induction M with
 | nil=>rfl
 | cons e r ih=>
   simp only[Ex,List.cons_append,kA,DV];have he:Df (eI c) (eI e.1)=(c==e.1):=rfl;rw[he,beq_false_of_ne (fun e'=>h e (.head _) e'.symm)];simp only[cond_false];rw[ih fun e he=>h e (.tail _ he)]
def PV (M:List Ord) (c:Int):(B2 M c= []/\Ix M c= .l [] true)\/ ∃j:Nat,(M.map dZ)[j]? =some (At.own (Ix M c) 1 (iL (B2 M c))):=by
 unfold B2 Ix;cases h:M.find? fun e=>c==e.1 with
 | none=>exact .inl ⟨rfl,rfl⟩
 | some e=>
   refine .inr ?_;obtain⟨j,hj⟩:=List.getElem?_of_mem (List.mem_of_find?_eq_some h);refine⟨j,?_⟩;rw[Md,hj];rfl
def PW {M:List Ord} {c:Int} {Z:AE} {fx:List At} (hs:Sat Z (fx++M.map dZ)) (hl:(B2 M c).length<=AY) {K:V->Prop} (hk:K (.i .i64 (B2 M c).length)):A4 (Ix M c) K:=by
 rcases PV M c with⟨h1,h2⟩|⟨j,hj⟩
 .rw[h2]
  rw[h1]at hk;exact J6 hk
 .have hj':(fx++M.map dZ)[fx.length+j]? =some (At.own (Ix M c) 1 (iL (B2 M c))):=by
   rw[List.getElem?_append_right (by omega),Nat.add_sub_cancel_left,hj]
  exact wP hs _ hj' (by simpa using hl) (by simpa using hk)
def yL {Z:AE} {l:List At} {i mm:Nat} {M:List Ord} {c:Int} {K:V->Prop} (hk:K (Ix M c)) (h:Sat Z l:=by assumption)
    (hi:l[i]? =some (.map mm (M.map kA)):=by first|exact Qy|exact Qx|exact Qw|exact Qv|exact Qu|exact Qt):AM Z (.i .i64) (.l [] true) false (.m mm) (eI c) K:=
 Jc h i hi rfl (XV M) (by rw[ic];exact hk)
def xh {M:List Ord} {c:Int} {Z:AE} {fx:List At} (hs:Sat Z (fx++M.map dZ)) (hl:(B2 M c).length<=AY) (hne:B2 M c≠[]) {k kp:V->AE->Prop} (hk: ∀Z',Sat Z' (fx++M.map dZ)->k (.l (iL ((B2 M c).filter (· != 0))) false) Z'):A3 zP 381 [Ix M c] Z (qk k kp):=by
 rcases PV M c with⟨h1,h2⟩|⟨j,hj⟩
 .exact absurd h1 hne
 .have hj':(fx++M.map dZ)[fx.length+j]? =some (At.own (Ix M c) 1 (iL (B2 M c))):=by
   rw[List.getElem?_append_right (by omega),Nat.add_sub_cancel_left,hj]
  refine(jh (B2 M c) (Ix M c) hl).oH hs hj' ?_;rintro r Z' rfl hs';exact hk Z' hs'
def WL {Z Z2:AE}: ∀ {a a' b b':List (List V)},D7 Z Z2 a a'->D7 Z Z2 b b'->D7 Z Z2 (a++b) (a'++b')
 | [],[],_,_,.nil,h=>h
 | _::_,_::_,_,_,.cons h1 h2,h=> .cons h1 (WL h2 h)
def iZ (n mm:Nat) (vp vu:V) (ps:List (List Int×Bool)) (us:List Nat) (M:List Ord) (c:Int) (l:List Int) (b:Bool) (hc0:0<=c) (hl:ps[c.toNat]? =some (l,b)) (hll:l.length<=3) (hol: ∀c,(B2 M c).length<=AY) :
    Bc zP 360 [.p n 0,eI c] (gH n mm vp vu ps us M) fun r post=>r= .ret (if l.any fun p=>(B2 M p).isEmpty then .t [.l [] true,.b false]else .t [.l (Ee (l.map (fun p=>(B2 M p).filter (· != 0))++[l])) false,.b true])/\post=gH n mm vp vu ps us M:=by
 intro Z hs;have hM:=Mx;have hci:c<ps.length:=by have:=(IN.1 hl).1;omega
 refine se kZ ?_;refine zz ?_;(repeat clear U K);repeat intro K U
 refine B0 l.length (fun k v=>[(6,v),(17,eI (A8 k))]) (fun k v=> .own v 1 (Ee ((l.take k).map fun p=>(B2 M p).filter (· != 0)))::gH n mm vp vu ps us M) (fun k _=>((l.take k).any fun p=>(B2 M p).isEmpty)=false) (.l [] true) rfl rfl (Cf hs 1) ?_;clear hs;rintro k v Z hk hne hs;rcases BC l hk with⟨p,hp,hlt⟩|hke
 .have han:((l.take (k+1)).any fun p=>(B2 M p).isEmpty)=(B2 M p).isEmpty:=by rw[AL hp,List.any_append,hne];simp
  have hap:(l.take k).length<=3:=by rw[Mf];omega
  conv=>whnf
  repeat'((first|clear U K|apply st|(apply zk;intro K U)|refine zY ?_|refine yL ?_|refine PW (fx:=_::_::_::_::_:: []) hs (hol _) ?_|refine za (fun hc=>?_) fun hc=>?_|fail)<;>conv=>whnf)
  .have h0:(B2 M p).isEmpty=true:=by rw[List.isEmpty_iff_length_eq_zero];omega
   have hany:(l.any fun p=>(B2 M p).isEmpty)=true:=J0.2 ⟨p,B1 hp,h0⟩;refine Ak (l':=gH n mm vp vu ps us M) hs (Mc _ _) (.refl _) fun Z' hs'=>⟨_,⟨?_,rfl⟩,hs'⟩
   rw[if_pos hany]
  .have h0:(B2 M p).isEmpty=false:=by
    cases h:(B2 M p).isEmpty
    .rfl
    .rw[List.isEmpty_iff_length_eq_zero]at h;omega
   refine xh (fx:=_::_::_::_::_:: []) hs (hol _) (fun e=>by rw[e]at h0;cases h0) fun Z hs=>?_
   conv=>whnf
   repeat'((first|clear U K|apply st|(apply zk;intro K U)|refine zY ?_|refine aq fun v Z hs hsl=>?_|fail)<;>conv=>whnf)
   refine⟨hlt,_,rfl,by rw[han];exact h0,?_⟩;rw[AL hp,Uf];exact hs
 .rw[Au hke]at hne hs
  refine zz ?_;(repeat clear U K);repeat intro K U
  refine hAppend hs 0 rfl (by simp;omega) (fun e he=>by simp at he;subst he;rfl) (fun e he v hv=>by simp at he;subst he;simp at hv;subst hv;rfl) fun v Z hs=>?_
  refine zz ?_;(repeat clear U K);repeat intro K U
  obtain⟨Z2,h1,h2,h3⟩:=rB (es':=Ee (l.map (fun p=>(B2 M p).filter (· != 0))++[l])) hs 0 rfl fun Z2=>by
   have e:Ee (l.map (fun p=>(B2 M p).filter (· != 0))++[l])=Ee (l.map fun p=>(B2 M p).filter (· != 0))++[[.l (iL l) false]]:=by simp only[Ee,Uf,Ex,List.map_nil]
   rw[e];exact WL (Ea _) (.cons (.cons eY .nil) .nil)
  refine Gg h1 (.t (.cons h2 (.cons (.refl _) .nil))) ⟨_,⟨?_,rfl⟩,h3⟩;rw[hne,if_neg (by decide)]
def Sat.yZ {Z:AE} {l:List At} {a:At} (h:Sat Z (a::l)):Sat Z (l++[a]):=h.perm (by
 have:=RP (l₁:=[a]) (l₂:=l)
 simpa using this)
def C1 (M:List Ord) (l:List Int):List (List Int):=l.map (fun p=>(B2 M p).filter (· != 0))++[l]
def Gp (M:List Ord) (l:List Int) (c:Int):List Int:=
 if c=0 then [0]else if l.any (fun p=>(B2 M p).isEmpty)then []else if(CE (C1 M l)).2 then [c]++(CE (C1 M l)).1++[0]else []
def Zm (n mm:Nat) (vp vu:V) (ps:List (List Int×Bool)) (us:List Nat) (M:List Ord) {c:Int} {v:V} {l:List Int} (hk: ∀e∈M,e.1≠c) {Z:AE}
    (hs:Sat Z (.own v 1 (iL l):: .box n [vp,vu,.m mm]:: .own vp 1 (pL ps):: .own vu 1 (us.map fun u=>[eU u]):: .map mm (DV (eI c) v (M.map kA))::M.map dZ)):Sat Z (gH n mm vp vu ps us (M++[(c,v,l)])):=by
 rw[mB v l hk]at hs;have:=hs.yZ;unfold gH;rw[Uf (f:=dZ)];exact this
def iI (n mm:Nat) (vp vu:V) (ps:List (List Int×Bool)) (us:List Nat) (M:List Ord) (c:Int) (l:List Int) (b:Bool) (hc0:0<=c) (hl:ps[c.toNat]? =some (l,b)) (hll:l.length<=3) (hol: ∀c,(B2 M c).length<=AY) (hk: ∀e∈M,e.1≠c)
    (hok:Mj (C1 M l)) (ht:total (C1 M l)<1000000000) :
    Bc zP 328 [.p n 0,eI c] (gH n mm vp vu ps us M) fun r post=>r= .ret (.t [])/\ ∃M',post=gH n mm vp vu ps us M'/\((M'=M/\Gp M l c= [])\/ ∃v,M'=M++[(c,v,Gp M l c)]/\Gp M l c≠[]):=by
 intro Z hs;have hM:=Mx;refine s7 kZ ?_;by_cases hc:c=0
 .subst hc
  conv=>whnf
  repeat'((first|clear U K|apply st|(apply zk;intro K U)|refine zY ?_|(refine zb (fun hc=>?_) (fun hc=>?_)<;>try exact⟨⟩)|fail)<;>conv=>whnf)
  refine Jb hs 3 rfl rfl (XV M) fun Z hs=>?_
  refine zz ?_;(repeat clear U K);repeat intro K U
  refine Ak (l':=gH n mm vp vu ps us (M++[(0,.l [[eI 0]] true,[0])])) ?_ (List.Sublist.refl _) (.refl _) fun Z' hs'=>⟨_,⟨rfl,_,rfl,.inr ⟨.l [[eI 0]] true,?_,?_⟩⟩,hs'⟩
  .refine Zm n mm vp vu ps us M hk ?_
   exact oY hs (fun e he=>by simp at he;subst he;rfl)
  .rw[Gp,if_pos rfl]
  .rw[Gp,if_pos rfl];exact fun e=>by cases e
 .have hoc:Gp M l c=if l.any (fun p=>(B2 M p).isEmpty)then []else if(CE (C1 M l)).2 then [c]++(CE (C1 M l)).1++[0]else []:=by rw[Gp,if_neg hc]
  have hli:=iZ n mm vp vu ps us M c l b hc0 hl hll hol;have hmg:=iV (C1 M l) false hok (by omega);have hml:=ID (total (C1 M l)) (C1 M l) [];have hml2:(CE (C1 M l)).1.length<=total (C1 M l):=by simpa[CE]using hml
  cases hany:l.any fun p=>(B2 M p).isEmpty
  .rw[hany,if_neg (by decide)]at hoc
   simp only[hany,LG,if_false]at hli;have hdn: ∀ {Z:AE} {M':List Ord},Sat Z (gH n mm vp vu ps us M')->((M'=M/\Gp M l c= [])\/ ∃v,M'=M++[(c,v,Gp M l c)]/\Gp M l c≠[])->Aq Z (.t []) fun r Z'=> ∃post,(r= .ret (.t [])/\ ∃M',post=gH n mm vp vu ps us M'/\((M'=M/\Gp M l c= [])\/ ∃v,M'=M++[(c,v,Gp M l c)]/\Gp M l c≠[]))/\Sat Z' post:=fun hs h=>Ak hs (List.Sublist.refl _) (.refl _) fun Z' hs'=>⟨_,⟨rfl,_,rfl,h⟩,hs'⟩
   conv=>whnf
   repeat'((first|clear U K|apply st|(apply zk;intro K U)|refine zY ?_|(refine zb (fun hc=>?_) (fun hc=>?_)<;>try exact⟨⟩)|fail)<;>conv=>whnf)
   refine hli.use (rest:=[]) (by simpa using hs) ?_;clear hs;rintro r post Z ⟨rfl,rfl⟩ hs;rw[Ip]at hs;have hml3:(C1 M l)=l.map (fun p=>(B2 M p).filter (· != 0))++[l]:=rfl;rw[<-hml3];generalize C1 M l=ll at *;cases hb:(CE ll).2<;>rw[hb]at hmg hoc
   .conv=>whnf
    repeat'((first|clear U K|apply st|(apply zk;intro K U)|refine zY ?_|refine zC ?_|fail)<;>conv=>whnf)
    exact hdn hs (.inl ⟨rfl,by rw[hoc];rfl⟩)
   .rw[if_pos rfl]at hoc
    conv=>whnf
    repeat'((first|clear U K|apply st|(apply zk;intro K U)|refine zY ?_|refine zC ?_|fail)<;>conv=>whnf)
    replace hs:=oY hs (sz:=1) (es:=[[eI c]]) (fun e he=>by simp at he;subst he;rfl);refine F9 hs 0 (xs:=[c]) (ys:=(CE ll).1) rfl (by simp;omega) BZ fun v Z hs=>?_
    conv=>whnf
    repeat'((first|apply st|refine zY ?_|refine rk ?_ ?_|exact fun s e=>by cases e;rfl|refine aq fun v Z hs hsl=>?_|fail)<;>conv=>whnf)
    refine Jb hs 4 rfl rfl (XV M) fun Z hs=>?_
    refine zz ?_;(repeat clear U K);repeat intro K U
    refine hdn (Zm n mm vp vu ps us M hk (l:=Gp M l c) ?_) (.inr ⟨v,rfl,by rw[hoc];simp⟩);rw[hoc];exact hs
  .rw[hany,if_pos rfl]at hoc
   simp only[hany,if_true]at hli
   conv=>whnf
   repeat'((first|clear U K|apply st|(apply zk;intro K U)|refine zY ?_|(refine zb (fun hc=>?_) (fun hc=>?_)<;>try exact⟨⟩)|fail)<;>conv=>whnf)
   refine hli.use (rest:=[]) (by simpa using hs) ?_;clear hs;rintro r post Z ⟨rfl,rfl⟩ hs;rw[Ip]at hs;refine zz ?_;(repeat clear U K);repeat intro K U
   exact Ak hs (List.Sublist.refl _) (.refl _) fun Z' hs'=>⟨_,⟨rfl,_,rfl,.inl ⟨rfl,hoc⟩⟩,hs'⟩
end Go.Gl
namespace Go.Gl
def bn {M:List Ord} {k:Int} {v:V} {o:List Int} (h: ∀e∈M,e.1<k) (d:Int):B2 (M++[(k,v,o)]) d=if d=k then o else B2 M d:=by
 unfold B2;rw[List.find?_append];split
 .rename_i e
  have:M.find? (fun e=>d==e.1)=none:=by
   rw[List.find?_eq_none];intro x hx;have:=h x hx;simp;omega
  rw[this];simp[e]
 .rename_i e
  cases hf:M.find? fun e=>d==e.1 with
  | some x=>simp
  | none=>simp[List.find?_cons,e]
structure Ij (g:List (List Int)) (k:Nat) (M:List Ord):Prop where
 keys: ∀e∈M,0<=e.1/\e.1<(k:Int)
 dn: ∀d:Int,0<=d->d<k->B2 M d=(Bz g).getD d.toNat []
def Vf {g:List (List Int)} {k:Nat} {M:List Ord} (h:Ij g k M) {d:Int} (hd:d<0\/(k:Int)<=d):B2 M d= []:=by
 unfold B2
 have:M.find? (fun e=>d==e.1)=none:=by
  rw[List.find?_eq_none];intro x hx;have:=h.keys x hx;simp;omega
 rw[this];rfl
def L3 {g:List (List Int)} (hg:Ia g) {k:Nat} {M:List Ord} (h:Ij g k M) (d:Int):(B2 M d).length<=71744535/\ ∀x∈B2 M d,(0:Int)<=x:=by
 by_cases hd:d<0\/(k:Int)<=d
 .rw[Vf h hd]
  exact⟨by simp,fun x hx=>by cases hx⟩
 .rw[h.dn d (by omega) (by omega)]
  have hb:=IK hg (2+g.length);have hl:=Z8 (k:=2+g.length) (by have:=hg.1;omega);unfold Bz;exact⟨Vv (fun o ho=>Nat.le_trans (hb o ho).1 hl) _,Po (fun o ho=>(hb o ho).2) _⟩
def cA {g:List (List Int)} (hg:Ia g) {k:Nat} {M:List Ord} (h:Ij g k M) {l:List Int} (hl:l.length<=3) (h0: ∀x∈l,(0:Int)<=x):Mj (C1 M l)/\total (C1 M l)<1000000000:=by
 have hM:AY=17592186044416:=rfl;have hf: ∀p,((B2 M p).filter (· != 0)).length<=71744535:=fun p=>Nat.le_trans (Qs _ _) (L3 hg h p).1
 have ht: ∀l:List Int,total (l.map fun p=>(B2 M p).filter (· != 0))<=l.length*71744535:=by
  intro l
  induction l with
  | nil=>simp[total]
  | cons p r ih=>
    simp only[total,Ex,List.sum_cons,LF]at *;have:=hf p;rw[Nat.add_mul];omega
 refine⟨⟨by simp[C1];omega,fun m hm=>?_⟩,?_⟩
 .rcases E4.1 hm with hm|hm
  .obtain⟨p,_,rfl⟩:=Mg.1 hm
   refine⟨by have:=hf p;omega,fun x hx=>(L3 hg h p).2 x (LH.1 hx).1⟩
  .rw[LD.1 hm]
   exact⟨by omega,h0⟩
 .have h1:=ht l
  have h2:total (C1 M l)=total (l.map fun p=>(B2 M p).filter (· != 0))+l.length:=by simp[C1,total]
  have h3:=UW 71744535 hl;omega
def lW {g:List (List Int)} {k:Nat} {M:List Ord} (h:Ij g (k+1) M) {l:List Int} (hl:l=Aw g ((k:Int)+1)) (hp: ∀p∈l,(0:Int)<=p/\p<(k:Int)+1) (hk:k+1<3+g.length) :
    Gp M l ((k:Int)+1)=Dt g (BX g k) ((k:Int)+1):=by
 have ho: ∀p∈l,B2 M p=(BX g k).getD p.toNat []:=fun p hpl=>by
  obtain⟨h0,h1⟩:=hp p hpl;rw[h.dn p h0 (by omega)];unfold Bz;rw[DH,DH,Ev (k:=2+g.length) (j:=p.toNat) (by omega),Ev (k:=k) (j:=p.toNat) (by omega)]
 have e1:(l.any fun p=>(B2 M p).isEmpty)=(l.any fun p=>((BX g k).getD p.toNat []).isEmpty):=by
  rw[J1,J0,J0];constructor
  .rintro⟨p,h1,h2⟩;exact⟨p,h1,by rw[<-ho p h1];exact h2⟩
  .rintro⟨p,h1,h2⟩;exact⟨p,h1,by rw[ho p h1];exact h2⟩
 have e2:C1 M l=l.map (fun p=>((BX g k).getD p.toNat []).filter (· != 0))++[l]:=by
  unfold C1;congr 1;exact List.map_congr_left fun p hpl=>by rw[ho p hpl]
 unfold Gp Dt ED;rw[if_neg (by omega),e1,e2,<-hl];split<;>rfl
def Ij.nil {g:List (List Int)}:Ij g 0 []:=⟨fun e h=>(by cases h),fun d h0 h1=>by omega⟩
def Ij.step {g:List (List Int)} {k:Nat} {M M':List Ord} (h:Ij g k M) {l:List Int} (hl:l=Aw g (k:Int)) (hp: ∀p∈l,(0:Int)<=p/\p<(k:Int)) (hk:k<3+g.length)
    (hM:(M'=M/\Gp M l k= [])\/ ∃v,M'=M++[((k:Int),v,Gp M l k)]/\Gp M l k≠[]):Ij g (k+1) M':=by
 have hc:Gp M l k=(Bz g).getD k []:=by
  cases k with
  | zero=>
    unfold Gp Bz;rw[if_pos (by simp),DH,Ev (j:=0) (by omega)];rfl
  | succ k=>
    have:=lW h (by simpa using hl) (fun p hpl=>by have:=hp p hpl;simpa using this) hk;have e:((k+1:Nat):Int)=(k:Int)+1:=by omega
    rw[e,this];unfold Bz;rw[DH,Ev (k:=2+g.length) (j:=k+1) (by omega),BX,List.getElem?_append_right (by rw[Cb];omega),Cb,Nat.sub_self];rfl
 rcases hM with⟨rfl,he⟩|⟨v,rfl,_⟩
 .refine⟨fun e he=>by have:=h.keys e he;omega,fun d h0 h1=>?_⟩
  by_cases hd:d=k
  .subst hd
   rw[Vf h (by omega)];rw[JP,<-hc,he]
  .exact h.dn d h0 (by omega)
 .refine⟨fun e he=>?_,fun d h0 h1=>?_⟩
  .rcases E4.1 he with he|he
   .have:=h.keys e he;omega
   .rw[LD.1 he]
    exact⟨by simp,by simp;omega⟩
  .rw[bn (fun e he=>(h.keys e he).2)]
   split
   .rename_i hd
    rw[hd,JP];exact hc
   .exact h.dn d h0 (by omega)
end Go.Gl
namespace Go.Gl
open Go.Proofs
attribute [local irreducible] A3 Aq Af AR AJ Ad AQ AT AK Ac AM AN Ax A5 Sat AX A4 Ah W
def Ay (p:Prog):List (List Int):=p.AH.map (·.parents)
def pw (p:Prog):Prop:=p.AH.length<=AY/\ ∀c∈p.AH,c.parents.length<=AY/\c.AG.length<=AY/\c.inits.length<=AY
def Zj (p:Prog) (hp:pw p) (hk0:p.AH.length<=1000):Pure zP 158 [.a (A9 p)] (.l (Ee (Ay p)) false):=by
 refine uo kZ ?_;refine zh ?_;(repeat clear U K);repeat intro K U
 refine B0 p.AH.length (fun k v=>[(3,v),(4,eI (A8 k))]) (fun k v=>[.own v 1 (Ee ((p.AH.take k).map (·.parents)))]) (fun _ _=>True) (.l [] true) rfl trivial (El Sat.nil 1) ?_;rintro k v Z hk - hs;refine zh ?_;(repeat clear U K);repeat intro K U
 refine GD hk hp.1 (fun c hc hlt=>?_) fun hk=>?_
 .have hcm:=hp.2 c (B1 hc)
  refine zh ?_;(repeat clear U K);repeat intro K U
  refine I2 hc hp.1 rfl ?_;refine zh ?_;(repeat clear U K);repeat intro K U
  refine ff BZ (by have:=hcm.1;have hM:=Mx;omega) ?_
  conv=>whnf
  refine Fj hs 0 (x:=c.parents) rfl (by have hM:=Mx;simp only[BU,Mf];omega) C3 fun v' Z' hs'=>?_
  refine zh ?_;(repeat clear U K);repeat intro K U
  refine⟨hlt,v',rfl,trivial,?_⟩;rw[AL hc,Uf];exact hs'
 .refine zh ?_;(repeat clear U K);repeat intro K U
  exact EC hs 0 rfl (by rw[Au hk];rfl)
def BL (i:Nat):List Qz->List Int
 | []=>[]
 | c::r=>List.replicate c.AG.length ((i:Int)+3)++BL (i+1) r
def AS (p:Prog):AI:=⟨Ay p,BL 0 p.AH⟩
def Il (i:Nat) (a b:List Qz):BL i (a++b)=BL i a++BL (i+a.length) b:=by
 induction a generalizing i with
 | nil=>simp[BL]
 | cons c r ih=>
   simp only[List.cons_append,BL,ih,Wx,LF];rw[show i+1+r.length=i+(r.length+1) by omega]
def Bj (cs:List Qz):Nat:=(cs.map (·.AG.length)).sum
def CU (i:Nat) (cs:List Qz):(BL i cs).length=Bj cs:=by
 induction cs generalizing i with
 | nil=>rfl
 | cons c r ih=>simp[BL,ih,Bj]
def QR {cs:List Qz} {k:Nat} {c:Qz} (h:cs[k]? =some c):Bj (cs.take k)+c.AG.length<=Bj cs:=by
 induction cs generalizing k with
 | nil=>cases h
 | cons d r ih=>
   cases k with
   | zero=>simp at h;subst h;simp[Bj]
   | succ k=>simp at h;have:=ih h;simp only[Bj,List.take_succ_cons,Ex,List.sum_cons]at *;omega
def Tj (p:Prog) (hp:pw p) (hk0:p.AH.length<=1000) (hm:Bj p.AH<=AY):Pure zP 94 [.a (A9 p)] (.a (A1 (AS p))):=by
 refine xQ kZ ?_
 conv=>whnf
 repeat((first|clear U K|(apply zk;intro K U)|fail);conv=>whnf)
 intro n hn;have hs:=dw (l:=[]) (Z:=emp) Sat.nil hn (o:= .cs [.l [] true,.l [] true]);refine zh ?_;(repeat clear U K);repeat intro K U
 refine(Zj p hp hk0).use ?_
 conv=>whnf
 intro m hm;have hs:=dw hs hm (o:= .cs [.l [] true,.l [] true])
 conv=>whnf
 refine Hv hs 1 rfl rfl rfl rfl (by decide) fun Z hs=>?_
 refine zh ?_;(repeat clear U K);repeat intro K U
 refine B0 p.AH.length (fun k _=>[(4,eI (A8 k))]) (fun k v=>[.box n [.l [] true,.l [] true],.box m [.l (Ee (Ay p)) false,v],.own v 1 (iL (BL 0 (p.AH.take k)))]) (fun _ _=>True) (.l [] true) rfl trivial (El hs 1) ?_;rintro k v Z hk - hs;refine zh ?_;(repeat clear U K);repeat intro K U
 refine GD hk hp.1 (fun c hc hlt=>?_) fun hk=>?_
 .have hcm:=hp.2 c (B1 hc)
  have htk:=QR hc;refine zh ?_;(repeat clear U K);repeat intro K U
  refine B0 c.AG.length (fun j _=>[(5,eI (A8 j))]) (fun j v=>[.box n [.l [] true,.l [] true],.box m [.l (Ee (Ay p)) false,v],.own v 1 (iL (BL 0 (p.AH.take k)++List.replicate j ((k:Int)+3)))]) (fun _ _=>True) v rfl trivial (by simpa using hs) ?_;rintro j v Z hj - hs;refine zh ?_;(repeat clear U K);repeat intro K U
  refine I2 hc hp.1 rfl ?_;refine zh ?_;(repeat clear U K);repeat intro K U
  refine GD hj hcm.2.1 (fun s hsl hjlt=>?_) fun hj=>?_
  .refine zh ?_;(repeat clear U K);repeat intro K U
   refine U6 hs 1 rfl ?_;refine zh ?_;(repeat clear U K);repeat intro K U
   have he:IntKind.i64.wrap (A8 k+3)=(k:Int)+3:=by
    have:=hp.1;rw[AO (by omega),wrap64 (by omega) (by simp only[AY]at *;omega)]
   refine Fj hs 2 (x:=IntKind.i64.wrap (A8 k+3)) rfl (by have hM:=Mx;simp only[RQ,CU,List.length_replicate];omega) BZ fun v' Z' hs'=>?_
   conv=>whnf
   refine Lh hs' 1 rfl (Gq hs' 2 rfl) kZ fun Z2 hs2=>?_
   refine zh ?_;(repeat clear U K);repeat intro K U
   refine⟨hjlt,v',rfl,trivial,?_⟩;rw[List.replicate_succ',<-Wx];rw[he]at hs2;exact hs2
  .refine zh ?_;(repeat clear U K);repeat intro K U
   refine⟨hlt,v,rfl,trivial,?_⟩;rw[AL hc,Il];have:(p.AH.take k).length=k:=by simp;omega
   rw[this];simpa[BL,hj]using hs
 .refine zh ?_;(repeat clear U K);repeat intro K U
  refine U6 hs 1 rfl ?_;refine zh ?_;(repeat clear U K);repeat intro K U
  refine Hv hs 0 rfl rfl rfl (by simp[Gq hs 2 rfl]) kZ fun Z2 hs2=>?_
  refine zh ?_;(repeat clear U K);repeat intro K U
  refine U6 hs2 0 rfl ?_;refine zh ?_;(repeat clear U K);repeat intro K U
  refine Ap (.a (.cons (.refl _) (.cons ?_ .nil)));have:=hs2.GW 2 rfl;rw[Au hk]at this;exact this
end Go.Gl
