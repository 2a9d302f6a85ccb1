import Derived.Test.YtcfkfhaedllcpaaGreatW14
import Derived.Test.YtcfkfhaedllcpaaGreatW15
import Derived.Test.YtcfkfhaedllcpaaGreatW21
import Derived.Test.YtcfkfhaedllcpaaGreatW24
import Derived.Test.YtcfkfhaedllcpaaGreatW25
import Derived.Test.YtcfkfhaedllcpaaGreatW28
import Derived.Test.YtcfkfhaedllcpaaGreatW30
import Derived.Test.YtcfkfhaedllcpaaGreatW31
set_option linter.all false
set_option linter.defProp false
set_option maxHeartbeats 8000000
noncomputable section
namespace Go.Gl
open Go.Proofs
attribute [local irreducible] A3 Aq Af AR AJ Ad AQ AT AK Ac AM AN Ax A5 Sat AX A4 Ah W
def FJ (xs:List Int) (v:V) (hl:xs.length<=1000) (hv:(Be v).isSome=true\/(v= .l [] true/\xs= [])):Bc zP 26 [v] [.own v 1 (iL xs)] fun r post=>r= .ret (.t [])/\post= [.own v 1 (iL xs.reverse)]:=by
 intro Z hs;have hM:=Mx;have e0:((iL xs).length:Int)=xs.length:=by simp
 have hw0:IntKind.i64.wrap (((iL xs).length:Int) - 1)=(xs.length:Int) - 1:=by rw[e0,wrap64 (by omega) (by omega)]
 refine xb kZ ?_;refine zz ?_;(repeat clear U K);repeat intro K U
 refine Dz (fun(x:Int×Int×List Int)=>(x.2.1+1).toNat) (fun x=>[(2,eI x.1),(3,eI x.2.1)]) (fun x=>[.own v 1 (iL x.2.2)]) (fun x=> ∃k:Nat,x.1=k/\x.2.1=(xs.length:Int) - 1 - k/\2*k<=xs.length+1/\U5 xs x.2.2 k) (0,IntKind.i64.wrap (((iL xs).length:Int) - 1),xs) rfl ⟨0,rfl,by rw[hw0];simp,by omega,rN xs⟩ hs ?_;clear hs;rintro⟨i,j,ys⟩ Z ⟨k,hi,hj,hk,hh⟩ hs;dsimp only at hi hj hh hs;dsimp only;have hyl:=hh.1;by_cases hij:i<j
 .have hsv:(Be v).isSome=true:=by
   rcases hv with h|⟨h1,h2⟩
   .exact h
   .rw[h2]at hj;simp at hj;omega
  have hwi:IntKind.i64.wrap (i+1)=i+1:=wrap64 (by omega) (by omega);have hwj:IntKind.i64.wrap (j - 1)=j - 1:=wrap64 (by omega) (by omega);obtain⟨a,ha⟩: ∃a,ys[i.toNat]? =some a:=⟨_,Cy (by omega)⟩
  obtain⟨b,hb⟩: ∃b,ys[j.toNat]? =some b:=⟨_,Cy (by omega)⟩
  conv=>whnf
  repeat'((first|clear U K|apply st|(apply zk;intro K U)|refine zY ?_|refine zs fun Z hs=>?_|refine oset (fun Z hs=>?_) (h1:=by rw[List.length_set];omega)|(refine zb (fun hc=>?_) (fun hc=>?_)<;>try exact⟨⟩)|fail)<;>conv=>whnf)
  have hik:i.toNat=k:=by omega
  have hjk:j.toNat=xs.length - 1 - k:=by omega
  refine⟨(IntKind.i64.wrap (i+1),IntKind.i64.wrap (j - 1),(ys.set i.toNat b).set j.toNat a),by dsimp only;rw[hwj];omega,rfl,⟨k+1,by dsimp only;rw[hwi];omega,by dsimp only;rw[hwj];omega,by omega,?_⟩,hs⟩;dsimp only;rw[hik]at ha ⊢;rw[hjk]at hb ⊢;exact cJ hh (by omega) ha hb
 .have he:=iv hh (by omega)
  conv=>whnf
  repeat'((first|clear U K|apply st|(apply zk;intro K U)|refine zY ?_|(refine zb (fun hc=>?_) (fun hc=>?_)<;>try exact⟨⟩)|fail)<;>conv=>whnf)
  subst he;exact Ak hs (List.Sublist.refl _) (.refl _) fun Z' hs'=>⟨_,⟨rfl,rfl⟩,hs'⟩
def bC (M:List (Int×Int)) (x:Int×Int):List (Int×Int):=if M.contains x then M else M++[x]
def bD (p:Prog) (M:List (Int×Int)) (m n:Int):List (Int×Int):=if F6 p m n then bC (bC M (m,n)) (n,m)else bC M (m,n)
def QW (p:Prog) (L:Nat) (m n:Int) (hk:EH p) (hgw:Dx (AS p)) (hfm: ∀x∈p.methods,C7 (AS p) x.fact=true) (hm:BO p m=true) (hn:BO p n=true) (M:List (Int×Int)) :
    Bc zP 277 [S3 p L,eI m,eI n] [.map L (KH p M)] fun r post=>r= .ret (.b (F6 p m n))/\post= [.map L (KH p (bC M (m,n)))]:=by
 intro Z hs;have hxm:=B9 hm;have hxn:=B9 hn;have hmm:=B1 hxm;have hmn:=B1 hxn;have hip:=dR (AS p) hgw (Bi p m).fact (Bi p n).fact (hfm _ hmm) (hfm _ hmn) (hk.facts _ hmm).1 (hk.facts _ hmn).1 (by have:=(hk.facts _ hmm).2;have:=(hk.facts _ hmn).2;omega);simp only[BO,BD,CN]at hm hn;have hfd:=Vm p (m,n) M;refine tb kZ ?_;cases hc:M.contains (m,n)
 .rw[hc,if_neg (by decide)]at hfd
  conv=>whnf
  repeat'((first|clear U K|apply st|(apply zk;intro K U)|refine zY ?_|refine zs fun Z hs=>?_|refine TX hs 1 rfl rfl (Ph _ _) hfd ?_|refine Jb hs 1 rfl rfl (Ph _ _) fun Z hs=>?_|refine hip.use ?_|refine zo fun nn hnn Z hs=>?_|fail)<;>conv=>whnf)
  replace hs:Sat Z [.box nn [eI m,eI n],.map L (DV (kM (m,n)) (.b (F6 p m n)) (KH p M))]:=hs;rw[Zd p (m,n) M hc]at hs;exact AU ⟨_,⟨rfl,rfl⟩,by rw[bC,hc];exact hs.less (Mc _ _)⟩
 .rw[hc,if_pos rfl]at hfd
  conv=>whnf
  repeat'((first|clear U K|apply st|(apply zk;intro K U)|refine zY ?_|refine zs fun Z hs=>?_|refine TX hs 1 rfl rfl (Ph _ _) hfd ?_|refine zo fun nn hnn Z hs=>?_|fail)<;>conv=>whnf)
  exact AU ⟨_,⟨rfl,rfl⟩,by rw[bC,hc];exact hs.less (Mc _ _)⟩
def WH (p:Prog) (L:Nat) (m n:Int) (hk:EH p) (hgw:Dx (AS p)) (hfm: ∀x∈p.methods,C7 (AS p) x.fact=true) (hm:BO p m=true) (hn:BO p n=true) (M:List (Int×Int)) :
    Bc zP 229 [S3 p L,eI m,eI n] [.map L (KH p M)] fun r post=>r= .ret (.b (Ae p m n))/\post= [.map L (KH p (bD p M m n))]:=by
 intro Z hs;have h1:=fun M=>QW p L m n hk hgw hfm hm hn M
 have h2:=fun M=>QW p L n m hk hgw hfm hn hm M
 unfold Ae bD;cases hb1:F6 p m n<;>cases hb2:F6 p n m<;>rw[hb1]at h1<;>rw[hb2]at h2
 all_goals
  refine uC kZ ?_
  conv=>whnf
  repeat'((first|clear U K|apply st|(apply zk;intro K U)|fail)<;>conv=>whnf)
  refine(h1 M).use (rest:=[]) (by simpa using hs) ?_;clear hs;rintro r post Z ⟨rfl,rfl⟩ hs;refine zz ?_;(repeat clear U K);repeat intro K U
 .exact AU ⟨_,⟨rfl,rfl⟩,hs⟩
 .exact AU ⟨_,⟨rfl,rfl⟩,hs⟩
 all_goals
  refine(h2 _).use (rest:=[]) (by simpa using hs) ?_;clear hs;rintro r post Z ⟨rfl,rfl⟩ hs;refine zz ?_;(repeat clear U K);repeat intro K U
  exact AU ⟨_,⟨rfl,rfl⟩,hs⟩
def jE (g:FuncId) (fi ca:List V) (q:Int->Bool) (xs:List Int) (hpf: ∀y∈xs,Pure zP g (fi++[eI y]++ca) (.b (q y))) (f:Bool) (hxl:xs.length<=1000):Pure zP 213 [.l (iL xs) f,.f (.func g) fi ca] (.l (iL (xs.filter q)) true):=by
 refine Pure.of ?_;have hM:=Mx;refine uG kZ ?_;have hs:=Sn;refine zz ?_;(repeat clear U K);repeat intro K U
 refine B0 xs.length (fun k v=>[(5,v),(10,eI (A8 k))]) (fun k v=>[.own v 1 (iL ((xs.take k).filter q))]) (fun _ _=>True) (.l [] true) rfl trivial (El hs 1) ?_;clear hs;rintro k v Z hk - hs;have hfl:=Qs q (xs.take k);rw[Mf]at hfl;rcases BC xs hk with⟨y,hy,hlt⟩|hke
 .have hpy:=hpf y (B1 hy)
  have hst:(xs.take (k+1)).filter q=if q y then(xs.take k).filter q++[y]else(xs.take k).filter q:=by
   rw[AL hy,List.filter_append];cases hp:q y<;>simp[hp]
  generalize (xs.take k).filter q=zl at *;have hll:zl.length<AY/\(zl.length+1)*8<=140737488355328:=by omega
  conv=>whnf
  repeat'((first|clear U K|apply st|(apply zk;intro K U)|refine zY ?_|refine aq fun v Z hs hsl=>?_|refine By (hpy.use ?_)|refine za (fun hc=>?_) fun hc=>?_|fail)<;>conv=>whnf)
  .rw[if_pos (by assumption)]at hst
   exact⟨hlt,_,rfl,trivial,by rw[hst];exact hs⟩
  .rw[if_neg (by simp[*])]at hst
   exact⟨hlt,_,rfl,trivial,by rw[hst];exact hs⟩
 .rw[Au hke]at hs
  refine zz ?_;(repeat clear U K);repeat intro K U
  refine(PT (xs.filter q) v (by have:=Qs q xs;omega)).use (rest:=[]) (by simpa using hs) ?_;clear hs;rintro r post Z ⟨rfl,rfl⟩ hs;refine zz ?_;(repeat clear U K);repeat intro K U
  exact AU (by rfl)
def w7 (x y:Int):Pure zP 278 [eI y,.rp [eI x]] (.b (y != x)):=by
 refine ta kZ ?_;have hs:=Sn;refine zz ?_;(repeat clear U K);repeat intro K U
 all_goals exact AF (by rfl)
def NB (xs:List Int) (f:Bool) (x:Int) (hxl:xs.length<=1000):Pure zP 230 [.l (iL xs) f,eI x] (.l (iL (xs.filter (· != x))) true):=by
 have c1:=jE 278 [] [.rp [eI x]] (· != x) xs (fun y _=>w7 x y) f hxl;refine uB kZ ?_;have hs:=Sn
 conv=>whnf
 repeat'((first|clear U K|apply st|(apply zk;intro K U)|refine zC ?_|fail)<;>conv=>whnf)
 all_goals exact AF (by rfl)
def Fw: ∀ {l:List Int} {i:Nat} {x:Int},l.Nodup->l[i]? =some x->l.filter (· != x)=l.eraseIdx i
 | y::r,0,x,hn,hx=>by
   obtain rfl:y=x:=by simpa using hx
   rw[List.nodup_cons]at hn;rw[List.filter_cons,if_neg (by simp),List.eraseIdx_cons_zero];exact List.filter_eq_self.2 fun z hz=>by rw[xm];rintro rfl;exact hn.1 hz
 | y::r,i+1,x,hn,hx=>by
   rw[List.nodup_cons]at hn;rw[vT]at hx;have hyx:y≠x:=fun e=>hn.1 (e ▸ B1 hx)
   rw[List.filter_cons,if_pos (by simpa using hyx),List.eraseIdx_cons_succ,Fw hn.2 hx]
def cY {A:Int->Int->Bool} {l:List Int} {i:Nat} (hi:i<l.length) (h:Gm A l i l.length=true) (hn: ∀j,j<i->Gm A l j l.length=false):D3 A l=some i:=by
 rw[D3,List.find?_range_eq_some];exact⟨h,List.mem_range.2 hi,fun j hj=>by rw[hn j hj];rfl⟩
def cW {A:Int->Int->Bool} {l:List Int} (hn: ∀j,j<l.length->Gm A l j l.length=false):D3 A l=none:=by
 rw[D3,List.find?_range_eq_none];exact fun j hj=>by rw[hn j hj];rfl
def kr {A:Int->Int->Bool} {l:List Int} {i k n:Nat} (hk:k<n) (h:(k==i||A (l.getD i 0) (l.getD k 0))=false):Gm A l i n=false:=by
 rw[Gm,<-Bool.not_eq_true,E3];intro h2;rw[h2 k (List.mem_range.2 hk)]at h;cases h
def iO {l:List Int} (hn:l.Nodup) {i k:Nat} {x y:Int} (hx:l[i]? =some x) (hy:l[k]? =some y) (h:k≠i):x≠y:=by
 rintro rfl;have hi:=(IN.1 hx)
 have hj:=(IN.1 hy)
 have:=(List.nodup_iff_pairwise_ne.1 hn)
 rw[List.pairwise_iff_getElem]at this;rcases Nat.lt_or_gt_of_ne h with h'|h'
 .exact this k i hj.1 hi.1 h' (by rw[hj.2,hi.2])
 .exact this i k hi.1 hj.1 h' (by rw[hj.2,hi.2])
def Z5 (p : Prog) (L:Nat) (l:List Int) (f:Bool) (hok:EH p) (hgw:Dx (AS p)) (hfm: ∀x∈p.methods,C7 (AS p) x.fact=true) (hl:TU p l) (hnd:l.Nodup) (M:List (Int×Int)) :
    Bc zP 163 [S3 p L,.l (iL l) f] [.map L (KH p M)] fun r post=>r= .ret (.t [.l (iL (BQ (Ae p) l.length l).1) true,.b (BQ (Ae p) l.length l).2])/\ ∃M',post= [.map L (KH p M')]:=by
 intro Z hs;have hM:=Mx;refine uj kZ ?_;refine zz ?_;(repeat clear U K);repeat intro K U
 refine Dz (fun(x:List Int×Bool×V×List Int×List (Int×Int))=>x.1.length) (fun x=>[(1,.l (iL x.1) x.2.1),(6,x.2.2.1)]) (fun x=>[.own x.2.2.1 1 (iL x.2.2.2.1),.map L (KH p x.2.2.2.2)])
  (fun x=>(∀y∈x.1,BO p y=true)/\x.1.Nodup/\x.2.2.2.1.length+x.1.length<=16/\BQ (Ae p) l.length l=(x.2.2.2.1++(BQ (Ae p) x.1.length x.1).1,(BQ (Ae p) x.1.length x.1).2)) (l,f,.l [] true,[],M) rfl ⟨hl.IW,hnd,by simpa using hl.many,by simp⟩ (Cf hs 1) ?_
 clear hs;rintro⟨l',f',v,out,M⟩ Z ⟨hme,hn,hlen,hm⟩ hs;dsimp only at hme hn hlen hm hs;dsimp only;have hll:out.length<AY/\(out.length+1)*8<=140737488355328:=by omega
 by_cases hz:l'.length=0
 .rw[hz]at hm
  simp only[BQ,Ip]at hm
  conv=>whnf
  repeat'((first|clear U K|apply st|(apply zk;intro K U)|refine zY ?_|(refine zb (fun hc=>?_) (fun hc=>?_)<;>try exact⟨⟩)|fail)<;>conv=>whnf)
  refine(PT out v (by omega)).use (rest:=[_]) hs ?_;clear hs;rintro r post Z ⟨rfl,rfl⟩ hs;refine zz ?_;(repeat clear U K);repeat intro K U
  exact AU ⟨_,⟨by rw[hm],M,rfl⟩,hs⟩
 .obtain ⟨n,hnn⟩: ∃n,l'.length=n+1:=⟨l'.length - 1,by omega⟩
  have hne:l'.isEmpty=false:=by cases l' with
   | nil=>simp at hz
   | cons=>rfl
  rw[hnn,BQ]at hm
  conv=>whnf
  repeat'((first|clear U K|apply st|(apply zk;intro K U)|refine zY ?_|(refine zb (fun hc=>?_) (fun hc=>?_)<;>try exact⟨⟩)|fail)<;>conv=>whnf)
  refine B0 l'.length (fun i (_:List (Int×Int))=>[(16,eI (A8 i))]) (fun _ M=>[.own v 1 (iL out),.map L (KH p M)]) (fun i _=> ∀j,j<i->Gm (Ae p) l' j l'.length=false) M rfl (fun j h=>by omega) hs ?_;clear hs;rintro i M Z hi hno hs;rcases BC l' hi with⟨x,hx,hlt⟩|hie
  .have hmx:=hme x (B1 hx)
   refine zz ?_;(repeat clear U K);repeat intro K U
   refine B0 l'.length (fun k (_:List (Int×Int))=>[(22,eI (A8 k))]) (fun _ M=>[.own v 1 (iL out),.map L (KH p M)]) (fun k _=>Gm (Ae p) l' i k=true) M rfl rfl hs ?_;clear hs;rintro k M Z hk htop hs;rcases BC l' hk with⟨y,hy,hklt⟩|hke
   .have hmy:=hme y (B1 hy)
    have hsu:=Rr (Ae p) l' i k;rw[B4 hx,B4 hy,htop,G7]at hsu;by_cases hki:k=i
    .obtain rfl:x=y:=by
      rw[hki,hx]at hy;exact Option.some.inj hy
     conv=>whnf
     repeat'((first|clear U K|apply st|(apply zk;intro K U)|refine zY ?_|(refine zb (fun hc=>?_) (fun hc=>?_)<;>try exact⟨⟩)|fail)<;>conv=>whnf)
     exact⟨hklt,M,rfl,by rw[hsu,hki];simp,hs⟩
    .have hxy:=iO hn hx hy hki
     have c5:=WH p L x y hok hgw hfm hmx hmy M;cases hah:Ae p x y<;>rw[hah]at c5
     all_goals
      conv=>whnf
      repeat'((first|clear U K|apply st|(apply zk;intro K U)|refine zY ?_|(refine zb (fun hc=>?_) (fun hc=>?_)<;>try exact⟨⟩)|fail)<;>conv=>whnf)
      refine c5.use (rest:=[_]) (hs.perm (.swap _ _ _)) ?_;clear hs;rintro r post Z ⟨rfl,rfl⟩ hs;refine zz ?_;(repeat clear U K);repeat intro K U
     .refine⟨hlt,_,rfl,fun j hj=>?_,hs.perm (.swap _ _ _)⟩
      rcases Nat.lt_or_ge j i with h'|h'
      .exact hno j h'
      .rw[show j=i by omega]
       exact kr hklt (by rw[B4 hx,B4 hy,hah];simpa using hki)
     .exact⟨hklt,_,rfl,by rw[hsu,hah];simp,hs.perm (.swap _ _ _)⟩
   .have c1:=NB l' f' x (by omega)
    rw[Fw hn hx]at c1;have hel:=List.length_eraseIdx_of_lt hlt;rw[cY hlt (hke ▸ htop) hno]at hm;dsimp only at hm;rw[B4 hx]at hm
    conv=>whnf
    repeat'((first|clear U K|apply st|(apply zk;intro K U)|refine zY ?_|refine aq fun v Z hs hsl=>?_|refine zC ?_|fail)<;>conv=>whnf)
    refine⟨(l'.eraseIdx i,true,v,out++[x],M),by dsimp only;omega,rfl,⟨fun y hy=>hme y (List.mem_of_mem_eraseIdx hy),hn.sublist (List.eraseIdx_sublist _ _),by simp;omega,?_⟩,hs⟩;dsimp only;rw[hm,hel,show l'.length - 1=n by omega];simp
  .rw[cW fun j hj=>hno j (by omega)]at hm
   dsimp only at hm;rw[hne,Ip]at hm;refine zz ?_;(repeat clear U K);repeat intro K U
   refine(PT out v (by omega)).use (rest:=[_]) hs ?_;clear hs;rintro r post Z ⟨rfl,rfl⟩ hs;refine zz ?_;(repeat clear U K);repeat intro K U
   exact AU ⟨_,⟨by rw[hm];rfl,M,rfl⟩,hs⟩
end Go.Gl
namespace Go.Gl
open Go.Proofs
def QX {p:Prog} (hok:EH p) {i j k:Int} (hi:BO p i=true) (hj:BO p j=true) (hk:BO p k=true) (h1:F6 p i j=true) (h2:F6 p j k=true):F6 p i k=true:=
 imp_trans hok.wok (hok.facts _ (B1 (B9 hi))).1 (hok.facts _ (B1 (B9 hj))).1 (hok.facts _ (B1 (B9 hk))).1 h1 h2
def Yg {p:Prog} {i j:Int}:Ae p i j=true↔F6 p i j=true/\F6 p j i=false:=by
 rw[Ae,BD,Bool.not_eq_true']
def Qo {p:Prog} (i:Int):Ae p i i=false:=by
 rw[Ae];cases F6 p i i<;>rfl
def UT {p:Prog} (hok:EH p) {i j k:Int} (hi:BO p i=true) (hj:BO p j=true) (hk:BO p k=true) (h1:Ae p i j=true) (h2:Ae p j k=true):Ae p i k=true:=by
 rw[Yg]at *;refine⟨QX hok hi hj hk h1.1 h2.1,?_⟩;rw[<-Bool.not_eq_true];intro e;have:=QX hok hk hi hj e h1.1;rw[h2.2]at this;cases this
end Go.Gl
namespace Go.Gl
open Go.Proofs
attribute [local irreducible] A3 Aq Af AR AJ Ad AQ AT AK Ac AM AN Ax A5 Sat AX A4 Ah W
def ky (p:Prog) (L:Nat) (m:Int) (hok:EH p) (hgw:Dx (AS p)) (hfm: ∀x∈p.methods,C7 (AS p) x.fact=true) (hm:BO p m=true) :
    Cz zP (.f (.func 235) [] [.rp [S3 p L],.rp [eI m]]) eI (fun M=>[.map L (KH p M)]) (fun y M=>(Ae p y m,bD p M y m)) (fun y _=>BO p y=true):=by
 intro y M hy Z hs;refine By ?_;show A3 zP 235 ([]++[eI y]++[.rp [S3 p L],.rp [eI m]]) Z _;refine tw kZ ?_;refine zz ?_;(repeat clear U K);repeat intro K U
 refine(WH p L y m hok hgw hfm hy hm M).use (rest:=[]) (by simpa using hs) ?_;clear hs;rintro r post Z ⟨rfl,rfl⟩ hs;refine zz ?_;(repeat clear U K);repeat intro K U
 exact Ak hs (List.sublist_append_left _ _) (.refl _) fun Z' hs'=>⟨rfl,hs'⟩
def Sd {S:Type} {stp:Int->S->Bool×S} {q:Int->Bool}: ∀(xs:List Int) (k:Nat) (s:S),(∀y∈xs,∀s,(stp y s).1=q y)->(Bk stp xs k s).1=match(List.range xs.length).find? fun i=>q (xs.getD i 0)with|some i=>((k+i:Nat):Int)|none=> -1
 | [],_,_,_=>rfl
 | y ::r,k,s,h=>by
   rw[Bk,h y (.head _)];have ih:=Sd r (k+1) (stp y s).2 fun z hz=>h z (.tail _ hz)
   rw[LF,List.range_succ_eq_map,List.find?_cons,List.getD_cons_zero];cases hq:q y
   .rw[if_neg (by decide),ih]
    simp only[List.find?_map,Function.comp_def,Nat.succ_eq_add_one,List.getD_cons_succ];cases(List.range r.length).find? fun i=>q (r.getD i 0)with
    | none=>rfl
    | some i=>simp only[W6];congr 1;omega
   .rw[if_pos rfl];simp
def wE (p:Prog) (l:List Int) (m:Int) (M:List (Int×Int)):List (Int×Int):=(Bk (fun y M=>(Ae p y m,bD p M y m)) l 0 M).2
def ZB (p:Prog) (L nb:Nat) (l:List Int) (f:Bool) (hok:EH p) (hgw:Dx (AS p)) (hfm: ∀x∈p.methods,C7 (AS p) x.fact=true) (hl: ∀x∈l,BO p x=true) :
    Cz zP (.f (.func 234) [] [.p nb 0,.rp [S3 p L]]) eI (fun M=>[.box nb [.l (iL l) f],.map L (KH p M)]) (fun m M=>(!(decide ((Bk (fun y M=>(Ae p y m,bD p M y m)) l 0 M).1≥0)),wE p l m M)) (fun m _=>BO p m=true):=by
 intro m M hm Z hs;refine By ?_;show A3 zP 234 ([]++[eI m]++[.p nb 0,.rp [S3 p L]]) Z _;refine tx kZ ?_;refine zz ?_;(repeat clear U K);repeat intro K U
 refine(GQ 235 [] [.rp [S3 p L],.rp [eI m]] (fun M=>[.map L (KH p M)]) _ _ (ky p L m hok hgw hfm hm) l f M (Gw fun y hy _=>hl y hy)).use (rest:=[_]) (hs.perm (.swap _ _ _)) ?_;clear hs;rintro r post Z ⟨rfl,rfl⟩ hs;refine zz ?_;(repeat clear U K);repeat intro K U
 exact Ak (hs.perm (.swap _ _ _)) (List.Sublist.refl _) (.refl _) fun Z' hs'=>⟨rfl,hs'⟩
def fR {p:Prog} (hok:EH p): ∀(l:List Int),l≠[]->(∀x∈l,BO p x=true)-> ∃x∈l,∀y∈l,Ae p y x=false
 | [],h,_=>absurd rfl h
 | x ::r,_,h=>by
   by_cases hr:r= []
   .subst hr
    exact⟨x,.head _,fun y hy=>by rw[LD.1 hy];exact Qo x⟩
   obtain⟨z,hz,hz2⟩:=fR hok r hr fun y hy=>h y (.tail _ hy)
   cases hxz:Ae p x z
   .refine⟨z,.tail _ hz,fun y hy=>?_⟩
    rcases Fm.1 hy with rfl|hy
    .exact hxz
    .exact hz2 y hy
   .refine⟨x,.head _,fun y hy=>?_⟩
    rcases Fm.1 hy with rfl|hy
    .exact Qo y
    .rw[<-Bool.not_eq_true]
     intro e;have:=UT hok (h y (.tail _ hy)) (h x (.head _)) (h z (.tail _ hz)) e hxz;rw[hz2 y hy]at this;cases this
def SG {p:Prog} (hok:EH p) {l:List Int} (hl:l≠[]) (h: ∀x∈l,BO p x=true): ∃i,Ml (Ae p) l=some i:=by
 obtain⟨x,hx,hx2⟩:=fR hok l hl h;obtain⟨i,hi⟩:=List.getElem?_of_mem hx;cases hm:Ml (Ae p) l with
 | some i=>exact⟨i,rfl⟩
 | none=>
   rw[Ml,List.find?_range_eq_none]at hm;have h1:=hm i (IN.1 hi).1
   have h2:KM (Ae p) l i l.length=true:=by
    rw[KM,E3];intro k hk;rw[B4 hi,hx2 _ (Dv (List.mem_range.1 hk))];rfl
   rw[h2]at h1;cases h1
def Rp (xs:List Int) (f:Bool):Pure zP 233 [.l (iL xs) f] (.f (.func 280) [] [.rp [.l (iL xs) f]]):=by
 refine tz kZ ?_;have hs:=Sn;exact zW
def kq (xs:List Int) (f:Bool) (hxl:xs.length<=1000) {S:Type} {fn:Fn} {fi ca:List V} {H:S->List At} (Inv:Nat->S->Prop) {s:S} (h0:Inv 0 s)
    (hT: ∀(k:Nat) s y,xs[k]? =some y->Inv k s-> ∀Z:AE,Sat Z (H s)->Ax zP (.f fn fi ca) [eI y] Z fun r Z'=> ∃s',r= .ret (.b true)/\Inv (k+1) s'/\Sat Z' (H s')) (Z:AE) (hs:Sat Z (H s)) :
    A3 zP 280 [.f fn fi ca,.rp [.l (iL xs) f]] Z fun r Z'=> ∃s',r= .ret (.t [])/\Inv xs.length s'/\Sat Z' (H s'):=by
 have hM:=Mx;refine tY kZ ?_;refine zz ?_;(repeat clear U K);repeat intro K U
 refine B0 xs.length (fun k (_:S)=>[(7,eI (A8 k))]) (fun _ s'=>H s') (fun k s'=>Inv k s') s rfl h0 hs ?_;clear hs;rintro k s' Z hk ho hs;rcases BC xs hk with⟨y,hy,hlt⟩|hke
 .have hT':=hT k s' y hy ho
  refine zz ?_;(repeat clear U K);repeat intro K U
  refine(hT' Z hs).mono ?_;rintro r Z ⟨s2,rfl,hi2,hs⟩;refine zz ?_;(repeat clear U K);repeat intro K U
  exact⟨hlt,_,rfl,hi2,hs⟩
 .rw[hke]at ho
  refine zz ?_;(repeat clear U K);repeat intro K U
  exact AU ⟨_,rfl,ho,hs⟩
def dM (xs:List Int) (f:Bool) (hxl:xs.length<=1000):Bc zP 271 [.l [] true,.f (.func 280) [] [.rp [.l (iL xs) f]]] [] fun r post=> ∃v,r= .ret v/\post= [.own v 1 (iL xs)]/\((Be v).isSome=true\/(v= .l [] true/\xs= [])):=by
 intro Z hs;have hM:=Mx;refine tc kZ ?_
 conv=>whnf
 repeat'((first|clear U K|apply st|(apply zk;intro K U)|refine zo fun nn hnn Z hs=>?_|fail)<;>conv=>whnf)
 rename_i nb _ _ _;clear hnn
 revert hs
 generalize hE:([(2,V.p nb 0)]:Env)=E;generalize hk:Bt _ _ _ _=ok;intro hs;refine A3.mono (kq xs f hxl (fn:= .yield nn) (fi:=[]) (ca:=[]) (H:=fun s:V×List Int=> .obj nn (.loop .ready E ok):: [.box nb [s.1],.own s.1 1 (iL s.2)]) (fun k s=>s.2=xs.take k/\(1<=k->(Be s.1).isSome=true)/\(k=0->s.1= .l [] true)) (s:=(.l [] true,[])) ⟨rfl,fun h=>by omega,fun _=>rfl⟩ ?_ Z ((Cf hs 1).perm (LS _ _ _ _))) ?_
 .clear hs
  subst hE hk;rintro k ⟨v,ys⟩ y hy ⟨h1,h2,h3⟩ Z hs;dsimp only at h1 h2 h3 hs;have hkl:k<xs.length:=(IN.1 hy).1;have hyl:ys.length=k:=by rw[h1,Mf];omega
  have hll:ys.length<AY/\(ys.length+1)*8<=140737488355328:=by omega
  refine vR (WS (l:=[.box nb [v],.own v 1 (iL ys)]) rfl hs ?_);clear hs;intro Z hs
  conv=>whnf
  repeat'((first|clear U K|apply st|(apply zk;intro K U)|refine zY ?_|refine zs fun Z hs=>?_|refine aq fun v Z hs hsl=>?_|fail)<;>conv=>whnf)
  intro hn;exact⟨(v,ys++[y]),rfl,⟨by rw[AL hy,h1],fun _=>hsl,fun h=>by omega⟩,hs.p8 hn⟩
 .clear hs
  rintro r Z ⟨⟨v,ys⟩,rfl,⟨h1,h2,h3⟩,hs⟩;dsimp only at h1 h2 h3 hs;refine Pb hs fun Z hs=>?_
  refine zz ?_;(repeat clear U K);repeat intro K U
  rw[List.take_length]at h1;subst h1;refine Ak hs (Mc _ _) (.refl _) fun Z' hs'=>⟨_,⟨v,rfl,rfl,?_⟩,hs'⟩
  rcases Nat.eq_zero_or_pos ys.length with h|h
  .exact .inr ⟨h3 h,Yh.1 h⟩
  .exact .inl (h2 h)
def dC (xs:List Int) (f:Bool) (hxl:xs.length<=1000):Bc zP 214 [.f (.func 280) [] [.rp [.l (iL xs) f]]] [] fun r post=> ∃v,r= .ret v/\post= [.own v 1 (iL xs)]/\((Be v).isSome=true\/(v= .l [] true/\xs= [])):=by
 intro Z hs;refine uF kZ ?_
 conv=>whnf
 repeat'((first|clear U K|apply st|(apply zk;intro K U)|fail)<;>conv=>whnf)
 refine(dM xs f hxl).use (rest:=[]) (by simpa using hs) ?_;clear hs;rintro r post Z ⟨v,rfl,rfl,hv⟩ hs;refine zz ?_;(repeat clear U K);repeat intro K U
 exact Ak hs (List.sublist_append_left _ _) (.refl _) fun Z' hs'=>⟨_,⟨v,rfl,rfl,hv⟩,hs'⟩
def Ru (xs:List Int) (f:Bool) (hxl:xs.length<=1000):Pure zP 232 [.f (.func 280) [] [.rp [.l (iL xs) f]]] (.l (iL (xs.mergeSort G8)) false):=by
 refine uA kZ ?_;have hs:=Sn
 conv=>whnf
 repeat'((first|clear U K|apply st|(apply zk;intro K U)|fail)<;>conv=>whnf)
 refine(dC xs f hxl).use (rest:=[]) (by simpa using hs) ?_;clear hs;rintro r post Z ⟨v,rfl,rfl,hv⟩ hs
 conv=>whnf
 repeat'((first|clear U K|apply st|(apply zk;intro K U)|fail)<;>conv=>whnf)
 refine(eK hv).use (rest:=[]) hs ?_;clear hs;rintro r post Z ⟨rfl,rfl⟩ hs;refine zz ?_;(repeat clear U K);repeat intro K U
 exact Ap (hs.GW 0 rfl)
def Se {S:Type} {stp:Int->S->Bool×S} {q:Int->Bool}: ∀(xs:List Int) (k:Nat) (s:S),(∀y∈xs,∀s,(stp y s).1=q y)->decide ((Bk stp xs k s).1≥0)=xs.any q
 | [],_,_,_=>rfl
 | y ::r,k,s,h=>by
   rw[Bk,h y (.head _),Q1];cases hq:q y
   .rw[if_neg (by decide),Bool.false_or]
    exact Se r (k+1) _ fun z hz=>h z (.tail _ hz)
   .rw[if_pos rfl,Bool.true_or]
    exact decide_eq_true (Int.natCast_nonneg k)
def bW (l:List Int) (q:Int->Bool):(List.range l.length).all (fun j=> !q (l.getD j 0))= !l.any q:=by
 rw[J1,E3,Bool.not_eq_true',<-Bool.not_eq_true,J0];constructor
 .rintro h ⟨x,hx,hq⟩
  obtain⟨i,hi⟩:=List.getElem?_of_mem hx;have:=h i (List.mem_range.2 (IN.1 hi).1);rw[B4 hi,hq]at this;cases this
 .intro h j hj
  cases hq:q (l.getD j 0)
  .rfl
  .exact absurd ⟨_,Dv (List.mem_range.1 hj),hq⟩ h
def Zt {p:Prog} {l:List Int} {M:List (Int×Int)}:(Bk (fun(m:Int) (M:List (Int×Int))=>(!(decide ((Bk (fun y M=>(Ae p y m,bD p M y m)) l 0 M).1≥0)),wE p l m M)) l 0 M).1=match Ml (Ae p) l with|some i=>((i:Nat):Int)|none=> -1:=by
 rw[Sd (q:=fun m=> !l.any fun y=>Ae p y m) l 0 M fun m _ s=>by dsimp only;rw[Se (q:=fun y=>Ae p y m) l 0 s fun y _ s=>rfl]];rw[Ml,find_congr (g:=fun i=>KM (Ae p) l i l.length) fun i _=>by rw[KM,bW l fun y=>Ae p y (l.getD i 0)]];cases(List.range l.length).find? fun i=>KM (Ae p) l i l.length with
 | none=>rfl
 | some i=>simp
def dK (p:Prog) (L:Nat) (l:List Int) (f:Bool) (hok:EH p) (hgw:Dx (AS p)) (hfm: ∀x∈p.methods,C7 (AS p) x.fact=true) (hl:TU p l) (hnd:l.Nodup) (M:List (Int×Int)) :
    Bc zP 164 [S3 p L,.l (iL l) f] [.map L (KH p M)] fun r post=>r= .ret (.l (iL (C9 (Ae p) l.length (l.mergeSort G8))) true)/\ ∃M',post= [.map L (KH p M')]:=by
 intro Z hs;have hM:=Mx;have h16:=hl.many;have hml:(l.mergeSort G8).length=l.length:=List.length_mergeSort _;have c1:=Rp l f;have c2:=Ru l f (by omega);refine fy kZ ?_
 conv=>whnf
 repeat'((first|clear U K|apply st|(apply zk;intro K U)|refine zY ?_|refine zs fun Z hs=>?_|refine zC ?_|refine zo fun nn hnn Z hs=>?_|fail)<;>conv=>whnf)
 clear c1 c2 hnn
 refine Dz (fun(x:List Int×Bool×V×List Int×List (Int×Int))=>x.1.length) (fun x=>[(5,x.2.2.1)]) (fun x=>[.box nn [.l (iL x.1) x.2.1],.own x.2.2.1 1 (iL x.2.2.2.1),.map L (KH p x.2.2.2.2)])
  (fun x=>(∀y∈x.1,BO p y=true)/\x.1.Nodup/\x.2.2.2.1.length+x.1.length<=16/\C9 (Ae p) l.length (l.mergeSort G8)=x.2.2.2.1++C9 (Ae p) x.1.length x.1) (l.mergeSort G8,false,.l [] true,[],M) rfl ⟨fun y hy=>hl.IW y (List.mem_mergeSort.1 hy),(List.mergeSort_perm l G8).symm.nodup hnd,by simpa[hml]using h16,by simp[hml]⟩ ((Cf hs 1).perm (.swap _ _ _)) ?_
 clear hs;rintro⟨l',f',v,out,M⟩ Z ⟨hme,hn,hlen,hm⟩ hs;dsimp only at hme hn hlen hm hs;dsimp only;have hll:out.length<AY/\(out.length+1)*8<=140737488355328:=by omega
 by_cases hz:l'.length=0
 .rw[hz]at hm
  simp only[C9,Ip]at hm
  conv=>whnf
  repeat'((first|clear U K|apply st|(apply zk;intro K U)|refine zY ?_|(refine zb (fun hc=>?_) (fun hc=>?_)<;>try exact⟨⟩)|fail)<;>conv=>whnf)
  refine(PT out v (by omega)).use (rest:=[_,_]) (hs.perm (.swap _ _ _)) ?_;clear hs;rintro r post Z ⟨rfl,rfl⟩ hs;refine zz ?_;(repeat clear U K);repeat intro K U
  exact Ak hs (Mc _ _) (.refl _) fun Z' hs'=>⟨_,⟨by rw[hm],M,rfl⟩,hs'⟩
 .obtain⟨n,hnn⟩: ∃n,l'.length=n+1:=⟨l'.length - 1,by omega⟩
  have hne:l'≠[]:=fun e=>hz (by rw[e];rfl)
  obtain⟨i,hi⟩:=SG hok hne hme;have hil:i<l'.length:=by simpa using List.mem_of_find?_eq_some hi
  obtain⟨x,hx⟩: ∃x,l'[i]? =some x:=⟨_,Cy hil⟩
  rw[hnn,C9,hi,Option.getD_some,B4 hx]at hm;have c3:=NB l' f' x (by omega);rw[Fw hn hx]at c3;have hel:=List.length_eraseIdx_of_lt hil
  conv=>whnf
  repeat'((first|clear U K|apply st|(apply zk;intro K U)|refine zY ?_|(refine zb (fun hc=>?_) (fun hc=>?_)<;>try exact⟨⟩)|fail)<;>conv=>whnf)
  refine(IM 234 [] [.p nn 0,.rp [S3 p L]] (fun M=>[.box nn [.l (iL l') f'],.map L (KH p M)]) _ _ (ZB p L nn l' f' hok hgw hfm hme) l' f' M (Gw fun y hy _=>hme y hy)).use (rest:=[.own v 1 (iL out)]) (hs.perm (.cons _ (.swap _ _ _))) ?_;clear hs;rintro r post Z ⟨rfl,rfl⟩ hs;rw[Zt,hi];generalize (Bk _ l' 0 M).2=M2 at hs;dsimp only
  conv=>whnf
  repeat'((first|clear U K|apply st|(apply zk;intro K U)|refine zY ?_|refine zs fun Z hs=>?_|refine aq fun v Z hs hsl=>?_|refine zC ?_|fail)<;>conv=>whnf)
  refine⟨(l'.eraseIdx i,true,v,out++[x],M2),by dsimp only;omega,rfl,⟨fun y hy=>hme y (List.mem_of_mem_eraseIdx hy),hn.sublist (List.eraseIdx_sublist _ _),by simp;omega,?_⟩,hs.perm (.cons _ (.swap _ _ _))⟩;dsimp only;rw[hm,hel,show l'.length - 1=n by omega];simp
def bR: ∀ {l:List Int},l.Nodup->(l.mergeSort G8).Pairwise (· < ·):=fun {l} h=>by
 have h1:=List.pairwise_mergeSort (le:=G8) (fun a b c h1 h2=>by simp only[G8,CN]at *;omega) (fun a b=>by simp only[G8,Fl,CN];omega) l;have h2:=List.nodup_iff_pairwise_ne.1 ((List.mergeSort_perm l G8).symm.nodup h);exact(h1.and h2).imp fun⟨a,b⟩=>by simp only[G8,CN]at a;omega
def Zi {x:Int}: ∀ {out:List Int},out.Pairwise (· < ·)->x∉out->(Gr x out).Pairwise (· < ·)
 | [],_,_=>by simp[Gr]
 | y ::r,h,hx=>by
   rw[List.pairwise_cons]at h;rw[Fm,not_or]at hx;by_cases hy:y<x
   .have e:Gr x (y::r)=y::Gr x r:=by simp[Gr,List.takeWhile_cons,List.dropWhile_cons,hy]
    rw[e,List.pairwise_cons];refine⟨fun z hz=>?_,Zi h.2 hx.2⟩;rcases Pk.1 hz with rfl|hz
    .exact hy
    .exact h.1 z hz
   .have e:Gr x (y::r)=x::y::r:=by simp[Gr,List.takeWhile_cons,List.dropWhile_cons,hy]
    rw[e,List.pairwise_cons,List.pairwise_cons];refine⟨fun z hz=>?_,h⟩;rcases Fm.1 hz with rfl|hz
    .have:=hx.1;omega
    .have:=h.1 z hz
     have:=hx.1;omega
def Vz: ∀(l out:List Int),out.Pairwise (· < ·)->l.Nodup->(∀x∈l,x∉out)->(l.foldl (fun out x=>Gr x out) out).Pairwise (· < ·)
 | [],_,h,_,_=>h
 | x::r,out,h,hn,hx=>by
   rw[List.nodup_cons]at hn;refine Vz r _ (Zi h (hx x (.head _))) hn.2 fun y hy hm=>?_
   rcases Pk.1 hm with rfl|hm
   .exact hn.1 hy
   .exact hx y (.tail _ hy) hm
def Rv {l:List Int} (h:l.Nodup):l.mergeSort G8=Cl l:=
 Kr (bR h) (Vz l [] .nil h fun x _ hm=>by cases hm) fun x=>by rw[List.mem_mergeSort,Jn]
def Yd (p:Prog) (L:Nat) (l:List Int) (f:Bool) (hok:EH p) (hgw:Dx (AS p)) (hfm: ∀x∈p.methods,C7 (AS p) x.fact=true) (hl:TU p l) (hnd:l.Nodup) (M:List (Int×Int)) :
    Bc zP 164 [S3 p L,.l (iL l) f] [.map L (KH p M)] fun r post=> ∃v M',r= .ret v/\post= [.own v 1 (iL (C9 (Ae p) l.length (l.mergeSort G8))),.map L (KH p M')]/\((Be v).isSome=true\/(v= .l [] true/\C9 (Ae p) l.length (l.mergeSort G8)= [])):=by
 intro Z hs;have hM:=Mx;have h16:=hl.many;have hml:(l.mergeSort G8).length=l.length:=List.length_mergeSort _;have c1:=Rp l f;have c2:=Ru l f (by omega);refine fy kZ ?_
 conv=>whnf
 repeat'((first|clear U K|apply st|(apply zk;intro K U)|refine zY ?_|refine zs fun Z hs=>?_|refine zC ?_|refine zo fun nn hnn Z hs=>?_|fail)<;>conv=>whnf)
 clear c1 c2 hnn
 refine Dz (fun(x:List Int×Bool×V×List Int×List (Int×Int))=>x.1.length) (fun x=>[(5,x.2.2.1)]) (fun x=>[.box nn [.l (iL x.1) x.2.1],.own x.2.2.1 1 (iL x.2.2.2.1),.map L (KH p x.2.2.2.2)])
  (fun x=>(∀y∈x.1,BO p y=true)/\x.1.Nodup/\x.2.2.2.1.length+x.1.length<=16/\C9 (Ae p) l.length (l.mergeSort G8)=x.2.2.2.1++C9 (Ae p) x.1.length x.1/\((Be x.2.2.1).isSome=true\/(x.2.2.1= .l [] true/\x.2.2.2.1= []))) (l.mergeSort G8,false,.l [] true,[],M) rfl ⟨fun y hy=>hl.IW y (List.mem_mergeSort.1 hy),(List.mergeSort_perm l G8).symm.nodup hnd,by simpa[hml]using h16,by simp[hml],.inr ⟨rfl,rfl⟩⟩ ((Cf hs 1).perm (.swap _ _ _)) ?_
 clear hs;rintro⟨l',f',v,out,M⟩ Z ⟨hme,hn,hlen,hm,hv⟩ hs;dsimp only at hme hn hlen hm hv hs;dsimp only;have hll:out.length<AY/\(out.length+1)*8<=140737488355328:=by omega
 by_cases hz:l'.length=0
 .rw[hz]at hm
  simp only[C9,Ip]at hm
  conv=>whnf
  repeat'((first|clear U K|apply st|(apply zk;intro K U)|refine zY ?_|(refine zb (fun hc=>?_) (fun hc=>?_)<;>try exact⟨⟩)|fail)<;>conv=>whnf)
  refine(nR out v (by omega) hv).use (rest:=[_,_]) (hs.perm (.swap _ _ _)) ?_;clear hs;rintro r post Z ⟨v',rfl,rfl,hv'⟩ hs;refine zz ?_;(repeat clear U K);repeat intro K U
  rw[hm];exact Ak hs (.cons₂ _ (Mc _ _)) (.refl _) fun Z' hs'=>⟨_,⟨v',M,rfl,rfl,hv'⟩,hs'⟩
 .obtain⟨n,hnn⟩: ∃n,l'.length=n+1:=⟨l'.length - 1,by omega⟩
  have hne:l'≠[]:=fun e=>hz (by rw[e];rfl)
  obtain⟨i,hi⟩:=SG hok hne hme;have hil:i<l'.length:=by simpa using List.mem_of_find?_eq_some hi
  obtain⟨x,hx⟩: ∃x,l'[i]? =some x:=⟨_,Cy hil⟩
  rw[hnn,C9,hi,Option.getD_some,B4 hx]at hm;have c3:=NB l' f' x (by omega);rw[Fw hn hx]at c3;have hel:=List.length_eraseIdx_of_lt hil
  conv=>whnf
  repeat'((first|clear U K|apply st|(apply zk;intro K U)|refine zY ?_|(refine zb (fun hc=>?_) (fun hc=>?_)<;>try exact⟨⟩)|fail)<;>conv=>whnf)
  refine(IM 234 [] [.p nn 0,.rp [S3 p L]] (fun M=>[.box nn [.l (iL l') f'],.map L (KH p M)]) _ _ (ZB p L nn l' f' hok hgw hfm hme) l' f' M (Gw fun y hy _=>hme y hy)).use (rest:=[.own v 1 (iL out)]) (hs.perm (.cons _ (.swap _ _ _))) ?_;clear hs;rintro r post Z ⟨rfl,rfl⟩ hs;rw[Zt,hi];generalize (Bk _ l' 0 M).2=M2 at hs;dsimp only
  conv=>whnf
  repeat'((first|clear U K|apply st|(apply zk;intro K U)|refine zY ?_|refine zs fun Z hs=>?_|refine aq fun v Z hs hsl=>?_|refine zC ?_|fail)<;>conv=>whnf)
  refine⟨(l'.eraseIdx i,true,v,out++[x],M2),by dsimp only;omega,rfl,⟨fun y hy=>hme y (List.mem_of_mem_eraseIdx hy),hn.sublist (List.eraseIdx_sublist _ _),by simp;omega,?_,.inl hsl⟩,hs.perm (.cons _ (.swap _ _ _))⟩;dsimp only;rw[hm,hel,show l'.length - 1=n by omega];simp
def lz {p:Prog} (h:(BK p).isSome=true) {x:OT} (hx:x∈p.methods):(1<=x.kind/\x.kind<=4)/\C7 (AS p) x.fact=true/\Bh (AS p) x.fact=true/\GC x.fact<=p.Br.getD x.gen.toNat 0:=by
 have:=(EZ h).2 x hx;simp only[OY,BD,CN]at this;have hf:=this.2.2.2.2.1;simp only[C7,BD,CN]at hf;exact⟨⟨this.1,this.2.1⟩,this.2.2.2.2.1,hf.2.2,this.2.2.2.2.2⟩
structure Pl where
 ar:List Int
 OM:Bool
 be:List Int
 pr:List Int
 prt:Bool
 af:List Int
abbrev xv (x:Pl) (g h:Bool):List V:=[.l (iL x.ar) g,.b x.OM,.l (iL x.be) g,.l (iL x.pr) g,.b x.prt,.l (iL x.af) h]
def Bw (p:Prog) (l:List Int) (k:Int):List Int:=l.filter fun m=>(Bi p m).kind==k
def vX:Pl:=⟨[],false,[],[],false,[]⟩
def Yr (A:Int->Int->Bool) (p:Prog) (l:List Int):Pl:=
 ⟨(BQ A (Bw p l 4).length (Bw p l 4)).1,(BQ A (Bw p l 4).length (Bw p l 4)).2,C9 A (Bw p l 2).length (Cl (Bw p l 2)),(BQ A (Bw p l 1).length (Bw p l 1)).1,(BQ A (Bw p l 1).length (Bw p l 1)).2,(C9 A (Bw p l 3).length (Cl (Bw p l 3))).reverse⟩
def CJ (A:Int->Int->Bool) (p:Prog) (l:List Int):Pl×Bool:=if(Bw p l 1).isEmpty then(vX,false)else(Yr A p l,true)
def kY (p:Prog) (l:List Int) (f:Bool) (kd:Int) (hm: ∀x∈l,BO p x=true) (hl:l.length<=16) (h16:p.methods.length<=16):Pure zP 133 [.a (A9 p),.l (iL l) f,eI kd] (.l (iL (Bw p l kd)) false):=by
 have hM:=Mx;refine uw kZ ?_;have hs:=Sn;refine zz ?_;(repeat clear U K);repeat intro K U
 refine B0 l.length (fun k v=>[(7,v),(8,eI (A8 k))]) (fun k v=>[.own v 1 (iL (Bw p (l.take k) kd))]) (fun _ _=>True) (.l [] true) rfl trivial (El hs 1) ?_;clear hs;rintro k v Z hk - hs
 have hfl:(Bw p (l.take k) kd).length<=16:=by
  have:=Qs (fun m=>(Bi p m).kind==kd) (l.take k);rw[Mf]at this;simp only[Bw];omega
 rcases BC l hk with⟨x,hx,hlt⟩|hke
 .have hst:Bw p (l.take (k+1)) kd=if(Bi p x).kind==kd then Bw p (l.take k) kd++[x]else Bw p (l.take k) kd:=by
   rw[AL hx,Bw,List.filter_append];cases hp:(Bi p x).kind==kd<;>simp[Bw,hp]
  have hmx:=hm x (B1 hx);have hxm:=B9 hmx;simp only[BO,BD,CN]at hmx;generalize Bw p (l.take k) kd=zl at *;have hll:zl.length<AY/\(zl.length+1)*8<=140737488355328:=by omega
  by_cases hkd:(Bi p x).kind=kd
  .rw[if_pos (EU.2 hkd)]at hst
   conv=>whnf
   repeat'((first|clear U K|apply st|(apply zk;intro K U)|refine zY ?_|refine aq fun v Z hs hsl=>?_|(refine zb (fun hc=>?_) (fun hc=>?_)<;>try exact⟨⟩)|fail)<;>conv=>whnf)
   exact⟨hlt,_,rfl,trivial,by rw[hst];exact hs⟩
  .rw[if_neg (by simpa using hkd)]at hst
   conv=>whnf
   repeat'((first|clear U K|apply st|(apply zk;intro K U)|refine zY ?_|(refine zb (fun hc=>?_) (fun hc=>?_)<;>try exact⟨⟩)|fail)<;>conv=>whnf)
   exact⟨hlt,_,rfl,trivial,by rw[hst];exact hs⟩
 .rw[Au hke]at hs
  refine zz ?_;(repeat clear U K);repeat intro K U
  exact Ap (hs.GW 0 rfl)
end Go.Gl
