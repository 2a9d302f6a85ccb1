import Derived.Test.YtcfkfhaedllcpaaGreatV14
import Derived.Test.YtcfkfhaedllcpaaGreatV15
import Derived.Test.YtcfkfhaedllcpaaGreatV22
import Derived.Test.YtcfkfhaedllcpaaGreatV24
import Derived.Test.YtcfkfhaedllcpaaGreatV25
import Derived.Test.YtcfkfhaedllcpaaGreatV26
import Derived.Test.YtcfkfhaedllcpaaGreatV29
import Derived.Test.YtcfkfhaedllcpaaGreatV31
import Derived.Test.YtcfkfhaedllcpaaGreatV32
set_option linter.all false
set_option linter.defProp false
set_option maxHeartbeats 8000000
noncomputable section
namespace Go.Gl
open Go.Proofs
attribute [local irreducible] A6 Ar Ah AR AI Ae AQ AT AK Ad AN AO Ay A7 Sat AY A5 Ai W
def qA (g:FuncId) (fi ca:List V) (q:Ob->Bool):Prop:= ∀v,Pure zP g (fi++[.a (eOb v)]++ca) (.b (q v))
def qA.use {g:FuncId} {fi ca:List V} {q:Ob->Bool} (h:qA g fi ca q) {v:Ob} {Z:AE} {k kp:V->AE->Prop} (hk:k (.b (q v)) Z):Ay zP (.f (.func g) fi ca) [.a (eOb v)] Z (qk k kp):=Bh ((h v).use hk)
end Go.Gl
namespace Go.Gl
open Go.Proofs
def wY {Z:AE} {l:List At} {i:Nat} {v:V} {sz:Nat} {es:List (List V)} (hs:Sat Z l) (hi:l[i]? =some (.own v sz es)) (he: ∀e∈es,e.length=sz) {K:V->AE->Prop} (hk: ∀v' Z',Sat Z' (l.set i (.own v' sz es))->((Bg v').isSome=true\/(v'= .l es true/\v= .l es true))->K v' Z'):AQ Z sz v none (some (.i .i64 (es.length:Int))) (some (.i .i64 (es.length:Int))) K:=by
 rcases hs.get hi with⟨rfl,_⟩|⟨n,cap,rfl,hn⟩
 .refine⟨he,?_⟩
  simp only[N2];refine⟨Int.le_refl _,Int.natCast_nonneg _,Int.le_refl _,trivial,?_⟩
  have hset:l.set i (.own (.l es true) sz es)=l:=by
   refine List.ext_getElem? fun j=>?_
   by_cases hj:i=j
   .subst hj
    rw[List.getElem?_set_self (Ii.1 hi).1,hi]
   .rw[List.getElem?_set_ne hj]
  have:=hk (.l es true) Z (by rw[hset];exact hs) (.inr ⟨rfl,rfl⟩);simpa using this
 .unfold AQ
  simp only[N2];refine⟨Int.le_refl _,Int.natCast_nonneg _,Int.le_refl _,trivial,trivial,trivial,?_⟩;rw[hn];refine⟨rfl,rfl,rfl,.inr (hk _ _ ?_ (.inl rfl))⟩;refine hs.change hi (fun b hb ha=>FF hb fun m hm=>?_) (fun b hb ha m hm=>?_) (.inr ⟨n,es.length,rfl,C6 _ _ _⟩)
  .rw[CZ]
   intro e;subst e;exact ha m rfl hm
  .cases hm
   exact ha _ rfl
attribute [local irreducible] A6 Ar Ah AR AI Ae AQ AT AK Ad AN AO Ay A7 Sat AY A5 Ai W
def oT (xs:List Int) (v:V) (hl:xs.length<=AX) (hv:(Bg v).isSome=true\/(v= .l [] true/\xs= [])):Be zP 231 [v] [.own v 1 (iL xs)] fun r post=> ∃v',r= .ret v'/\post= [.own v' 1 (iL xs)]/\((Bg v').isSome=true\/(v'= .l [] true/\xs= [])):=by
 intro Z hs;have hg:=C8 Bc xs;refine gl kZ ?_;refine zz ?_;(repeat clear U K);repeat intro K U
 refine wY (i:=0) hs rfl hg.1 fun v' Z hs hv'=>?_
 refine zz ?_;(repeat clear U K);repeat intro K U
 refine Am hs (List.Sublist.refl _) (.refl _) fun Z' hs'=>⟨_,⟨v',rfl,rfl,?_⟩,hs'⟩
 rcases hv' with h|⟨h1,h2⟩
 .exact .inl h
 .rcases hv with h|⟨h3,h4⟩
  .rw[h2]at h;cases h
  .subst h4
   exact .inr ⟨h1,rfl⟩
def VO (xs ys:List Int) (k:Nat):Prop:=ys.length=xs.length/\ ∀t,t<xs.length->ys[t]? =if t<k\/xs.length - k<=t then xs[xs.length - 1 - t]? else xs[t]?
def sY (xs:List Int):VO xs xs 0:=⟨rfl,fun t ht=>by rw[if_neg (by omega)]⟩
def jm {xs ys:List Int} {k:Nat} (h:VO xs ys k) (hk:xs.length<=2*k+1):ys=xs.reverse:=by
 refine List.ext_getElem? fun t=>?_
 rcases Nat.lt_or_ge t xs.length with ht|ht
 .rw[h.2 t ht,List.getElem?_reverse ht]
  split
  .rfl
  .congr 1;omega
 .rw[List.getElem?_eq_none (by rw[h.1];exact ht),List.getElem?_eq_none (by rw[List.length_reverse];exact ht)]
def dB {xs ys:List Int} {k:Nat} {a b:Int} (h:VO xs ys k) (hk:2*k+1<xs.length) (ha:ys[k]? =some a) (hb:ys[xs.length - 1 - k]? =some b):VO xs ((ys.set k b).set (xs.length - 1 - k) a) (k+1):=by
 have h1:=h.2 k (by omega);have h2:=h.2 (xs.length - 1 - k) (by omega);rw[if_neg (by omega),ha]at h1;rw[if_neg (by omega),hb]at h2;refine⟨by rw[List.length_set,List.length_set];exact h.1,fun t ht=>?_⟩;have hl:=h.1;by_cases e1:t=xs.length - 1 - k
 .subst e1
  rw[List.getElem?_set_self (by rw[List.length_set];omega),if_pos (by omega),show xs.length - 1 - (xs.length - 1 - k)=k by omega,h1]
 .rw[List.getElem?_set_ne (fun e=>e1 e.symm)]
  by_cases e2:t=k
  .subst e2
   rw[List.getElem?_set_self (by omega),if_pos (by omega),h2]
  .rw[List.getElem?_set_ne (fun e=>e2 e.symm),h.2 t ht]
   by_cases e3:t<k\/xs.length - k<=t
   .rw[if_pos e3,if_pos (by omega)]
   .rw[if_neg e3,if_neg (by omega)]
end Go.Gl
namespace Go.Gl
open Go.Proofs
attribute [local irreducible] A6 Ar Ah AR AI Ae AQ AT AK Ad AN AO Ay A7 Sat AY A5 Ai W
def J7 (xs:List Int) (v:V) (hl:xs.length<=1000) (hv:(Bg v).isSome=true\/(v= .l [] true/\xs= [])):Be zP 26 [v] [.own v 1 (iL xs)] fun r post=>r= .ret (.t [])/\post= [.own v 1 (iL xs.reverse)]:=by
 intro Z hs;have hM:=Mx;have e0:((iL xs).length:Int)=xs.length:=by simp
 have hw0:IntKind.i64.wrap (((iL xs).length:Int) - 1)=(xs.length:Int) - 1:=by rw[e0,wrap64 (by omega) (by omega)]
 refine y0 kZ ?_;refine zz ?_;(repeat clear U K);repeat intro K U
 refine DF (fun(x:Int×Int×List Int)=>(x.2.1+1).toNat) (fun x=>[(2,eI x.1),(3,eI x.2.1)]) (fun x=>[.own v 1 (iL x.2.2)]) (fun x=> ∃k:Nat,x.1=k/\x.2.1=(xs.length:Int) - 1 - k/\2*k<=xs.length+1/\VO xs x.2.2 k) (0,IntKind.i64.wrap (((iL xs).length:Int) - 1),xs) rfl ⟨0,rfl,by rw[hw0];simp,by omega,sY xs⟩ hs ?_;clear hs;rintro⟨i,j,ys⟩ Z ⟨k,hi,hj,hk,hh⟩ hs;dsimp only at hi hj hh hs;dsimp only;have hyl:=hh.1;by_cases hij:i<j
 .have hsv:(Bg v).isSome=true:=by
   rcases hv with h|⟨h1,h2⟩
   .exact h
   .rw[h2]at hj;simp at hj;omega
  have hwi:IntKind.i64.wrap (i+1)=i+1:=wrap64 (by omega) (by omega);have hwj:IntKind.i64.wrap (j - 1)=j - 1:=wrap64 (by omega) (by omega);obtain⟨a,ha⟩: ∃a,ys[i.toNat]? =some a:=⟨_,Cw (by omega)⟩
  obtain⟨b,hb⟩: ∃b,ys[j.toNat]? =some b:=⟨_,Cw (by omega)⟩
  conv=>whnf
  repeat'((first|clear U K|apply st|(apply zk;intro K U)|refine zY ?_|refine zs fun Z hs=>?_|refine oset (fun Z hs=>?_) (h1:=by rw[List.length_set];omega)|(refine zb (fun hc=>?_) (fun hc=>?_)<;>try exact⟨⟩)|fail)<;>conv=>whnf)
  have hik:i.toNat=k:=by omega
  have hjk:j.toNat=xs.length - 1 - k:=by omega
  refine⟨(IntKind.i64.wrap (i+1),IntKind.i64.wrap (j - 1),(ys.set i.toNat b).set j.toNat a),by dsimp only;rw[hwj];omega,rfl,⟨k+1,by dsimp only;rw[hwi];omega,by dsimp only;rw[hwj];omega,by omega,?_⟩,hs⟩;dsimp only;rw[hik]at ha ⊢;rw[hjk]at hb ⊢;exact dB hh (by omega) ha hb
 .have he:=jm hh (by omega)
  conv=>whnf
  repeat'((first|clear U K|apply st|(apply zk;intro K U)|refine zY ?_|(refine zb (fun hc=>?_) (fun hc=>?_)<;>try exact⟨⟩)|fail)<;>conv=>whnf)
  subst he;exact Am hs (List.Sublist.refl _) (.refl _) fun Z' hs'=>⟨_,⟨rfl,rfl⟩,hs'⟩
def bo (M:List (Int×Int)) (x:Int×Int):List (Int×Int):=if M.contains x then M else M++[x]
def bq (p:Prog) (M:List (Int×Int)) (m n:Int):List (Int×Int):=if GM p m n then bo (bo M (m,n)) (n,m)else bo M (m,n)
def Ql (p:Prog) (L:Nat) (m n:Int) (hk:EM p) (hgw:D2 (AS p)) (hfm: ∀x∈p.methods,DC (AS p) x.fact=true) (hm:BQ p m=true) (hn:BQ p n=true) (M:List (Int×Int)) :
    Be zP 277 [TI p L,eI m,eI n] [.map L (Ki p M)] fun r post=>r= .ret (.b (GM p m n))/\post= [.map L (Ki p (bo M (m,n)))]:=by
 intro Z hs;have hxm:=CA hm;have hxn:=CA hn;have hmm:=Bz hxm;have hmn:=Bz hxn;have hip:=eG (AS p) hgw (Bf p m).fact (Bf p n).fact (hfm _ hmm) (hfm _ hmn) (hk.facts _ hmm).1 (hk.facts _ hmn).1 (by have:=(hk.facts _ hmm).2;have:=(hk.facts _ hmn).2;omega);simp only[BQ,BD,CD]at hm hn;have hfd:=V9 p (m,n) M;refine uc kZ ?_;cases hc:M.contains (m,n)
 .rw[hc,if_neg (by decide)]at hfd
  conv=>whnf
  repeat'((first|clear U K|apply st|(apply zk;intro K U)|refine zY ?_|refine zs fun Z hs=>?_|refine Tp hs 1 rfl rfl (Pw _ _) hfd ?_|refine Js hs 1 rfl rfl (Pw _ _) fun Z hs=>?_|refine hip.use ?_|refine zo fun nn hnn Z hs=>?_|fail)<;>conv=>whnf)
  replace hs:Sat Z [.box nn [eI m,eI n],.map L (Da (kM (m,n)) (.b (GM p m n)) (Ki p M))]:=hs;rw[Z4 p (m,n) M hc]at hs;exact AU ⟨_,⟨rfl,rfl⟩,by rw[bo,hc];exact hs.less (LW _ _)⟩
 .rw[hc,if_pos rfl]at hfd
  conv=>whnf
  repeat'((first|clear U K|apply st|(apply zk;intro K U)|refine zY ?_|refine zs fun Z hs=>?_|refine Tp hs 1 rfl rfl (Pw _ _) hfd ?_|refine zo fun nn hnn Z hs=>?_|fail)<;>conv=>whnf)
  exact AU ⟨_,⟨rfl,rfl⟩,by rw[bo,hc];exact hs.less (LW _ _)⟩
def Wg (p:Prog) (L:Nat) (m n:Int) (hk:EM p) (hgw:D2 (AS p)) (hfm: ∀x∈p.methods,DC (AS p) x.fact=true) (hm:BQ p m=true) (hn:BQ p n=true) (M:List (Int×Int)) :
    Be zP 229 [TI p L,eI m,eI n] [.map L (Ki p M)] fun r post=>r= .ret (.b (Af p m n))/\post= [.map L (Ki p (bq p M m n))]:=by
 intro Z hs;have h1:=fun M=>Ql p L m n hk hgw hfm hm hn M
 have h2:=fun M=>Ql p L n m hk hgw hfm hn hm M
 unfold Af bq;cases hb1:GM p m n<;>cases hb2:GM p n m<;>rw[hb1]at h1<;>rw[hb2]at h2
 all_goals
  refine vD kZ ?_
  conv=>whnf
  repeat'((first|clear U K|apply st|(apply zk;intro K U)|fail)<;>conv=>whnf)
  refine(h1 M).use (rest:=[]) (by simpa using hs) ?_;clear hs;rintro r post Z ⟨rfl,rfl⟩ hs;refine zz ?_;(repeat clear U K);repeat intro K U
 .exact AU ⟨_,⟨rfl,rfl⟩,hs⟩
 .exact AU ⟨_,⟨rfl,rfl⟩,hs⟩
 all_goals
  refine(h2 _).use (rest:=[]) (by simpa using hs) ?_;clear hs;rintro r post Z ⟨rfl,rfl⟩ hs;refine zz ?_;(repeat clear U K);repeat intro K U
  exact AU ⟨_,⟨rfl,rfl⟩,hs⟩
def jv (g:FuncId) (fi ca:List V) (q:Int->Bool) (xs:List Int) (hpf: ∀y∈xs,Pure zP g (fi++[eI y]++ca) (.b (q y))) (f:Bool) (hxl:xs.length<=1000):Pure zP 213 [.l (iL xs) f,.f (.func g) fi ca] (.l (iL (xs.filter q)) true):=by
 refine Pure.of ?_;have hM:=Mx;refine vH kZ ?_;have hs:=Sn;refine zz ?_;(repeat clear U K);repeat intro K U
 refine By xs.length (fun k v=>[(5,v),(10,eI (A9 k))]) (fun k v=>[.own v 1 (iL ((xs.take k).filter q))]) (fun _ _=>True) (.l [] true) rfl trivial (FA hs 1) ?_;clear hs;rintro k v Z hk - hs;have hfl:=Q8 q (xs.take k);rw[LY]at hfl;rcases A3 xs hk with⟨y,hy,hlt⟩|hke
 .have hpy:=hpf y (Bz hy)
  have hst:(xs.take (k+1)).filter q=if q y then(xs.take k).filter q++[y]else(xs.take k).filter q:=by
   rw[AL hy,List.filter_append];cases hp:q y<;>simp[hp]
  generalize (xs.take k).filter q=zl at *;have hll:zl.length<AX/\(zl.length+1)*8<=140737488355328:=by omega
  conv=>whnf
  repeat'((first|clear U K|apply st|(apply zk;intro K U)|refine zY ?_|refine aq fun v Z hs hsl=>?_|refine Bh (hpy.use ?_)|refine za (fun hc=>?_) fun hc=>?_|fail)<;>conv=>whnf)
  .rw[if_pos (by assumption)]at hst
   exact⟨hlt,_,rfl,trivial,by rw[hst];exact hs⟩
  .rw[if_neg (by simp[*])]at hst
   exact⟨hlt,_,rfl,trivial,by rw[hst];exact hs⟩
 .rw[Ap hke]at hs
  refine zz ?_;(repeat clear U K);repeat intro K U
  refine(Pj (xs.filter q) v (by have:=Q8 q xs;omega)).use (rest:=[]) (by simpa using hs) ?_;clear hs;rintro r post Z ⟨rfl,rfl⟩ hs;refine zz ?_;(repeat clear U K);repeat intro K U
  exact AU (by rfl)
def yK (x y:Int):Pure zP 278 [eI y,.rp [eI x]] (.b (y != x)):=by
 refine ub kZ ?_;have hs:=Sn;refine zz ?_;(repeat clear U K);repeat intro K U
 all_goals exact AF (by rfl)
def NQ (xs:List Int) (f:Bool) (x:Int) (hxl:xs.length<=1000):Pure zP 230 [.l (iL xs) f,eI x] (.l (iL (xs.filter (· != x))) true):=by
 have c1:=jv 278 [] [.rp [eI x]] (· != x) xs (fun y _=>yK x y) f hxl;refine vC kZ ?_;have hs:=Sn
 conv=>whnf
 repeat'((first|clear U K|apply st|(apply zk;intro K U)|refine zC ?_|fail)<;>conv=>whnf)
 all_goals exact AF (by rfl)
def GA: ∀ {l:List Int} {i:Nat} {x:Int},l.Nodup->l[i]? =some x->l.filter (· != x)=l.eraseIdx i
 | y::r,0,x,hn,hx=>by
   obtain rfl:y=x:=by simpa using hx
   rw[List.nodup_cons]at hn;rw[List.filter_cons,if_neg (by simp),List.eraseIdx_cons_zero];exact List.filter_eq_self.2 fun z hz=>by rw[zD];rintro rfl;exact hn.1 hz
 | y::r,i+1,x,hn,hx=>by
   rw[List.nodup_cons]at hn;rw[w9]at hx;have hyx:y≠x:=fun e=>hn.1 (e ▸ Bz hx)
   rw[List.filter_cons,if_pos (by simpa using hyx),List.eraseIdx_cons_succ,GA hn.2 hx]
def dS {A:Int->Int->Bool} {l:List Int} {i:Nat} (hi:i<l.length) (h:G6 A l i l.length=true) (hn: ∀j,j<i->G6 A l j l.length=false):D7 A l=some i:=by
 rw[D7,List.find?_range_eq_some];exact⟨h,List.mem_range.2 hi,fun j hj=>by rw[hn j hj];rfl⟩
def dR {A:Int->Int->Bool} {l:List Int} (hn: ∀j,j<l.length->G6 A l j l.length=false):D7 A l=none:=by
 rw[D7,List.find?_range_eq_none];exact fun j hj=>by rw[hn j hj];rfl
def l5 {A:Int->Int->Bool} {l:List Int} {i k n:Nat} (hk:k<n) (h:(k==i||A (l.getD i 0) (l.getD k 0))=false):G6 A l i n=false:=by
 rw[G6,<-Bool.not_eq_true,Er];intro h2;rw[h2 k (List.mem_range.2 hk)]at h;cases h
def jM {l:List Int} (hn:l.Nodup) {i k:Nat} {x y:Int} (hx:l[i]? =some x) (hy:l[k]? =some y) (h:k≠i):x≠y:=by
 rintro rfl;have hi:=(Ii.1 hx)
 have hj:=(Ii.1 hy)
 have:=(List.nodup_iff_pairwise_ne.1 hn)
 rw[List.pairwise_iff_getElem]at this;rcases Nat.lt_or_gt_of_ne h with h'|h'
 .exact this k i hj.1 hi.1 h' (by rw[hj.2,hi.2])
 .exact this i k hi.1 hj.1 h' (by rw[hj.2,hi.2])
def ae (p : Prog) (L:Nat) (l:List Int) (f:Bool) (hok:EM p) (hgw:D2 (AS p)) (hfm: ∀x∈p.methods,DC (AS p) x.fact=true) (hl:Tm p l) (hnd:l.Nodup) (M:List (Int×Int)) :
    Be zP 163 [TI p L,.l (iL l) f] [.map L (Ki p M)] fun r post=>r= .ret (.t [.l (iL (BR (Af p) l.length l).1) true,.b (BR (Af p) l.length l).2])/\ ∃M',post= [.map L (Ki p M')]:=by
 intro Z hs;have hM:=Mx;refine v8 kZ ?_;refine zz ?_;(repeat clear U K);repeat intro K U
 refine DF (fun(x:List Int×Bool×V×List Int×List (Int×Int))=>x.1.length) (fun x=>[(1,.l (iL x.1) x.2.1),(6,x.2.2.1)]) (fun x=>[.own x.2.2.1 1 (iL x.2.2.2.1),.map L (Ki p x.2.2.2.2)])
  (fun x=>(∀y∈x.1,BQ p y=true)/\x.1.Nodup/\x.2.2.2.1.length+x.1.length<=16/\BR (Af p) l.length l=(x.2.2.2.1++(BR (Af p) x.1.length x.1).1,(BR (Af p) x.1.length x.1).2)) (l,f,.l [] true,[],M) rfl ⟨hl.Ip,hnd,by simpa using hl.many,by simp⟩ (Ci hs 1) ?_
 clear hs;rintro⟨l',f',v,out,M⟩ Z ⟨hme,hn,hlen,hm⟩ hs;dsimp only at hme hn hlen hm hs;dsimp only;have hll:out.length<AX/\(out.length+1)*8<=140737488355328:=by omega
 by_cases hz:l'.length=0
 .rw[hz]at hm
  simp only[BR,I4]at hm
  conv=>whnf
  repeat'((first|clear U K|apply st|(apply zk;intro K U)|refine zY ?_|(refine zb (fun hc=>?_) (fun hc=>?_)<;>try exact⟨⟩)|fail)<;>conv=>whnf)
  refine(Pj out v (by omega)).use (rest:=[_]) hs ?_;clear hs;rintro r post Z ⟨rfl,rfl⟩ hs;refine zz ?_;(repeat clear U K);repeat intro K U
  exact AU ⟨_,⟨by rw[hm],M,rfl⟩,hs⟩
 .obtain ⟨n,hnn⟩: ∃n,l'.length=n+1:=⟨l'.length - 1,by omega⟩
  have hne:l'.isEmpty=false:=by cases l' with
   | nil=>simp at hz
   | cons=>rfl
  rw[hnn,BR]at hm
  conv=>whnf
  repeat'((first|clear U K|apply st|(apply zk;intro K U)|refine zY ?_|(refine zb (fun hc=>?_) (fun hc=>?_)<;>try exact⟨⟩)|fail)<;>conv=>whnf)
  refine By l'.length (fun i (_:List (Int×Int))=>[(16,eI (A9 i))]) (fun _ M=>[.own v 1 (iL out),.map L (Ki p M)]) (fun i _=> ∀j,j<i->G6 (Af p) l' j l'.length=false) M rfl (fun j h=>by omega) hs ?_;clear hs;rintro i M Z hi hno hs;rcases A3 l' hi with⟨x,hx,hlt⟩|hie
  .have hmx:=hme x (Bz hx)
   refine zz ?_;(repeat clear U K);repeat intro K U
   refine By l'.length (fun k (_:List (Int×Int))=>[(22,eI (A9 k))]) (fun _ M=>[.own v 1 (iL out),.map L (Ki p M)]) (fun k _=>G6 (Af p) l' i k=true) M rfl rfl hs ?_;clear hs;rintro k M Z hk htop hs;rcases A3 l' hk with⟨y,hy,hklt⟩|hke
   .have hmy:=hme y (Bz hy)
    have hsu:=SA (Af p) l' i k;rw[B6 hx,B6 hy,htop,GJ]at hsu;by_cases hki:k=i
    .obtain rfl:x=y:=by
      rw[hki,hx]at hy;exact Option.some.inj hy
     conv=>whnf
     repeat'((first|clear U K|apply st|(apply zk;intro K U)|refine zY ?_|(refine zb (fun hc=>?_) (fun hc=>?_)<;>try exact⟨⟩)|fail)<;>conv=>whnf)
     exact⟨hklt,M,rfl,by rw[hsu,hki];simp,hs⟩
    .have hxy:=jM hn hx hy hki
     have c5:=Wg p L x y hok hgw hfm hmx hmy M;cases hah:Af p x y<;>rw[hah]at c5
     all_goals
      conv=>whnf
      repeat'((first|clear U K|apply st|(apply zk;intro K U)|refine zY ?_|(refine zb (fun hc=>?_) (fun hc=>?_)<;>try exact⟨⟩)|fail)<;>conv=>whnf)
      refine c5.use (rest:=[_]) (hs.perm (.swap _ _ _)) ?_;clear hs;rintro r post Z ⟨rfl,rfl⟩ hs;refine zz ?_;(repeat clear U K);repeat intro K U
     .refine⟨hlt,_,rfl,fun j hj=>?_,hs.perm (.swap _ _ _)⟩
      rcases Nat.lt_or_ge j i with h'|h'
      .exact hno j h'
      .rw[show j=i by omega]
       exact l5 hklt (by rw[B6 hx,B6 hy,hah];simpa using hki)
     .exact⟨hklt,_,rfl,by rw[hsu,hah];simp,hs.perm (.swap _ _ _)⟩
   .have c1:=NQ l' f' x (by omega)
    rw[GA hn hx]at c1;have hel:=List.length_eraseIdx_of_lt hlt;rw[dS hlt (hke ▸ htop) hno]at hm;dsimp only at hm;rw[B6 hx]at hm
    conv=>whnf
    repeat'((first|clear U K|apply st|(apply zk;intro K U)|refine zY ?_|refine aq fun v Z hs hsl=>?_|refine zC ?_|fail)<;>conv=>whnf)
    refine⟨(l'.eraseIdx i,true,v,out++[x],M),by dsimp only;omega,rfl,⟨fun y hy=>hme y (List.mem_of_mem_eraseIdx hy),hn.sublist (List.eraseIdx_sublist _ _),by simp;omega,?_⟩,hs⟩;dsimp only;rw[hm,hel,show l'.length - 1=n by omega];simp
  .rw[dR fun j hj=>hno j (by omega)]at hm
   dsimp only at hm;rw[hne,I4]at hm;refine zz ?_;(repeat clear U K);repeat intro K U
   refine(Pj out v (by omega)).use (rest:=[_]) hs ?_;clear hs;rintro r post Z ⟨rfl,rfl⟩ hs;refine zz ?_;(repeat clear U K);repeat intro K U
   exact AU ⟨_,⟨by rw[hm];rfl,M,rfl⟩,hs⟩
end Go.Gl
namespace Go.Gl
open Go.Proofs
def Qm {p:Prog} (hok:EM p) {i j k:Int} (hi:BQ p i=true) (hj:BQ p j=true) (hk:BQ p k=true) (h1:GM p i j=true) (h2:GM p j k=true):GM p i k=true:=
 imp_trans hok.wok (hok.facts _ (Bz (CA hi))).1 (hok.facts _ (Bz (CA hj))).1 (hok.facts _ (Bz (CA hk))).1 h1 h2
def Y4 {p:Prog} {i j:Int}:Af p i j=true↔GM p i j=true/\GM p j i=false:=by
 rw[Af,BD,Bool.not_eq_true']
def Q3 {p:Prog} (i:Int):Af p i i=false:=by
 rw[Af];cases GM p i i<;>rfl
def Um {p:Prog} (hok:EM p) {i j k:Int} (hi:BQ p i=true) (hj:BQ p j=true) (hk:BQ p k=true) (h1:Af p i j=true) (h2:Af p j k=true):Af p i k=true:=by
 rw[Y4]at *;refine⟨Qm hok hi hj hk h1.1 h2.1,?_⟩;rw[<-Bool.not_eq_true];intro e;have:=Qm hok hk hi hj e h1.1;rw[h2.2]at this;cases this
end Go.Gl
namespace Go.Gl
open Go.Proofs
attribute [local irreducible] A6 Ar Ah AR AI Ae AQ AT AK Ad AN AO Ay A7 Sat AY A5 Ai W
def mB (p:Prog) (L:Nat) (m:Int) (hok:EM p) (hgw:D2 (AS p)) (hfm: ∀x∈p.methods,DC (AS p) x.fact=true) (hm:BQ p m=true) :
    C3 zP (.f (.func 235) [] [.rp [TI p L],.rp [eI m]]) eI (fun M=>[.map L (Ki p M)]) (fun y M=>(Af p y m,bq p M y m)) (fun y _=>BQ p y=true):=by
 intro y M hy Z hs;refine Bh ?_;show A6 zP 235 ([]++[eI y]++[.rp [TI p L],.rp [eI m]]) Z _;refine u0 kZ ?_;refine zz ?_;(repeat clear U K);repeat intro K U
 refine(Wg p L y m hok hgw hfm hy hm M).use (rest:=[]) (by simpa using hs) ?_;clear hs;rintro r post Z ⟨rfl,rfl⟩ hs;refine zz ?_;(repeat clear U K);repeat intro K U
 exact Am hs (List.sublist_append_left _ _) (.refl _) fun Z' hs'=>⟨rfl,hs'⟩
def Sw {S:Type} {stp:Int->S->Bool×S} {q:Int->Bool}: ∀(xs:List Int) (k:Nat) (s:S),(∀y∈xs,∀s,(stp y s).1=q y)->(Bm stp xs k s).1=match(List.range xs.length).find? fun i=>q (xs.getD i 0)with|some i=>((k+i:Nat):Int)|none=> -1
 | [],_,_,_=>rfl
 | y ::r,k,s,h=>by
   rw[Bm,h y (.head _)];have ih:=Sw r (k+1) (stp y s).2 fun z hz=>h z (.tail _ hz)
   rw[JD,List.range_succ_eq_map,List.find?_cons,List.getD_cons_zero];cases hq:q y
   .rw[if_neg (by decide),ih]
    simp only[List.find?_map,Function.comp_def,Nat.succ_eq_add_one,List.getD_cons_succ];cases(List.range r.length).find? fun i=>q (r.getD i 0)with
    | none=>rfl
    | some i=>simp only[XU];congr 1;omega
   .rw[if_pos rfl];simp
def xW (p:Prog) (l:List Int) (m:Int) (M:List (Int×Int)):List (Int×Int):=(Bm (fun y M=>(Af p y m,bq p M y m)) l 0 M).2
def Zc (p:Prog) (L nb:Nat) (l:List Int) (f:Bool) (hok:EM p) (hgw:D2 (AS p)) (hfm: ∀x∈p.methods,DC (AS p) x.fact=true) (hl: ∀x∈l,BQ p x=true) :
    C3 zP (.f (.func 234) [] [.p nb 0,.rp [TI p L]]) eI (fun M=>[.box nb [.l (iL l) f],.map L (Ki p M)]) (fun m M=>(!(decide ((Bm (fun y M=>(Af p y m,bq p M y m)) l 0 M).1≥0)),xW p l m M)) (fun m _=>BQ p m=true):=by
 intro m M hm Z hs;refine Bh ?_;show A6 zP 234 ([]++[eI m]++[.p nb 0,.rp [TI p L]]) Z _;refine u9 kZ ?_;refine zz ?_;(repeat clear U K);repeat intro K U
 refine(Gi 235 [] [.rp [TI p L],.rp [eI m]] (fun M=>[.map L (Ki p M)]) _ _ (mB p L m hok hgw hfm hm) l f M (HD fun y hy _=>hl y hy)).use (rest:=[_]) (hs.perm (.swap _ _ _)) ?_;clear hs;rintro r post Z ⟨rfl,rfl⟩ hs;refine zz ?_;(repeat clear U K);repeat intro K U
 exact Am (hs.perm (.swap _ _ _)) (List.Sublist.refl _) (.refl _) fun Z' hs'=>⟨rfl,hs'⟩
def gL {p:Prog} (hok:EM p): ∀(l:List Int),l≠[]->(∀x∈l,BQ p x=true)-> ∃x∈l,∀y∈l,Af p y x=false
 | [],h,_=>absurd rfl h
 | x ::r,_,h=>by
   by_cases hr:r= []
   .subst hr
    exact⟨x,.head _,fun y hy=>by rw[LV.1 hy];exact Q3 x⟩
   obtain⟨z,hz,hz2⟩:=gL hok r hr fun y hy=>h y (.tail _ hy)
   cases hxz:Af p x z
   .refine⟨z,.tail _ hz,fun y hy=>?_⟩
    rcases GK.1 hy with rfl|hy
    .exact hxz
    .exact hz2 y hy
   .refine⟨x,.head _,fun y hy=>?_⟩
    rcases GK.1 hy with rfl|hy
    .exact Q3 y
    .rw[<-Bool.not_eq_true]
     intro e;have:=Um hok (h y (.tail _ hy)) (h x (.head _)) (h z (.tail _ hz)) e hxz;rw[hz2 y hy]at this;cases this
def SZ {p:Prog} (hok:EM p) {l:List Int} (hl:l≠[]) (h: ∀x∈l,BQ p x=true): ∃i,M1 (Af p) l=some i:=by
 obtain⟨x,hx,hx2⟩:=gL hok l hl h;obtain⟨i,hi⟩:=List.getElem?_of_mem hx;cases hm:M1 (Af p) l with
 | some i=>exact⟨i,rfl⟩
 | none=>
   rw[M1,List.find?_range_eq_none]at hm;have h1:=hm i (Ii.1 hi).1
   have h2:Kl (Af p) l i l.length=true:=by
    rw[Kl,Er];intro k hk;rw[B6 hi,hx2 _ (D0 (List.mem_range.1 hk))];rfl
   rw[h2]at h1;cases h1
def R8 (xs:List Int) (f:Bool):Pure zP 233 [.l (iL xs) f] (.f (.func 280) [] [.rp [.l (iL xs) f]]):=by
 refine vA kZ ?_;have hs:=Sn;exact zW
def lz (xs:List Int) (f:Bool) (hxl:xs.length<=1000) {S:Type} {fn:Fn} {fi ca:List V} {H:S->List At} (Inv:Nat->S->Prop) {s:S} (h0:Inv 0 s)
    (hT: ∀(k:Nat) s y,xs[k]? =some y->Inv k s-> ∀Z:AE,Sat Z (H s)->Ay zP (.f fn fi ca) [eI y] Z fun r Z'=> ∃s',r= .ret (.b true)/\Inv (k+1) s'/\Sat Z' (H s')) (Z:AE) (hs:Sat Z (H s)) :
    A6 zP 280 [.f fn fi ca,.rp [.l (iL xs) f]] Z fun r Z'=> ∃s',r= .ret (.t [])/\Inv xs.length s'/\Sat Z' (H s'):=by
 have hM:=Mx;refine uZ kZ ?_;refine zz ?_;(repeat clear U K);repeat intro K U
 refine By xs.length (fun k (_:S)=>[(7,eI (A9 k))]) (fun _ s'=>H s') (fun k s'=>Inv k s') s rfl h0 hs ?_;clear hs;rintro k s' Z hk ho hs;rcases A3 xs hk with⟨y,hy,hlt⟩|hke
 .have hT':=hT k s' y hy ho
  refine zz ?_;(repeat clear U K);repeat intro K U
  refine(hT' Z hs).mono ?_;rintro r Z ⟨s2,rfl,hi2,hs⟩;refine zz ?_;(repeat clear U K);repeat intro K U
  exact⟨hlt,_,rfl,hi2,hs⟩
 .rw[hke]at ho
  refine zz ?_;(repeat clear U K);repeat intro K U
  exact AU ⟨_,rfl,ho,hs⟩
def dy (xs:List Int) (f:Bool) (hxl:xs.length<=1000):Be zP 271 [.l [] true,.f (.func 280) [] [.rp [.l (iL xs) f]]] [] fun r post=> ∃v,r= .ret v/\post= [.own v 1 (iL xs)]/\((Bg v).isSome=true\/(v= .l [] true/\xs= [])):=by
 intro Z hs;have hM:=Mx;refine ud kZ ?_
 conv=>whnf
 repeat'((first|clear U K|apply st|(apply zk;intro K U)|refine zo fun nn hnn Z hs=>?_|fail)<;>conv=>whnf)
 rename_i nb _ _ _;clear hnn
 revert hs
 generalize hE:([(2,V.p nb 0)]:Env)=E;generalize hk:Bu _ _ _ _=ok;intro hs;refine A6.mono (lz xs f hxl (fn:= .yield nn) (fi:=[]) (ca:=[]) (H:=fun s:V×List Int=> .obj nn (.loop .ready E ok):: [.box nb [s.1],.own s.1 1 (iL s.2)]) (fun k s=>s.2=xs.take k/\(1<=k->(Bg s.1).isSome=true)/\(k=0->s.1= .l [] true)) (s:=(.l [] true,[])) ⟨rfl,fun h=>by omega,fun _=>rfl⟩ ?_ Z ((Ci hs 1).perm (Lj _ _ _ _))) ?_
 .clear hs
  subst hE hk;rintro k ⟨v,ys⟩ y hy ⟨h1,h2,h3⟩ Z hs;dsimp only at h1 h2 h3 hs;have hkl:k<xs.length:=(Ii.1 hy).1;have hyl:ys.length=k:=by rw[h1,LY];omega
  have hll:ys.length<AX/\(ys.length+1)*8<=140737488355328:=by omega
  refine w7 (Wq (l:=[.box nb [v],.own v 1 (iL ys)]) rfl hs ?_);clear hs;intro Z hs
  conv=>whnf
  repeat'((first|clear U K|apply st|(apply zk;intro K U)|refine zY ?_|refine zs fun Z hs=>?_|refine aq fun v Z hs hsl=>?_|fail)<;>conv=>whnf)
  intro hn;exact⟨(v,ys++[y]),rfl,⟨by rw[AL hy,h1],fun _=>hsl,fun h=>by omega⟩,hs.qo hn⟩
 .clear hs
  rintro r Z ⟨⟨v,ys⟩,rfl,⟨h1,h2,h3⟩,hs⟩;dsimp only at h1 h2 h3 hs;refine Pr hs fun Z hs=>?_
  refine zz ?_;(repeat clear U K);repeat intro K U
  rw[List.take_length]at h1;subst h1;refine Am hs (LW _ _) (.refl _) fun Z' hs'=>⟨_,⟨v,rfl,rfl,?_⟩,hs'⟩
  rcases Nat.eq_zero_or_pos ys.length with h|h
  .exact .inr ⟨h3 h,Y5.1 h⟩
  .exact .inl (h2 h)
def dk (xs:List Int) (f:Bool) (hxl:xs.length<=1000):Be zP 214 [.f (.func 280) [] [.rp [.l (iL xs) f]]] [] fun r post=> ∃v,r= .ret v/\post= [.own v 1 (iL xs)]/\((Bg v).isSome=true\/(v= .l [] true/\xs= [])):=by
 intro Z hs;refine vG kZ ?_
 conv=>whnf
 repeat'((first|clear U K|apply st|(apply zk;intro K U)|fail)<;>conv=>whnf)
 refine(dy xs f hxl).use (rest:=[]) (by simpa using hs) ?_;clear hs;rintro r post Z ⟨v,rfl,rfl,hv⟩ hs;refine zz ?_;(repeat clear U K);repeat intro K U
 exact Am hs (List.sublist_append_left _ _) (.refl _) fun Z' hs'=>⟨_,⟨v,rfl,rfl,hv⟩,hs'⟩
def SC (xs:List Int) (f:Bool) (hxl:xs.length<=1000):Pure zP 232 [.f (.func 280) [] [.rp [.l (iL xs) f]]] (.l (iL (xs.mergeSort HO)) false):=by
 refine vB kZ ?_;have hs:=Sn
 conv=>whnf
 repeat'((first|clear U K|apply st|(apply zk;intro K U)|fail)<;>conv=>whnf)
 refine(dk xs f hxl).use (rest:=[]) (by simpa using hs) ?_;clear hs;rintro r post Z ⟨v,rfl,rfl,hv⟩ hs
 conv=>whnf
 repeat'((first|clear U K|apply st|(apply zk;intro K U)|fail)<;>conv=>whnf)
 refine(fK hv).use (rest:=[]) hs ?_;clear hs;rintro r post Z ⟨rfl,rfl⟩ hs;refine zz ?_;(repeat clear U K);repeat intro K U
 exact Ab (hs.HP 0 rfl)
def Sx {S:Type} {stp:Int->S->Bool×S} {q:Int->Bool}: ∀(xs:List Int) (k:Nat) (s:S),(∀y∈xs,∀s,(stp y s).1=q y)->decide ((Bm stp xs k s).1≥0)=xs.any q
 | [],_,_,_=>rfl
 | y ::r,k,s,h=>by
   rw[Bm,h y (.head _),Q7];cases hq:q y
   .rw[if_neg (by decide),Bool.false_or]
    exact Sx r (k+1) _ fun z hz=>h z (.tail _ hz)
   .rw[if_pos rfl,Bool.true_or]
    exact decide_eq_true (Int.natCast_nonneg k)
def cL (l:List Int) (q:Int->Bool):(List.range l.length).all (fun j=> !q (l.getD j 0))= !l.any q:=by
 rw[KO,Er,Bool.not_eq_true',<-Bool.not_eq_true,KM];constructor
 .rintro h ⟨x,hx,hq⟩
  obtain⟨i,hi⟩:=List.getElem?_of_mem hx;have:=h i (List.mem_range.2 (Ii.1 hi).1);rw[B6 hi,hq]at this;cases this
 .intro h j hj
  cases hq:q (l.getD j 0)
  .rfl
  .exact absurd ⟨_,D0 (List.mem_range.1 hj),hq⟩ h
def aO {p:Prog} {l:List Int} {M:List (Int×Int)}:(Bm (fun(m:Int) (M:List (Int×Int))=>(!(decide ((Bm (fun y M=>(Af p y m,bq p M y m)) l 0 M).1≥0)),xW p l m M)) l 0 M).1=match M1 (Af p) l with|some i=>((i:Nat):Int)|none=> -1:=by
 rw[Sw (q:=fun m=> !l.any fun y=>Af p y m) l 0 M fun m _ s=>by dsimp only;rw[Sx (q:=fun y=>Af p y m) l 0 s fun y _ s=>rfl]];rw[M1,find_congr (g:=fun i=>Kl (Af p) l i l.length) fun i _=>by rw[Kl,cL l fun y=>Af p y (l.getD i 0)]];cases(List.range l.length).find? fun i=>Kl (Af p) l i l.length with
 | none=>rfl
 | some i=>simp
def dw (p:Prog) (L:Nat) (l:List Int) (f:Bool) (hok:EM p) (hgw:D2 (AS p)) (hfm: ∀x∈p.methods,DC (AS p) x.fact=true) (hl:Tm p l) (hnd:l.Nodup) (M:List (Int×Int)) :
    Be zP 164 [TI p L,.l (iL l) f] [.map L (Ki p M)] fun r post=>r= .ret (.l (iL (DE (Af p) l.length (l.mergeSort HO))) true)/\ ∃M',post= [.map L (Ki p M')]:=by
 intro Z hs;have hM:=Mx;have h16:=hl.many;have hml:(l.mergeSort HO).length=l.length:=List.length_mergeSort _;have c1:=R8 l f;have c2:=SC l f (by omega);refine gq kZ ?_
 conv=>whnf
 repeat'((first|clear U K|apply st|(apply zk;intro K U)|refine zY ?_|refine zs fun Z hs=>?_|refine zC ?_|refine zo fun nn hnn Z hs=>?_|fail)<;>conv=>whnf)
 clear c1 c2 hnn
 refine DF (fun(x:List Int×Bool×V×List Int×List (Int×Int))=>x.1.length) (fun x=>[(5,x.2.2.1)]) (fun x=>[.box nn [.l (iL x.1) x.2.1],.own x.2.2.1 1 (iL x.2.2.2.1),.map L (Ki p x.2.2.2.2)])
  (fun x=>(∀y∈x.1,BQ p y=true)/\x.1.Nodup/\x.2.2.2.1.length+x.1.length<=16/\DE (Af p) l.length (l.mergeSort HO)=x.2.2.2.1++DE (Af p) x.1.length x.1) (l.mergeSort HO,false,.l [] true,[],M) rfl ⟨fun y hy=>hl.Ip y (List.mem_mergeSort.1 hy),(List.mergeSort_perm l HO).symm.nodup hnd,by simpa[hml]using h16,by simp[hml]⟩ ((Ci hs 1).perm (.swap _ _ _)) ?_
 clear hs;rintro⟨l',f',v,out,M⟩ Z ⟨hme,hn,hlen,hm⟩ hs;dsimp only at hme hn hlen hm hs;dsimp only;have hll:out.length<AX/\(out.length+1)*8<=140737488355328:=by omega
 by_cases hz:l'.length=0
 .rw[hz]at hm
  simp only[DE,I4]at hm
  conv=>whnf
  repeat'((first|clear U K|apply st|(apply zk;intro K U)|refine zY ?_|(refine zb (fun hc=>?_) (fun hc=>?_)<;>try exact⟨⟩)|fail)<;>conv=>whnf)
  refine(Pj out v (by omega)).use (rest:=[_,_]) (hs.perm (.swap _ _ _)) ?_;clear hs;rintro r post Z ⟨rfl,rfl⟩ hs;refine zz ?_;(repeat clear U K);repeat intro K U
  exact Am hs (LW _ _) (.refl _) fun Z' hs'=>⟨_,⟨by rw[hm],M,rfl⟩,hs'⟩
 .obtain⟨n,hnn⟩: ∃n,l'.length=n+1:=⟨l'.length - 1,by omega⟩
  have hne:l'≠[]:=fun e=>hz (by rw[e];rfl)
  obtain⟨i,hi⟩:=SZ hok hne hme;have hil:i<l'.length:=by simpa using List.mem_of_find?_eq_some hi
  obtain⟨x,hx⟩: ∃x,l'[i]? =some x:=⟨_,Cw hil⟩
  rw[hnn,DE,hi,Option.getD_some,B6 hx]at hm;have c3:=NQ l' f' x (by omega);rw[GA hn hx]at c3;have hel:=List.length_eraseIdx_of_lt hil
  conv=>whnf
  repeat'((first|clear U K|apply st|(apply zk;intro K U)|refine zY ?_|(refine zb (fun hc=>?_) (fun hc=>?_)<;>try exact⟨⟩)|fail)<;>conv=>whnf)
  refine(Ih 234 [] [.p nn 0,.rp [TI p L]] (fun M=>[.box nn [.l (iL l') f'],.map L (Ki p M)]) _ _ (Zc p L nn l' f' hok hgw hfm hme) l' f' M (HD fun y hy _=>hme y hy)).use (rest:=[.own v 1 (iL out)]) (hs.perm (.cons _ (.swap _ _ _))) ?_;clear hs;rintro r post Z ⟨rfl,rfl⟩ hs;rw[aO,hi];generalize (Bm _ l' 0 M).2=M2 at hs;dsimp only
  conv=>whnf
  repeat'((first|clear U K|apply st|(apply zk;intro K U)|refine zY ?_|refine zs fun Z hs=>?_|refine aq fun v Z hs hsl=>?_|refine zC ?_|fail)<;>conv=>whnf)
  refine⟨(l'.eraseIdx i,true,v,out++[x],M2),by dsimp only;omega,rfl,⟨fun y hy=>hme y (List.mem_of_mem_eraseIdx hy),hn.sublist (List.eraseIdx_sublist _ _),by simp;omega,?_⟩,hs.perm (.cons _ (.swap _ _ _))⟩;dsimp only;rw[hm,hel,show l'.length - 1=n by omega];simp
def cG: ∀ {l:List Int},l.Nodup->(l.mergeSort HO).Pairwise (· < ·):=fun {l} h=>by
 have h1:=List.pairwise_mergeSort (le:=HO) (fun a b c h1 h2=>by simp only[HO,CD]at *;omega) (fun a b=>by simp only[HO,F1,CD];omega) l;have h2:=List.nodup_iff_pairwise_ne.1 ((List.mergeSort_perm l HO).symm.nodup h);exact(h1.and h2).imp fun⟨a,b⟩=>by simp only[HO,CD]at a;omega
def aD {x:Int}: ∀ {out:List Int},out.Pairwise (· < ·)->x∉out->(G9 x out).Pairwise (· < ·)
 | [],_,_=>by simp[G9]
 | y ::r,h,hx=>by
   rw[List.pairwise_cons]at h;rw[GK,not_or]at hx;by_cases hy:y<x
   .have e:G9 x (y::r)=y::G9 x r:=by simp[G9,List.takeWhile_cons,List.dropWhile_cons,hy]
    rw[e,List.pairwise_cons];refine⟨fun z hz=>?_,aD h.2 hx.2⟩;rcases Py.1 hz with rfl|hz
    .exact hy
    .exact h.1 z hz
   .have e:G9 x (y::r)=x::y::r:=by simp[G9,List.takeWhile_cons,List.dropWhile_cons,hy]
    rw[e,List.pairwise_cons,List.pairwise_cons];refine⟨fun z hz=>?_,h⟩;rcases GK.1 hz with rfl|hz
    .have:=hx.1;omega
    .have:=h.1 z hz
     have:=hx.1;omega
def WO: ∀(l out:List Int),out.Pairwise (· < ·)->l.Nodup->(∀x∈l,x∉out)->(l.foldl (fun out x=>G9 x out) out).Pairwise (· < ·)
 | [],_,h,_,_=>h
 | x::r,out,h,hn,hx=>by
   rw[List.nodup_cons]at hn;refine WO r _ (aD h (hx x (.head _))) hn.2 fun y hy hm=>?_
   rcases Py.1 hm with rfl|hm
   .exact hn.1 hy
   .exact hx y (.tail _ hy) hm
def SD {l:List Int} (h:l.Nodup):l.mergeSort HO=Co l:=
 LD (cG h) (WO l [] .nil h fun x _ hm=>by cases hm) fun x=>by rw[List.mem_mergeSort,J4]
def Y1 (p:Prog) (L:Nat) (l:List Int) (f:Bool) (hok:EM p) (hgw:D2 (AS p)) (hfm: ∀x∈p.methods,DC (AS p) x.fact=true) (hl:Tm p l) (hnd:l.Nodup) (M:List (Int×Int)) :
    Be zP 164 [TI p L,.l (iL l) f] [.map L (Ki p M)] fun r post=> ∃v M',r= .ret v/\post= [.own v 1 (iL (DE (Af p) l.length (l.mergeSort HO))),.map L (Ki p M')]/\((Bg v).isSome=true\/(v= .l [] true/\DE (Af p) l.length (l.mergeSort HO)= [])):=by
 intro Z hs;have hM:=Mx;have h16:=hl.many;have hml:(l.mergeSort HO).length=l.length:=List.length_mergeSort _;have c1:=R8 l f;have c2:=SC l f (by omega);refine gq kZ ?_
 conv=>whnf
 repeat'((first|clear U K|apply st|(apply zk;intro K U)|refine zY ?_|refine zs fun Z hs=>?_|refine zC ?_|refine zo fun nn hnn Z hs=>?_|fail)<;>conv=>whnf)
 clear c1 c2 hnn
 refine DF (fun(x:List Int×Bool×V×List Int×List (Int×Int))=>x.1.length) (fun x=>[(5,x.2.2.1)]) (fun x=>[.box nn [.l (iL x.1) x.2.1],.own x.2.2.1 1 (iL x.2.2.2.1),.map L (Ki p x.2.2.2.2)])
  (fun x=>(∀y∈x.1,BQ p y=true)/\x.1.Nodup/\x.2.2.2.1.length+x.1.length<=16/\DE (Af p) l.length (l.mergeSort HO)=x.2.2.2.1++DE (Af p) x.1.length x.1/\((Bg x.2.2.1).isSome=true\/(x.2.2.1= .l [] true/\x.2.2.2.1= []))) (l.mergeSort HO,false,.l [] true,[],M) rfl ⟨fun y hy=>hl.Ip y (List.mem_mergeSort.1 hy),(List.mergeSort_perm l HO).symm.nodup hnd,by simpa[hml]using h16,by simp[hml],.inr ⟨rfl,rfl⟩⟩ ((Ci hs 1).perm (.swap _ _ _)) ?_
 clear hs;rintro⟨l',f',v,out,M⟩ Z ⟨hme,hn,hlen,hm,hv⟩ hs;dsimp only at hme hn hlen hm hv hs;dsimp only;have hll:out.length<AX/\(out.length+1)*8<=140737488355328:=by omega
 by_cases hz:l'.length=0
 .rw[hz]at hm
  simp only[DE,I4]at hm
  conv=>whnf
  repeat'((first|clear U K|apply st|(apply zk;intro K U)|refine zY ?_|(refine zb (fun hc=>?_) (fun hc=>?_)<;>try exact⟨⟩)|fail)<;>conv=>whnf)
  refine(oT out v (by omega) hv).use (rest:=[_,_]) (hs.perm (.swap _ _ _)) ?_;clear hs;rintro r post Z ⟨v',rfl,rfl,hv'⟩ hs;refine zz ?_;(repeat clear U K);repeat intro K U
  rw[hm];exact Am hs (.cons₂ _ (LW _ _)) (.refl _) fun Z' hs'=>⟨_,⟨v',M,rfl,rfl,hv'⟩,hs'⟩
 .obtain⟨n,hnn⟩: ∃n,l'.length=n+1:=⟨l'.length - 1,by omega⟩
  have hne:l'≠[]:=fun e=>hz (by rw[e];rfl)
  obtain⟨i,hi⟩:=SZ hok hne hme;have hil:i<l'.length:=by simpa using List.mem_of_find?_eq_some hi
  obtain⟨x,hx⟩: ∃x,l'[i]? =some x:=⟨_,Cw hil⟩
  rw[hnn,DE,hi,Option.getD_some,B6 hx]at hm;have c3:=NQ l' f' x (by omega);rw[GA hn hx]at c3;have hel:=List.length_eraseIdx_of_lt hil
  conv=>whnf
  repeat'((first|clear U K|apply st|(apply zk;intro K U)|refine zY ?_|(refine zb (fun hc=>?_) (fun hc=>?_)<;>try exact⟨⟩)|fail)<;>conv=>whnf)
  refine(Ih 234 [] [.p nn 0,.rp [TI p L]] (fun M=>[.box nn [.l (iL l') f'],.map L (Ki p M)]) _ _ (Zc p L nn l' f' hok hgw hfm hme) l' f' M (HD fun y hy _=>hme y hy)).use (rest:=[.own v 1 (iL out)]) (hs.perm (.cons _ (.swap _ _ _))) ?_;clear hs;rintro r post Z ⟨rfl,rfl⟩ hs;rw[aO,hi];generalize (Bm _ l' 0 M).2=M2 at hs;dsimp only
  conv=>whnf
  repeat'((first|clear U K|apply st|(apply zk;intro K U)|refine zY ?_|refine zs fun Z hs=>?_|refine aq fun v Z hs hsl=>?_|refine zC ?_|fail)<;>conv=>whnf)
  refine⟨(l'.eraseIdx i,true,v,out++[x],M2),by dsimp only;omega,rfl,⟨fun y hy=>hme y (List.mem_of_mem_eraseIdx hy),hn.sublist (List.eraseIdx_sublist _ _),by simp;omega,?_,.inl hsl⟩,hs.perm (.cons _ (.swap _ _ _))⟩;dsimp only;rw[hm,hel,show l'.length - 1=n by omega];simp
def m5 {p:Prog} (h:(BW p).isSome=true) {x:Og} (hx:x∈p.methods):(1<=x.kind/\x.kind<=4)/\DC (AS p) x.fact=true/\Bk (AS p) x.fact=true/\GS x.fact<=p.CW.getD x.gen.toNat 0:=by
 have:=(FU h).2 x hx;simp only[Om,BD,CD]at this;have hf:=this.2.2.2.2.1;simp only[DC,BD,CD]at hf;exact⟨⟨this.1,this.2.1⟩,this.2.2.2.2.1,hf.2.2,this.2.2.2.2.2⟩
structure Pl where
 ar:List Int
 bT:Bool
 be:List Int
 pr:List Int
 prt:Bool
 af:List Int
abbrev zK (x:Pl) (g h:Bool):List V:=[.l (iL x.ar) g,.b x.bT,.l (iL x.be) g,.l (iL x.pr) g,.b x.prt,.l (iL x.af) h]
def B0 (p:Prog) (l:List Int) (k:Int):List Int:=l.filter fun m=>(Bf p m).kind==k
def xD:Pl:=⟨[],false,[],[],false,[]⟩
def ZF (A:Int->Int->Bool) (p:Prog) (l:List Int):Pl:=
 ⟨(BR A (B0 p l 4).length (B0 p l 4)).1,(BR A (B0 p l 4).length (B0 p l 4)).2,DE A (B0 p l 2).length (Co (B0 p l 2)),(BR A (B0 p l 1).length (B0 p l 1)).1,(BR A (B0 p l 1).length (B0 p l 1)).2,(DE A (B0 p l 3).length (Co (B0 p l 3))).reverse⟩
def Ce (A:Int->Int->Bool) (p:Prog) (l:List Int):Pl×Bool:=if(B0 p l 1).isEmpty then(xD,false)else(ZF A p l,true)
def lq (p:Prog) (l:List Int) (f:Bool) (kd:Int) (hm: ∀x∈l,BQ p x=true) (hl:l.length<=16) (h16:p.methods.length<=16):Pure zP 133 [.a (BK p),.l (iL l) f,eI kd] (.l (iL (B0 p l kd)) false):=by
 have hM:=Mx;refine wJ kZ ?_;have hs:=Sn;refine zz ?_;(repeat clear U K);repeat intro K U
 refine By l.length (fun k v=>[(7,v),(8,eI (A9 k))]) (fun k v=>[.own v 1 (iL (B0 p (l.take k) kd))]) (fun _ _=>True) (.l [] true) rfl trivial (FA hs 1) ?_;clear hs;rintro k v Z hk - hs
 have hfl:(B0 p (l.take k) kd).length<=16:=by
  have:=Q8 (fun m=>(Bf p m).kind==kd) (l.take k);rw[LY]at this;simp only[B0];omega
 rcases A3 l hk with⟨x,hx,hlt⟩|hke
 .have hst:B0 p (l.take (k+1)) kd=if(Bf p x).kind==kd then B0 p (l.take k) kd++[x]else B0 p (l.take k) kd:=by
   rw[AL hx,B0,List.filter_append];cases hp:(Bf p x).kind==kd<;>simp[B0,hp]
  have hmx:=hm x (Bz hx);have hxm:=CA hmx;simp only[BQ,BD,CD]at hmx;generalize B0 p (l.take k) kd=zl at *;have hll:zl.length<AX/\(zl.length+1)*8<=140737488355328:=by omega
  by_cases hkd:(Bf p x).kind=kd
  .rw[if_pos (EZ.2 hkd)]at hst
   conv=>whnf
   repeat'((first|clear U K|apply st|(apply zk;intro K U)|refine zY ?_|refine aq fun v Z hs hsl=>?_|(refine zb (fun hc=>?_) (fun hc=>?_)<;>try exact⟨⟩)|fail)<;>conv=>whnf)
   exact⟨hlt,_,rfl,trivial,by rw[hst];exact hs⟩
  .rw[if_neg (by simpa using hkd)]at hst
   conv=>whnf
   repeat'((first|clear U K|apply st|(apply zk;intro K U)|refine zY ?_|(refine zb (fun hc=>?_) (fun hc=>?_)<;>try exact⟨⟩)|fail)<;>conv=>whnf)
   exact⟨hlt,_,rfl,trivial,by rw[hst];exact hs⟩
 .rw[Ap hke]at hs
  refine zz ?_;(repeat clear U K);repeat intro K U
  exact Ab (hs.HP 0 rfl)
end Go.Gl
