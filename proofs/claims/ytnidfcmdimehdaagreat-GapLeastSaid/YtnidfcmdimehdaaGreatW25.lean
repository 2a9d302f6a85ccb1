import Derived.Test.YtnidfcmdimehdaaGreatW14
import Derived.Test.YtnidfcmdimehdaaGreatW15
import Derived.Test.YtnidfcmdimehdaaGreatW17
import Derived.Test.YtnidfcmdimehdaaGreatW19
import Derived.Test.YtnidfcmdimehdaaGreatW22
import Derived.Test.YtnidfcmdimehdaaGreatW24
set_option linter.all false
set_option linter.defProp false
set_option maxHeartbeats 8000000
noncomputable section
namespace Go.Gl
open Go.Proofs
attribute [local irreducible] Ao Ai AY AO AJ AX AN AP AI AW AK AL Ak Au Sat AT Ar Aa W
attribute [local irreducible] G0
def x9 (p:Prog) (nO:Nat) (r:R) (post:List At):Prop:=
 match BZ p with
 | some s=>r= .ret (.t [])/\ ∃v,post= [.box nO [v],.own v 1 (iL s)]
 | none=>r= .BV DX/\ ∃v s,post= [.box nO [v],.own v 1 (iL s)]
def bF (p:Prog) (nO:Nat):BK zP 243 [.rp (Ba p),.p nO 0] [.box nO [.l [] true]] (x9 p nO):=fun Z hs=>
 Ao.mono (iJ p nO Z hs) fun r Z' hq=>by
  unfold um at hq;unfold x9;cases h:BZ p with
  | some s=>
    rw[h]at hq;obtain⟨h1,v,h2⟩:=hq;exact⟨_,⟨h1,v,rfl⟩,h2⟩
  | none=>
    rw[h]at hq;obtain⟨h1,v,s,h2⟩:=hq;exact⟨_,⟨h1,v,s,rfl⟩,h2⟩
def nf {Z:AE} {n:Nat} {x:V} {rest:List At} (hs:Sat Z (.box n [x]::rest)) {Q:AE->Prop} (hq: ∀Z',Sat Z' (.box n [.b false]::rest)->Q Z'):G0 zP 288 [.p n 0] (some DX) Z Q:=by
 refine Zt kZ ?_
 conv=>whnf
 repeat'((first|clear U K|apply st|(apply zk;intro K U)|refine zY ?_|refine zs fun Z hs=>?_|refine pj rfl ?_|refine zo fun nn hnn Z hs=>?_|fail)<;>conv=>whnf)
 exact hq _ (hs.less (NJ _ _))
def ng {Z:AE} {n:Nat} {x:V} {rest:List At} (hs:Sat Z (.box n [x]::rest)) {Q:AE->Prop} (hq: ∀Z',Sat Z' (.box n [x]::rest)->Q Z'):G0 zP 288 [.p n 0] none Z Q:=by
 refine Zt kZ ?_;refine zz ?_;(repeat clear U K);repeat intro K U
 exact hq _ hs
def cF (p:Prog) (nO:Nat):BK zP 242 [.f (.func 243) [] [.rp (Ba p),.p nO 0]] [.box nO [.l [] true]] fun r post=>r= .ret (.b (BZ p).isSome)/\ ∃v s,post= [.box nO [v],.own v 1 (iL s)]/\(BZ p=none\/BZ p=some s):=by
 intro Z hs;refine tB kZ ?_
 conv=>whnf
 repeat'((first|clear U K|apply st|(apply zk;intro K U)|refine zo fun nn hnn Z hs=>?_|fail)<;>conv=>whnf)
 refine Ay ?_;refine(bF p nO).use (rest:=[.box nn [.b false]]) (hs.perm (.swap _ _ _)) ?_;clear hs hnn;rintro r post Z hq hs;unfold x9 at hq;cases h:BZ p with
 | none=>
   rw[h]at hq;obtain⟨rfl,v,s,rfl⟩:=hq
   conv=>whnf
   repeat'((first|clear U K|apply st|fail)<;>conv=>whnf)
   refine nf (rest:=[.box nO [v],.own v 1 (iL s)]) (hs.perm OD) fun Z hs=>?_
   refine zz ?_;(repeat clear U K);repeat intro K U
   exact AH ⟨_,⟨by rw[h];rfl,v,s,rfl,.inl h⟩,hs.less (NJ _ _)⟩
 | some s=>
   rw[h]at hq;obtain⟨rfl,v,rfl⟩:=hq
   conv=>whnf
   repeat'((first|clear U K|apply st|(apply zk;intro K U)|refine zs fun Z hs=>?_|fail)<;>conv=>whnf)
   replace hs:Sat Z ([.box nO [v],.own v 1 (iL s)]++[.box nn [.b true]]):=hs;refine ng (x:= .b true) (rest:=[.box nO [v],.own v 1 (iL s)]) (hs.perm OD) fun Z hs=>?_
   refine zz ?_;(repeat clear U K);repeat intro K U
   exact AH ⟨_,⟨by rw[h];rfl,v,s,rfl,.inr h⟩,hs.less (NJ _ _)⟩
def iK (p:Prog):BK zP 201 [.a (Ba p)] [] fun r post=> ∃v s,r= .ret (.t [v,.b (BZ p).isSome])/\post= [.own v 1 (iL s)]/\(BZ p=none\/BZ p=some s):=by
 intro Z hs;refine tW kZ ?_
 conv=>whnf
 repeat'((first|clear U K|apply st|(apply zk;intro K U)|refine zo fun nn hnn Z hs=>?_|fail)<;>conv=>whnf)
 refine(cF p nn).use (rest:=[]) (by simpa using hs) ?_;clear hs;rintro r post Z ⟨rfl,v,s,rfl,hl⟩ hs;refine zz ?_;(repeat clear U K);repeat intro K U
 exact AH ⟨_,⟨v,s,rfl,rfl,hl⟩,hs.less (.cons _ (.cons₂ _ (RF _)))⟩
def WS (p:Prog):Pure zP 142 [.a (Ba p)] (eI (if(BZ p).isSome then 0 else 2)):=by
 refine Pure.of ?_;have hz:=iK p;cases h:(BZ p).isSome<;>rw[h]at hz
 all_goals
  refine tx kZ ?_;have hs:=Sn;refine zz ?_;(repeat clear U K);repeat intro K U
  refine hz.use (rest:=[]) (by simpa using hs) ?_;clear hs;rintro r post Z ⟨v,s,rfl,rfl,-⟩ hs;refine zz ?_;(repeat clear U K);repeat intro K U
  exact AH rfl
def wY {p:Prog} (h:(BZ p).isSome=true):CU p.AQ<=40:=by
 obtain⟨hh,-⟩:=EE h;simp only[Eh,A4,CT]at hh;exact(Lo hh.1).2.1
def Xn {p:Prog} (h:(BZ p).isSome=true):p.AQ.length<=10:=by
 obtain⟨hh,-⟩:=EE h;simp only[Eh,A4,CT]at hh;exact(Lo hh.1).2.2
def U3 {p:Prog} (h:(BZ p).isSome=true):Cn (AM p):=by
 obtain⟨hh,-⟩:=EE h;simp only[Eh,A4,CT]at hh;exact(Lo hh.1).1
def Z9 (p:Prog):Pure zP 99 [.a (Ba p)] (if(BZ p).isSome then .t [.a (CR (AM p)),eI 0]else .t [.a [.l [] true,.l [] true],eI 2]):=by
 have hz:=WS p;have hM:=Mx;cases h:(BZ p).isSome<;>rw[h]at hz
 .simp only[Jf,if_false]at hz ⊢
  refine o7 kZ ?_;have hs:=Sn
  conv=>whnf
  repeat'((first|clear U K|apply st|(apply zk;intro K U)|refine zY ?_|refine zs fun Z hs=>?_|refine hz.use ?_|(refine zb (fun hc=>?_) (fun hc=>?_)<;>try exact⟨⟩)|refine zo fun nn hnn Z hs=>?_|fail)<;>conv=>whnf)
  all_goals exact AS rfl
 .simp only[if_true]at hz ⊢
  have hm:=wY h;have hc10:=Xn h;refine o7 kZ ?_;have hs:=Sn
  conv=>whnf
  repeat'((first|clear U K|apply st|(apply zk;intro K U)|refine zY ?_|refine zs fun Z hs=>?_|refine hz.use ?_|refine Pure.use (VI p (by omega) (by omega)) ?_|(refine zb (fun hc=>?_) (fun hc=>?_)<;>try exact⟨⟩)|refine zo fun nn hnn Z hs=>?_|fail)<;>conv=>whnf)
  all_goals exact AS rfl
end Go.Gl
namespace Go.Gl
open Go.Proofs
attribute [local irreducible] Ao Ai AY AO AJ AX AN AP AI AW AK AL Ak Au Sat AT Ar Aa W
abbrev rkC (p:Prog) (L:Nat):List V:=Ba p++(CR (AM p)++[.m L])
abbrev Sh (p:Prog) (L:Nat):V:= .rp (rkC p L)
abbrev kM (x:Int×Int):V:= .a [eI x.1,eI x.2]
def J4 (p:Prog) (M:List (Int×Int)):List (V×V):=M.map fun x=>(kM x,.b (Jj p x.1 x.2))
def Pe (p:Prog) (M:List (Int×Int)): ∀kv∈J4 p M,BD (.a [.i64,.i64]) kv.1=true:=by
 intro kv h;obtain⟨e,_,rfl⟩:=H8.1 h;rfl
def ot (x y:Int×Int):C8 (kM x) (kM y)=(x==y):=by
 obtain⟨a,b⟩:=x;obtain⟨c,d⟩:=y;have e:C8 (kM (a,b)) (kM (c,d))=(a==c&&b==d):=by simp[C8,Bh,kM]
 rw[e];rfl
def Vn (p:Prog) (x:Int×Int): ∀(M:List (Int×Int)),CA (kM x) (J4 p M)=if M.contains x then some (.b (Jj p x.1 x.2))else none
 | []=>rfl
 | y ::r=>by
   rw[J4,Eg,CA,ot,List.contains_cons];cases h:x==y
   .rw[cond_false,Bool.false_or]
    exact Vn p x r
   .rw[cond_true,Bool.true_or,if_pos rfl]
    have:x=y:=by simpa using h
    rw[this]
def ZW (p:Prog) (x:Int×Int): ∀(M:List (Int×Int)),M.contains x=false->Cp (kM x) (.b (Jj p x.1 x.2)) (J4 p M)=J4 p (M++[x])
 | [],_=>rfl
 | y::r,h=>by
   rw[List.contains_cons,Bool.or_eq_false_iff]at h;have ih:=ZW p x r h.2;simp only[J4]at ih;rw[J4,Eg,Cp,ot,h.1,cond_false,ih];rfl
def iQ (p:Prog):BK zP 169 [.a (Ba p)] [] fun r post=>if(BZ p).isSome then∃L,r= .ret (Sh p L)/\post= [.map L []]else r= .ret .pn/\post= []:=by
 intro Z hs;have hw:=Z9 p;cases h:(BZ p).isSome<;>rw[h]at hw
 .simp only[Jf,if_false]at hw ⊢
  refine fy kZ ?_
  conv=>whnf
  repeat'((first|clear U K|apply st|(apply zk;intro K U)|refine zY ?_|refine zs fun Z hs=>?_|refine hw.use ?_|(refine zb (fun hc=>?_) (fun hc=>?_)<;>try exact⟨⟩)|refine zo fun nn hnn Z hs=>?_|fail)<;>conv=>whnf)
  exact AH ⟨_,⟨rfl,rfl⟩,hs.less (RF _)⟩
 .simp only[if_true]at hw ⊢
  refine fy kZ ?_
  conv=>whnf
  repeat'((first|clear U K|apply st|(apply zk;intro K U)|refine zY ?_|refine zs fun Z hs=>?_|refine hw.use ?_|(refine zb (fun hc=>?_) (fun hc=>?_)<;>try exact⟨⟩)|refine zo fun nn hnn Z hs=>?_|fail)<;>conv=>whnf)
  exact AH ⟨_,⟨nn,rfl,rfl⟩,hs.less (.cons₂ _ (RF _))⟩
def wh (p:Prog) (L:Nat) (m:Int):Pure zP 259 [eI m,.rp [Sh p L]] (.b (!BX p m)):=by
 refine ss kZ ?_;have hs:=Sn
 conv=>whnf
 repeat'((first|clear U K|apply st|(apply zk;intro K U)|refine zY ?_|refine za (fun hc=>?_) fun hc=>?_|fail)<;>conv=>whnf)
 .refine AS ?_
  have e1:decide (0<=m)=true:=decide_eq_true hc;rw[BX,e1,Ed,C4];show V.b (decide (m≥(p.methods.length:Int)))=_;by_cases hl:m<(p.methods.length:Int)
  .rw[decide_eq_true hl,decide_eq_false (by omega)];rfl
  .rw[decide_eq_false hl,decide_eq_true (by omega)];rfl
 .refine AS ?_
  rw[BX,decide_eq_false (by omega)];rfl
def IM {g:FuncId} {fi ca:List V} {f:Int->Bool} {xs:List Int} (b:Bool) (h: ∀y∈xs,Pure zP g (fi++[eI y]++ca) (.b (f y))):Pure zP 66 [.l (iL xs) b,.f (.func g) fi ca] (.b (xs.any f)):=by
 have:=F7 g fi ca (fun _=>[]) (fun y (_:Unit)=>(f y,())) (fun y _=>y∈xs) (P5 fun y hy=>h y hy) xs b () (Gc fun y hy _=>hy);rw[Lr]at this;exact Pure.of (Ao.mono (this emp Sat.nil) fun r Z' ⟨post,⟨h1,h2⟩,h3⟩=>h1)
def wj (p:Prog) (L:Nat) (l:List Int) (b:Bool):Pure zP 216 [Sh p L,.l (iL l) b] (.b (l.all (BX p))):=by
 have hc:=fun b=>IM (g:=259) (fi:=[]) (ca:=[.rp [Sh p L]]) (f:=fun m=> !BX p m) (xs:=l) b fun y _=>wh p L y
 refine fu kZ ?_;have hs:=Sn
 conv=>whnf
 repeat'((first|clear U K|apply st|(apply zk;intro K U)|refine Pure.use (hc _) ?_|fail)<;>conv=>whnf)
 all_goals exact AS (by rw[List.all_eq_not_any_not];rfl)
def rf (l:List Int) (b:Bool):Pure zP 216 [.pn,.l (iL l) b] (.b false):=by
 refine fu kZ ?_;have hs:=Sn;exact zW
def oG (p:Prog) (L:Nat) (m n:Int) (hm:BX p m=true) (hn:BX p n=true):Pure zP 217 [Sh p L,eI m,eI n] (.b (KM p m n)):=by
 refine Pure.fit (by kernel_rfl) fun hf=>?_
 have hxm:=Cx hm;have hxn:=Cx hn;simp only[BX,A4,CT]at hm hn;refine tQ kZ ?_;have hs:=Sn
 conv=>whnf
 repeat'((first|clear U K|apply st|(apply zk;intro K U)|refine zY ?_|refine rk ?_ ?_|exact fun s e=>by cases e;rfl|refine zs fun Z hs=>?_|refine za (fun hc=>?_) fun hc=>?_|refine zo fun nn hnn Z hs=>?_|fail)<;>conv=>whnf)
 all_goals exact AS (by simp[KM, *])
def nH {p:Prog} (h:(BZ p).isSome=true): ∀x∈p.methods,EC (AM p) x.fact=true:=fun x hx=>by
 have:=(EE h).2 x hx;simp only[XB,A4]at this;exact this.2.2.2.2.1
def ak (M:List (Int×Int)) (x:Int×Int):List (Int×Int):=if M.contains x then M else M++[x]
def an (p:Prog) (M:List (Int×Int)) (m n:Int):List (Int×Int):=if Jj p m n then ak (ak M (m,n)) (n,m)else ak M (m,n)
def QN (p:Prog) (L:Nat) (m n:Int) (hk:ES p) (hgw:Cn (AM p)) (hfm: ∀x∈p.methods,EC (AM p) x.fact=true) (hm:BX p m=true) (hn:BX p n=true) (M:List (Int×Int)) :
    BK zP 299 [Sh p L,eI m,eI n] [.map L (J4 p M)] fun r post=>r= .ret (.b (Jj p m n))/\post= [.map L (J4 p (ak M (m,n)))]:=by
 intro Z hs;have hxm:=Cx hm;have hxn:=Cx hn;have hmm:=Dn hxm;have hmn:=Dn hxn;have hip:=c8 (AM p) hgw (Bv p m).fact (Bv p n).fact (hfm _ hmm) (hfm _ hmn) (hk.facts _ hmm).1 (hk.facts _ hmn).1 (by have:=(hk.facts _ hmm).2;have:=(hk.facts _ hmn).2;omega);simp only[BX,A4,CT]at hm hn;have hfd:=Vn p (m,n) M;refine sT kZ ?_;cases hc:M.contains (m,n)
 .rw[hc,if_neg (by decide)]at hfd
  conv=>whnf
  repeat'((first|clear U K|apply st|(apply zk;intro K U)|refine zY ?_|refine zs fun Z hs=>?_|refine MZ hs 1 rfl rfl (Pe _ _) hfd ?_|refine GN hs 1 rfl rfl (Pe _ _) fun Z hs=>?_|refine hip.use ?_|refine zo fun nn hnn Z hs=>?_|fail)<;>conv=>whnf)
  replace hs:Sat Z [.box nn [eI m,eI n],.map L (Cp (kM (m,n)) (.b (Jj p m n)) (J4 p M))]:=hs;rw[ZW p (m,n) M hc]at hs;exact AH ⟨_,⟨rfl,rfl⟩,by rw[ak,hc];exact hs.less (NJ _ _)⟩
 .rw[hc,if_pos rfl]at hfd
  conv=>whnf
  repeat'((first|clear U K|apply st|(apply zk;intro K U)|refine zY ?_|refine zs fun Z hs=>?_|refine MZ hs 1 rfl rfl (Pe _ _) hfd ?_|refine zo fun nn hnn Z hs=>?_|fail)<;>conv=>whnf)
  exact AH ⟨_,⟨rfl,rfl⟩,by rw[ak,hc];exact hs.less (NJ _ _)⟩
def WK (p:Prog) (L:Nat) (m n:Int) (hk:ES p) (hgw:Cn (AM p)) (hfm: ∀x∈p.methods,EC (AM p) x.fact=true) (hm:BX p m=true) (hn:BX p n=true) (M:List (Int×Int)) :
    BK zP 260 [Sh p L,eI m,eI n] [.map L (J4 p M)] fun r post=>r= .ret (.b (Aw p m n))/\post= [.map L (J4 p (an p M m n))]:=by
 intro Z hs;have h1:=fun M=>QN p L m n hk hgw hfm hm hn M
 have h2:=fun M=>QN p L n m hk hgw hfm hn hm M
 unfold Aw an;cases hb1:Jj p m n<;>cases hb2:Jj p n m<;>rw[hb1]at h1<;>rw[hb2]at h2
 all_goals
  refine sr kZ ?_
  conv=>whnf
  repeat'((first|clear U K|apply st|(apply zk;intro K U)|fail)<;>conv=>whnf)
  refine(h1 M).use (rest:=[]) (by simpa using hs) ?_;clear hs;rintro r post Z ⟨rfl,rfl⟩ hs;refine zz ?_;(repeat clear U K);repeat intro K U
 .exact AH ⟨_,⟨rfl,rfl⟩,hs⟩
 .exact AH ⟨_,⟨rfl,rfl⟩,hs⟩
 all_goals
  refine(h2 _).use (rest:=[]) (by simpa using hs) ?_;clear hs;rintro r post Z ⟨rfl,rfl⟩ hs;refine zz ?_;(repeat clear U K);repeat intro K U
  exact AH ⟨_,⟨rfl,rfl⟩,hs⟩
structure aP (T:List (List Bool)) (l:List Int):Prop where
 len:T.length<=16
 sq: ∀r∈T,r.length=T.length
 ins: ∀x∈l,0<=x/\x<(T.length:Int)
 many:l.length<=16
def Nu (A:Int->Int->Bool) (l:List Int) (i k:Nat):Bool:=(List.range k).all fun j=>j==i||A (l.getD i 0) (l.getD j 0)
def PK (A:Int->Int->Bool) (l:List Int):Option Nat:=(List.range l.length).find? fun i=>Nu A l i l.length
def aw (A:Int->Int->Bool) (l:List Int) (i k:Nat):Nu A l i (k+1)=(Nu A l i k&&(k==i||A (l.getD i 0) (l.getD k 0))):=by
 rw[Nu,List.range_succ,List.all_append,Nu];simp
def E4 {l:List Int} {k:Nat} {x:Int} (h:l[k]? =some x):l.getD k 0=x:=by rw[Dh,h];rfl
def C0 (A:Int->Int->Bool):Nat->List Int->List Int×Bool
 | 0,_=>([],false)
 | k+1,l=>match PK A l with
   | none=>([],!l.isEmpty)
   | some i=>(l.getD i 0::(C0 A k (l.eraseIdx i)).1,(C0 A k (l.eraseIdx i)).2)
def aP.less {T:List (List Bool)} {l:List Int} (h:aP T l) (i:Nat):aP T (l.eraseIdx i):=
 ⟨h.len,h.sq,fun x hx=>h.ins x (List.mem_of_mem_eraseIdx hx),Nat.le_trans (List.length_eraseIdx_le _ _) h.many⟩
end Go.Gl
namespace Go.Gl
open Go.Proofs
def qv {Z:AE} {l:List At} (h:Sat Z l) {i:Nat} {v:V} {sz:Nat} {es:List (List V)} (hi:l[i]? =some (.own v sz es)) (hv:(CQ v).isSome=true): ∃n cp,v= .sl n es.length cp:=by
 rcases h.get hi with⟨e,_⟩|⟨n,cp,e,_⟩
 .rw[e]at hv;cases hv
 .exact⟨n,cp,e⟩
attribute [local irreducible] Ao Ai AY AO AJ AX AN AP AI AW AK AL Ak Au Sat AT Ar Aa W
def Nz (x:Int) (out:List Int):List Int:=out.takeWhile (fun y=>decide (y<x))++x::out.dropWhile (fun y=>decide (y<x))
def Jl (l:List Int):List Int:=l.foldl (fun out x=>Nz x out) []
end Go.Gl
namespace Go.Gl
open Go.Proofs
attribute [local irreducible] Ao Ai AY AO AJ AX AN AP AI AW AK AL Ak Au Sat AT Ar Aa W
def aT (A:Int->Int->Bool) (l:List Int) (i k:Nat):Bool:=(List.range k).all fun j=> !A (l.getD j 0) (l.getD i 0)
def XJ (A:Int->Int->Bool) (l:List Int):Option Nat:=(List.range l.length).find? fun i=>aT A l i l.length
def GY (A:Int->Int->Bool):Nat->List Int->List Int
 | 0,_=>[]
 | k+1,l=>l.getD ((XJ A l).getD 0) 0::GY A k (l.eraseIdx ((XJ A l).getD 0))
abbrev RW:=Nat×List Bool
def SC {l:List Int} {k:Nat} (h:k<l.length):l.getD k 0∈l:=by
 rw[Dh,Di h];exact List.getElem_mem h
structure px (n:Nat) (R:List RW):Prop where
 len:R.length=n
 row: ∀r∈R,r.2.length=n
def px.put {n:Nat} {R:List RW} {r:RW} (h:px n R) {j k:Nat} {b:Bool} (hr:R[j]? =some r):px n (R.set j (r.1,r.2.set k b)):=by
 refine⟨by rw[List.length_set];exact h.len,fun q hq=>?_⟩;rcases List.mem_or_eq_of_mem_set hq with hq|rfl
 .exact h.row q hq
 .rw[List.length_set];exact h.row r (Dn hr)
def find_congr {f g:Nat->Bool}: ∀ {l:List Nat},(∀x∈l,f x=g x)->l.find? f=l.find? g
 | [],_=>rfl
 | x::r,h=>by
   rw[List.find?_cons,List.find?_cons,h x (.head _),find_congr fun y hy=>h y (.tail _ hy)]
def Pj {x y:Int} {out:List Int}:y∈Nz x out↔y=x\/y∈out:=by
 have h:=List.takeWhile_append_dropWhile (p:=fun y=>decide (y<x)) (l:=out);rw[Nz];constructor
 .intro hy
  rcases Dm.1 hy with hy|hy
  .right;rw[<-h];exact NL _ hy
  .rcases FR.1 hy with rfl|hy
   .exact .inl rfl
   .right;rw[<-h];exact MH _ hy
 .rintro(rfl|hy)
  .exact MH _ (.head _)
  .rw[<-h]at hy
   rcases Dm.1 hy with hy|hy
   .exact NL _ hy
   .exact MH _ (.tail _ hy)
def QT: ∀(l out:List Int) (y:Int),y∈l.foldl (fun out x=>Nz x out) out↔y∈l\/y∈out
 | [],out,y=>by simp
 | x ::r,out,y=>by
   rw[List.foldl_cons,QT r,Pj,FR];constructor
   .rintro(h|h|h)
    .exact .inl (.inr h)
    .exact .inl (.inl h)
    .exact .inr h
   .rintro((h|h)|h)
    .exact .inr (.inl h)
    .exact .inl h
    .exact .inr (.inr h)
def bE {l:List Int} {y:Int}:y∈Jl l↔y∈l:=by rw[Jl,QT];simp
structure TE (p:Prog) (l:List Int):Prop where
 K3: ∀x∈l,BX p x=true
 alike: ∀x∈l,∀y∈l,KM p x y=true
 many:l.length<=16
def jT (g:FuncId) (fi ca:List V) (q:Int->Bool) (xs:List Int) (hpf: ∀y∈xs,Pure zP g (fi++[eI y]++ca) (.b (q y))) (f:Bool) (hxl:xs.length<=1000):Pure zP 300 [.l (iL xs) f,.f (.func g) fi ca] (.l (iL (xs.filter q)) true):=by
 refine Pure.of ?_;have hM:=Mx;refine sS kZ ?_;have hs:=Sn;refine zz ?_;(repeat clear U K);repeat intro K U
 refine Du xs.length (fun k v=>[(5,v),(10,eI (Bj k))]) (fun k v=>[.own v 1 (iL ((xs.take k).filter q))]) (fun _ _=>True) (.l [] true) rfl trivial (Ol hs 1) ?_;clear hs;rintro k v Z hk - hs;have hfl:=W9 q (xs.take k);rw[NK]at hfl;rcases BJ xs hk with⟨y,hy,hlt⟩|hke
 .have hpy:=hpf y (Dn hy)
  have hst:(xs.take (k+1)).filter q=if q y then(xs.take k).filter q++[y]else(xs.take k).filter q:=by
   rw[An hy,List.filter_append];cases hp:q y<;>simp[hp]
  generalize (xs.take k).filter q=zl at *;have hll:zl.length<As/\(zl.length+1)*8<=140737488355328:=by omega
  conv=>whnf
  repeat'((first|clear U K|apply st|(apply zk;intro K U)|refine zY ?_|refine aq fun v Z hs hsl=>?_|refine Ay (hpy.use ?_)|refine za (fun hc=>?_) fun hc=>?_|fail)<;>conv=>whnf)
  .rw[if_pos (by assumption)]at hst
   exact⟨hlt,_,rfl,trivial,by rw[hst];exact hs⟩
  .rw[if_neg (by simp[*])]at hst
   exact⟨hlt,_,rfl,trivial,by rw[hst];exact hs⟩
 .rw[CE hke]at hs
  refine zz ?_;(repeat clear U K);repeat intro K U
  refine(PR (xs.filter q) v (by have:=W9 q xs;omega)).use (rest:=[]) (by simpa using hs) ?_;clear hs;rintro r post Z ⟨rfl,rfl⟩ hs;refine zz ?_;(repeat clear U K);repeat intro K U
  exact AH (by rfl)
def wW (x y:Int):Pure zP 301 [eI y,.rp [eI x]] (.b (y != x)):=by
 refine sR kZ ?_;have hs:=Sn;refine zz ?_;(repeat clear U K);repeat intro K U
 all_goals exact AS (by rfl)
def Mp (xs:List Int) (f:Bool) (x:Int) (hxl:xs.length<=1000):Pure zP 261 [.l (iL xs) f,eI x] (.l (iL (xs.filter (· != x))) true):=by
 have c1:=jT 301 [] [.rp [eI x]] (· != x) xs (fun y _=>wW x y) f hxl;refine sm kZ ?_;have hs:=Sn
 conv=>whnf
 repeat'((first|clear U K|apply st|(apply zk;intro K U)|refine zC ?_|fail)<;>conv=>whnf)
 all_goals exact AS (by rfl)
def Fh: ∀ {l:List Int} {i:Nat} {x:Int},l.Nodup->l[i]? =some x->l.filter (· != x)=l.eraseIdx i
 | y::r,0,x,hn,hx=>by
   obtain rfl:y=x:=by simpa using hx
   rw[List.nodup_cons]at hn;rw[List.filter_cons,if_neg (by simp),List.eraseIdx_cons_zero];exact List.filter_eq_self.2 fun z hz=>by rw[xg];rintro rfl;exact hn.1 hz
 | y::r,i+1,x,hn,hx=>by
   rw[List.nodup_cons]at hn;rw[uk]at hx;have hyx:y≠x:=fun e=>hn.1 (e ▸ Dn hx)
   rw[List.filter_cons,if_pos (by simpa using hyx),List.eraseIdx_cons_succ,Fh hn.2 hx]
def cI {A:Int->Int->Bool} {l:List Int} {i:Nat} (hi:i<l.length) (h:Nu A l i l.length=true) (hn: ∀j,j<i->Nu A l j l.length=false):PK A l=some i:=by
 rw[PK,List.find?_range_eq_some];exact⟨h,List.mem_range.2 hi,fun j hj=>by rw[hn j hj];rfl⟩
def cH {A:Int->Int->Bool} {l:List Int} (hn: ∀j,j<l.length->Nu A l j l.length=false):PK A l=none:=by
 rw[PK,List.find?_range_eq_none];exact fun j hj=>by rw[hn j hj];rfl
def lJ {A:Int->Int->Bool} {l:List Int} {i k n:Nat} (hk:k<n) (h:(k==i||A (l.getD i 0) (l.getD k 0))=false):Nu A l i n=false:=by
 rw[Nu,<-Bool.not_eq_true,DR];intro h2;rw[h2 k (List.mem_range.2 hk)]at h;cases h
def ir {l:List Int} (hn:l.Nodup) {i k:Nat} {x y:Int} (hx:l[i]? =some x) (hy:l[k]? =some y) (h:k≠i):x≠y:=by
 rintro rfl;have hi:=(Je.1 hx)
 have hj:=(Je.1 hy)
 have:=(List.nodup_iff_pairwise_ne.1 hn)
 rw[List.pairwise_iff_getElem]at this;rcases Nat.lt_or_gt_of_ne h with h'|h'
 .exact this k i hj.1 hi.1 h' (by rw[hj.2,hi.2])
 .exact this i k hi.1 hj.1 h' (by rw[hj.2,hi.2])
def Zx (p : Prog) (L:Nat) (l:List Int) (f:Bool) (hok:ES p) (hgw:Cn (AM p)) (hfm: ∀x∈p.methods,EC (AM p) x.fact=true) (hl:TE p l) (hnd:l.Nodup) (M:List (Int×Int)) :
    BK zP 218 [Sh p L,.l (iL l) f] [.map L (J4 p M)] fun r post=>r= .ret (.t [.l (iL (C0 (Aw p) l.length l).1) true,.b (C0 (Aw p) l.length l).2])/\ ∃M',post= [.map L (J4 p M')]:=by
 intro Z hs;have hM:=Mx;refine tP kZ ?_;refine zz ?_;(repeat clear U K);repeat intro K U
 refine Ft (fun(x:List Int×Bool×V×List Int×List (Int×Int))=>x.1.length) (fun x=>[(1,.l (iL x.1) x.2.1),(6,x.2.2.1)]) (fun x=>[.own x.2.2.1 1 (iL x.2.2.2.1),.map L (J4 p x.2.2.2.2)])
  (fun x=>(∀y∈x.1,BX p y=true)/\x.1.Nodup/\x.2.2.2.1.length+x.1.length<=16/\C0 (Aw p) l.length l=(x.2.2.2.1++(C0 (Aw p) x.1.length x.1).1,(C0 (Aw p) x.1.length x.1).2)) (l,f,.l [] true,[],M) rfl ⟨hl.K3,hnd,by simpa using hl.many,by simp⟩ (DN hs 1) ?_
 clear hs;rintro⟨l',f',v,out,M⟩ Z ⟨hme,hn,hlen,hm⟩ hs;dsimp only at hme hn hlen hm hs;dsimp only;have hll:out.length<As/\(out.length+1)*8<=140737488355328:=by omega
 by_cases hz:l'.length=0
 .rw[hz]at hm
  simp only[C0,Fj]at hm
  conv=>whnf
  repeat'((first|clear U K|apply st|(apply zk;intro K U)|refine zY ?_|(refine zb (fun hc=>?_) (fun hc=>?_)<;>try exact⟨⟩)|fail)<;>conv=>whnf)
  refine(PR out v (by omega)).use (rest:=[_]) hs ?_;clear hs;rintro r post Z ⟨rfl,rfl⟩ hs;refine zz ?_;(repeat clear U K);repeat intro K U
  exact AH ⟨_,⟨by rw[hm],M,rfl⟩,hs⟩
 .obtain ⟨n,hnn⟩: ∃n,l'.length=n+1:=⟨l'.length - 1,by omega⟩
  have hne:l'.isEmpty=false:=by cases l' with
   | nil=>simp at hz
   | cons=>rfl
  rw[hnn,C0]at hm
  conv=>whnf
  repeat'((first|clear U K|apply st|(apply zk;intro K U)|refine zY ?_|(refine zb (fun hc=>?_) (fun hc=>?_)<;>try exact⟨⟩)|fail)<;>conv=>whnf)
  refine Du l'.length (fun i (_:List (Int×Int))=>[(16,eI (Bj i))]) (fun _ M=>[.own v 1 (iL out),.map L (J4 p M)]) (fun i _=> ∀j,j<i->Nu (Aw p) l' j l'.length=false) M rfl (fun j h=>by omega) hs ?_;clear hs;rintro i M Z hi hno hs;rcases BJ l' hi with⟨x,hx,hlt⟩|hie
  .have hmx:=hme x (Dn hx)
   refine zz ?_;(repeat clear U K);repeat intro K U
   refine Du l'.length (fun k (_:List (Int×Int))=>[(22,eI (Bj k))]) (fun _ M=>[.own v 1 (iL out),.map L (J4 p M)]) (fun k _=>Nu (Aw p) l' i k=true) M rfl rfl hs ?_;clear hs;rintro k M Z hk htop hs;rcases BJ l' hk with⟨y,hy,hklt⟩|hke
   .have hmy:=hme y (Dn hy)
    have hsu:=aw (Aw p) l' i k;rw[E4 hx,E4 hy,htop,Ed]at hsu;by_cases hki:k=i
    .obtain rfl:x=y:=by
      rw[hki,hx]at hy;exact Option.some.inj hy
     conv=>whnf
     repeat'((first|clear U K|apply st|(apply zk;intro K U)|refine zY ?_|(refine zb (fun hc=>?_) (fun hc=>?_)<;>try exact⟨⟩)|fail)<;>conv=>whnf)
     exact⟨hklt,M,rfl,by rw[hsu,hki];simp,hs⟩
    .have hxy:=ir hn hx hy hki
     have c5:=WK p L x y hok hgw hfm hmx hmy M;cases hah:Aw p x y<;>rw[hah]at c5
     all_goals
      conv=>whnf
      repeat'((first|clear U K|apply st|(apply zk;intro K U)|refine zY ?_|(refine zb (fun hc=>?_) (fun hc=>?_)<;>try exact⟨⟩)|fail)<;>conv=>whnf)
      refine c5.use (rest:=[_]) (hs.perm (.swap _ _ _)) ?_;clear hs;rintro r post Z ⟨rfl,rfl⟩ hs;refine zz ?_;(repeat clear U K);repeat intro K U
     .refine⟨hlt,_,rfl,fun j hj=>?_,hs.perm (.swap _ _ _)⟩
      rcases Nat.lt_or_ge j i with h'|h'
      .exact hno j h'
      .rw[show j=i by omega]
       exact lJ hklt (by rw[E4 hx,E4 hy,hah];simpa using hki)
     .exact⟨hklt,_,rfl,by rw[hsu,hah];simp,hs.perm (.swap _ _ _)⟩
   .have c1:=Mp l' f' x (by omega)
    rw[Fh hn hx]at c1;have hel:=List.length_eraseIdx_of_lt hlt;rw[cI hlt (hke ▸ htop) hno]at hm;dsimp only at hm;rw[E4 hx]at hm
    conv=>whnf
    repeat'((first|clear U K|apply st|(apply zk;intro K U)|refine zY ?_|refine aq fun v Z hs hsl=>?_|refine zC ?_|fail)<;>conv=>whnf)
    refine⟨(l'.eraseIdx i,true,v,out++[x],M),by dsimp only;omega,rfl,⟨fun y hy=>hme y (List.mem_of_mem_eraseIdx hy),hn.sublist (List.eraseIdx_sublist _ _),by simp;omega,?_⟩,hs⟩;dsimp only;rw[hm,hel,show l'.length - 1=n by omega];simp
  .rw[cH fun j hj=>hno j (by omega)]at hm
   dsimp only at hm;rw[hne,Fj]at hm;refine zz ?_;(repeat clear U K);repeat intro K U
   refine(PR out v (by omega)).use (rest:=[_]) hs ?_;clear hs;rintro r post Z ⟨rfl,rfl⟩ hs;refine zz ?_;(repeat clear U K);repeat intro K U
   exact AH ⟨_,⟨by rw[hm];rfl,M,rfl⟩,hs⟩
end Go.Gl
