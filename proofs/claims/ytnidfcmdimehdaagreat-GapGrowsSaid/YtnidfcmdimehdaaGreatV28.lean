import Derived.Test.YtnidfcmdimehdaaGreatV14
import Derived.Test.YtnidfcmdimehdaaGreatV15
import Derived.Test.YtnidfcmdimehdaaGreatV20
import Derived.Test.YtnidfcmdimehdaaGreatV22
import Derived.Test.YtnidfcmdimehdaaGreatV25
import Derived.Test.YtnidfcmdimehdaaGreatV27
set_option linter.all false
set_option linter.defProp false
set_option maxHeartbeats 8000000
noncomputable section
namespace Go.Gl
open Go.Proofs
attribute [local irreducible] Av An Af AQ AL Ac AP AS AK Ab AN AO As A3 Sat AV A0 Ag W
attribute [local irreducible] Hn
def szP (p:Prog) (nO:Nat) (r:R) (post:List At):Prop:=
 match BN p with
 | some s=>r= .ret (.t [])/\ ∃v,post= [.box nO [v],.own v 1 (iL s)]
 | none=>r= .Bf D4/\ ∃v s,post= [.box nO [v],.own v 1 (iL s)]
def cT (p:Prog) (nO:Nat):BO zP 243 [.rp (BT p),.p nO 0] [.box nO [.l [] true]] (szP p nO):=fun Z hs=>
 Av.mono (jm p nO Z hs) fun r Z' hq=>by
  unfold xY at hq;unfold szP;cases h:BN p with
  | some s=>
    rw[h]at hq;obtain⟨h1,v,h2⟩:=hq;exact⟨_,⟨h1,v,rfl⟩,h2⟩
  | none=>
    rw[h]at hq;obtain⟨h1,v,s,h2⟩:=hq;exact⟨_,⟨h1,v,s,rfl⟩,h2⟩
def pT {Z:AE} {n:Nat} {x:V} {rest:List At} (hs:Sat Z (.box n [x]::rest)) {Q:AE->Prop} (hq: ∀Z',Sat Z' (.box n [.b false]::rest)->Q Z'):Hn zP 288 [.p n 0] (some D4) Z Q:=by
 refine bE kZ ?_
 conv=>whnf
 repeat'((first|clear U K|apply st|(apply zk;intro K U)|refine zY ?_|refine zs fun Z hs=>?_|refine rX rfl ?_|refine zo fun nn hnn Z hs=>?_|fail)<;>conv=>whnf)
 exact hq _ (hs.less (OS _ _))
def pU {Z:AE} {n:Nat} {x:V} {rest:List At} (hs:Sat Z (.box n [x]::rest)) {Q:AE->Prop} (hq: ∀Z',Sat Z' (.box n [x]::rest)->Q Z'):Hn zP 288 [.p n 0] none Z Q:=by
 refine bE kZ ?_;refine zz ?_;(repeat clear U K);repeat intro K U
 exact hq _ hs
def db (p:Prog) (nO:Nat):BO zP 242 [.f (.func 243) [] [.rp (BT p),.p nO 0]] [.box nO [.l [] true]] fun r post=>r= .ret (.b (BN p).isSome)/\ ∃v s,post= [.box nO [v],.own v 1 (iL s)]/\(BN p=none\/BN p=some s):=by
 intro Z hs;refine vB kZ ?_
 conv=>whnf
 repeat'((first|clear U K|apply st|(apply zk;intro K U)|refine zo fun nn hnn Z hs=>?_|fail)<;>conv=>whnf)
 refine BH ?_;refine(cT p nO).use (rest:=[.box nn [.b false]]) (hs.perm (.swap _ _ _)) ?_;clear hs hnn;rintro r post Z hq hs;unfold szP at hq;cases h:BN p with
 | none=>
   rw[h]at hq;obtain⟨rfl,v,s,rfl⟩:=hq
   conv=>whnf
   repeat'((first|clear U K|apply st|fail)<;>conv=>whnf)
   refine pT (rest:=[.box nO [v],.own v 1 (iL s)]) (hs.perm PH) fun Z hs=>?_
   refine zz ?_;(repeat clear U K);repeat intro K U
   exact AH ⟨_,⟨by rw[h];rfl,v,s,rfl,.inl h⟩,hs.less (OS _ _)⟩
 | some s=>
   rw[h]at hq;obtain⟨rfl,v,rfl⟩:=hq
   conv=>whnf
   repeat'((first|clear U K|apply st|(apply zk;intro K U)|refine zs fun Z hs=>?_|fail)<;>conv=>whnf)
   replace hs:Sat Z ([.box nO [v],.own v 1 (iL s)]++[.box nn [.b true]]):=hs;refine pU (x:= .b true) (rest:=[.box nO [v],.own v 1 (iL s)]) (hs.perm PH) fun Z hs=>?_
   refine zz ?_;(repeat clear U K);repeat intro K U
   exact AH ⟨_,⟨by rw[h];rfl,v,s,rfl,.inr h⟩,hs.less (OS _ _)⟩
def jn (p:Prog):BO zP 201 [.a (BT p)] [] fun r post=> ∃v s,r= .ret (.t [v,.b (BN p).isSome])/\post= [.own v 1 (iL s)]/\(BN p=none\/BN p=some s):=by
 intro Z hs;refine ve kZ ?_
 conv=>whnf
 repeat'((first|clear U K|apply st|(apply zk;intro K U)|refine zo fun nn hnn Z hs=>?_|fail)<;>conv=>whnf)
 refine(db p nn).use (rest:=[]) (by simpa using hs) ?_;clear hs;rintro r post Z ⟨rfl,v,s,rfl,hl⟩ hs;refine zz ?_;(repeat clear U K);repeat intro K U
 exact AH ⟨_,⟨v,s,rfl,rfl,hl⟩,hs.less (.cons _ (.cons₂ _ (NQ _)))⟩
def XK (p:Prog):Pure zP 142 [.a (BT p)] (eI (if(BN p).isSome then 0 else 2)):=by
 refine Pure.of ?_;have hz:=jn p;cases h:(BN p).isSome<;>rw[h]at hz
 all_goals
  refine wb kZ ?_;have hs:=Sn;refine zz ?_;(repeat clear U K);repeat intro K U
  refine hz.use (rest:=[]) (by simpa using hs) ?_;clear hs;rintro r post Z ⟨v,s,rfl,rfl,-⟩ hs;refine zz ?_;(repeat clear U K);repeat intro K U
  exact AH rfl
def yk {p:Prog} (h:(BN p).isSome=true):Bn p.AM<=40:=by
 obtain⟨hh,-⟩:=GL h;simp only[DE,A4,Cp]at hh;exact(Ms hh.1).2.1
def il {p:Prog} (h:(BN p).isSome=true):p.AM.length<=10:=by
 obtain⟨hh,-⟩:=GL h;simp only[DE,A4,Cp]at hh;exact(Ms hh.1).2.2
def Zi {p:Prog} (h:(BN p).isSome=true):Cq (AI p):=by
 obtain⟨hh,-⟩:=GL h;simp only[DE,A4,Cp]at hh;exact(Ms hh.1).1
def bU (p:Prog):Pure zP 99 [.a (BT p)] (if(BN p).isSome then .t [.a (BL (AI p)),eI 0]else .t [.a [.l [] true,.l [] true],eI 2]):=by
 have hz:=XK p;have hM:=Mx;cases h:(BN p).isSome<;>rw[h]at hz
 .simp only[NN,if_false]at hz ⊢
  refine qt kZ ?_;have hs:=Sn
  conv=>whnf
  repeat'((first|clear U K|apply st|(apply zk;intro K U)|refine zY ?_|refine zs fun Z hs=>?_|refine hz.use ?_|(refine zb (fun hc=>?_) (fun hc=>?_)<;>try exact⟨⟩)|refine zo fun nn hnn Z hs=>?_|fail)<;>conv=>whnf)
  all_goals exact AJ rfl
 .simp only[if_true]at hz ⊢
  have hm:=yk h;have hc10:=il h;refine qt kZ ?_;have hs:=Sn
  conv=>whnf
  repeat'((first|clear U K|apply st|(apply zk;intro K U)|refine zY ?_|refine zs fun Z hs=>?_|refine hz.use ?_|refine Pure.use (V3 p (by omega) (by omega)) ?_|(refine zb (fun hc=>?_) (fun hc=>?_)<;>try exact⟨⟩)|refine zo fun nn hnn Z hs=>?_|fail)<;>conv=>whnf)
  all_goals exact AJ rfl
end Go.Gl
namespace Go.Gl
open Go.Proofs
attribute [local irreducible] Av An Af AQ AL Ac AP AS AK Ab AN AO As A3 Sat AV A0 Ag W
abbrev rkC (p:Prog) (L:Nat):List V:=BT p++(BL (AI p)++[.m L])
abbrev TU (p:Prog) (L:Nat):V:= .rp (rkC p L)
abbrev kM (x:Int×Int):V:= .a [eI x.1,eI x.2]
def LB (p:Prog) (M:List (Int×Int)):List (V×V):=M.map fun x=>(kM x,.b (JJ p x.1 x.2))
def QS (p:Prog) (M:List (Int×Int)): ∀kv∈LB p M,BQ (.a [.i64,.i64]) kv.1=true:=by
 intro kv h;obtain⟨e,_,rfl⟩:=Hc.1 h;rfl
def qe (x y:Int×Int):Dz (kM x) (kM y)=(x==y):=by
 obtain⟨a,b⟩:=x;obtain⟨c,d⟩:=y;have e:Dz (kM (a,b)) (kM (c,d))=(a==c&&b==d):=by simp[Dz,Bt,kM]
 rw[e];rfl
def Wj (p:Prog) (x:Int×Int): ∀(M:List (Int×Int)),Ch (kM x) (LB p M)=if M.contains x then some (.b (JJ p x.1 x.2))else none
 | []=>rfl
 | y ::r=>by
   rw[LB,EZ,Ch,qe,List.contains_cons];cases h:x==y
   .rw[cond_false,Bool.false_or]
    exact Wj p x r
   .rw[cond_true,Bool.true_or,if_pos rfl]
    have:x=y:=by simpa using h
    rw[this]
def aP (p:Prog) (x:Int×Int): ∀(M:List (Int×Int)),M.contains x=false->DU (kM x) (.b (JJ p x.1 x.2)) (LB p M)=LB p (M++[x])
 | [],_=>rfl
 | y::r,h=>by
   rw[List.contains_cons,Bool.or_eq_false_iff]at h;have ih:=aP p x r h.2;simp only[LB]at ih;rw[LB,EZ,DU,qe,h.1,cond_false,ih];rfl
def js (p:Prog):BO zP 169 [.a (BT p)] [] fun r post=>if(BN p).isSome then∃L,r= .ret (TU p L)/\post= [.map L []]else r= .ret .pn/\post= []:=by
 intro Z hs;have hw:=bU p;cases h:(BN p).isSome<;>rw[h]at hw
 .simp only[NN,if_false]at hw ⊢
  refine ia kZ ?_
  conv=>whnf
  repeat'((first|clear U K|apply st|(apply zk;intro K U)|refine zY ?_|refine zs fun Z hs=>?_|refine hw.use ?_|(refine zb (fun hc=>?_) (fun hc=>?_)<;>try exact⟨⟩)|refine zo fun nn hnn Z hs=>?_|fail)<;>conv=>whnf)
  exact AH ⟨_,⟨rfl,rfl⟩,hs.less (NQ _)⟩
 .simp only[if_true]at hw ⊢
  refine ia kZ ?_
  conv=>whnf
  repeat'((first|clear U K|apply st|(apply zk;intro K U)|refine zY ?_|refine zs fun Z hs=>?_|refine hw.use ?_|(refine zb (fun hc=>?_) (fun hc=>?_)<;>try exact⟨⟩)|refine zo fun nn hnn Z hs=>?_|fail)<;>conv=>whnf)
  exact AH ⟨_,⟨nn,rfl,rfl⟩,hs.less (.cons₂ _ (NQ _))⟩
def yr (p:Prog) (L:Nat) (m:Int):Pure zP 259 [eI m,.rp [TU p L]] (.b (!Ba p m)):=by
 refine um kZ ?_;have hs:=Sn
 conv=>whnf
 repeat'((first|clear U K|apply st|(apply zk;intro K U)|refine zY ?_|refine za (fun hc=>?_) fun hc=>?_|fail)<;>conv=>whnf)
 .refine AJ ?_
  have e1:decide (0<=m)=true:=decide_eq_true hc;rw[Ba,e1,Du,CW];show V.b (decide (m≥(p.methods.length:Int)))=_;by_cases hl:m<(p.methods.length:Int)
  .rw[decide_eq_true hl,decide_eq_false (by omega)];rfl
  .rw[decide_eq_false hl,decide_eq_true (by omega)];rfl
 .refine AJ ?_
  rw[Ba,decide_eq_false (by omega)];rfl
def PE {g:FuncId} {fi ca:List V} {f:Int->Bool} {xs:List Int} (b:Bool) (h: ∀y∈xs,Pure zP g (fi++[eI y]++ca) (.b (f y))):Pure zP 66 [.l (iL xs) b,.f (.func g) fi ca] (.b (xs.any f)):=by
 have:=Gn g fi ca (fun _=>[]) (fun y (_:Unit)=>(f y,())) (fun y _=>y∈xs) (Qr fun y hy=>h y hy) xs b () (HN fun y hy _=>hy);rw[Mu]at this;exact Pure.of (Av.mono (this emp Sat.nil) fun r Z' ⟨post,⟨h1,h2⟩,h3⟩=>h1)
def yu (p:Prog) (L:Nat) (l:List Int) (b:Bool):Pure zP 216 [TU p L,.l (iL l) b] (.b (l.all (Ba p))):=by
 have hc:=fun b=>PE (g:=259) (fi:=[]) (ca:=[.rp [TU p L]]) (f:=fun m=> !Ba p m) (xs:=l) b fun y _=>yr p L y
 refine iX kZ ?_;have hs:=Sn
 conv=>whnf
 repeat'((first|clear U K|apply st|(apply zk;intro K U)|refine Pure.use (hc _) ?_|fail)<;>conv=>whnf)
 all_goals exact AJ (by rw[List.all_eq_not_any_not];rfl)
def tc (l:List Int) (b:Bool):Pure zP 216 [.pn,.l (iL l) b] (.b false):=by
 refine iX kZ ?_;have hs:=Sn;exact zW
def qA (p:Prog) (L:Nat) (m n:Int) (hm:Ba p m=true) (hn:Ba p n=true):Pure zP 217 [TU p L,eI m,eI n] (.b (Jk p m n)):=by
 refine Pure.fit (by kernel_rfl) fun hf=>?_
 have hxm:=Cu hm;have hxn:=Cu hn;simp only[Ba,A4,Cp]at hm hn;refine vP kZ ?_;have hs:=Sn
 conv=>whnf
 repeat'((first|clear U K|apply st|(apply zk;intro K U)|refine zY ?_|refine rk ?_ ?_|exact fun s e=>by cases e;rfl|refine zs fun Z hs=>?_|refine za (fun hc=>?_) fun hc=>?_|refine zo fun nn hnn Z hs=>?_|fail)<;>conv=>whnf)
 all_goals exact AJ (by simp[Jk, *])
def o5 {p:Prog} (h:(BN p).isSome=true): ∀x∈p.methods,DL (AI p) x.fact=true:=fun x hx=>by
 have:=(GL h).2 x hx;simp only[Pj,A4]at this;exact this.2.2.2.2.1
def cE (M:List (Int×Int)) (x:Int×Int):List (Int×Int):=if M.contains x then M else M++[x]
def cF (p:Prog) (M:List (Int×Int)) (m n:Int):List (Int×Int):=if JJ p m n then cE (cE M (m,n)) (n,m)else cE M (m,n)
def RD (p:Prog) (L:Nat) (m n:Int) (hk:Cg p) (hgw:Cq (AI p)) (hfm: ∀x∈p.methods,DL (AI p) x.fact=true) (hm:Ba p m=true) (hn:Ba p n=true) (M:List (Int×Int)) :
    BO zP 299 [TU p L,eI m,eI n] [.map L (LB p M)] fun r post=>r= .ret (.b (JJ p m n))/\post= [.map L (LB p (cE M (m,n)))]:=by
 intro Z hs;have hxm:=Cu hm;have hxn:=Cu hn;have hmm:=Cm hxm;have hmn:=Cm hxn;have hip:=eS (AI p) hgw (B3 p m).fact (B3 p n).fact (hfm _ hmm) (hfm _ hmn) (hk.facts _ hmm).1 (hk.facts _ hmn).1 (by have:=(hk.facts _ hmm).2;have:=(hk.facts _ hmn).2;omega);simp only[Ba,A4,Cp]at hm hn;have hfd:=Wj p (m,n) M;refine uQ kZ ?_;cases hc:M.contains (m,n)
 .rw[hc,if_neg (by decide)]at hfd
  conv=>whnf
  repeat'((first|clear U K|apply st|(apply zk;intro K U)|refine zY ?_|refine zs fun Z hs=>?_|refine Nl hs 1 rfl rfl (QS _ _) hfd ?_|refine Ic hs 1 rfl rfl (QS _ _) fun Z hs=>?_|refine hip.use ?_|refine zo fun nn hnn Z hs=>?_|fail)<;>conv=>whnf)
  replace hs:Sat Z [.box nn [eI m,eI n],.map L (DU (kM (m,n)) (.b (JJ p m n)) (LB p M))]:=hs;rw[aP p (m,n) M hc]at hs;exact AH ⟨_,⟨rfl,rfl⟩,by rw[cE,hc];exact hs.less (OS _ _)⟩
 .rw[hc,if_pos rfl]at hfd
  conv=>whnf
  repeat'((first|clear U K|apply st|(apply zk;intro K U)|refine zY ?_|refine zs fun Z hs=>?_|refine Nl hs 1 rfl rfl (QS _ _) hfd ?_|refine zo fun nn hnn Z hs=>?_|fail)<;>conv=>whnf)
  exact AH ⟨_,⟨rfl,rfl⟩,by rw[cE,hc];exact hs.less (OS _ _)⟩
def XD (p:Prog) (L:Nat) (m n:Int) (hk:Cg p) (hgw:Cq (AI p)) (hfm: ∀x∈p.methods,DL (AI p) x.fact=true) (hm:Ba p m=true) (hn:Ba p n=true) (M:List (Int×Int)) :
    BO zP 260 [TU p L,eI m,eI n] [.map L (LB p M)] fun r post=>r= .ret (.b (Ap p m n))/\post= [.map L (LB p (cF p M m n))]:=by
 intro Z hs;have h1:=fun M=>RD p L m n hk hgw hfm hm hn M
 have h2:=fun M=>RD p L n m hk hgw hfm hn hm M
 unfold Ap cF;cases hb1:JJ p m n<;>cases hb2:JJ p n m<;>rw[hb1]at h1<;>rw[hb2]at h2
 all_goals
  refine uk kZ ?_
  conv=>whnf
  repeat'((first|clear U K|apply st|(apply zk;intro K U)|fail)<;>conv=>whnf)
  refine(h1 M).use (rest:=[]) (by simpa using hs) ?_;clear hs;rintro r post Z ⟨rfl,rfl⟩ hs;refine zz ?_;(repeat clear U K);repeat intro K U
 .exact AH ⟨_,⟨rfl,rfl⟩,hs⟩
 .exact AH ⟨_,⟨rfl,rfl⟩,hs⟩
 all_goals
  refine(h2 _).use (rest:=[]) (by simpa using hs) ?_;clear hs;rintro r post Z ⟨rfl,rfl⟩ hs;refine zz ?_;(repeat clear U K);repeat intro K U
  exact AH ⟨_,⟨rfl,rfl⟩,hs⟩
structure bo (T:List (List Bool)) (l:List Int):Prop where
 len:T.length<=16
 sq: ∀r∈T,r.length=T.length
 ins: ∀x∈l,0<=x/\x<(T.length:Int)
 many:l.length<=16
def Kl (A:Int->Int->Bool) (l:List Int) (i k:Nat):Bool:=(List.range k).all fun j=>j==i||A (l.getD i 0) (l.getD j 0)
def Jj (A:Int->Int->Bool) (l:List Int):Option Nat:=(List.range l.length).find? fun i=>Kl A l i l.length
def cJ (A:Int->Int->Bool) (l:List Int) (i k:Nat):Kl A l i (k+1)=(Kl A l i k&&(k==i||A (l.getD i 0) (l.getD k 0))):=by
 rw[Kl,List.range_succ,List.all_append,Kl];simp
def Fa {l:List Int} {k:Nat} {x:Int} (h:l[k]? =some x):l.getD k 0=x:=by rw[DK,h];rfl
def Cb (A:Int->Int->Bool):Nat->List Int->List Int×Bool
 | 0,_=>([],false)
 | k+1,l=>match Jj A l with
   | none=>([],!l.isEmpty)
   | some i=>(l.getD i 0::(Cb A k (l.eraseIdx i)).1,(Cb A k (l.eraseIdx i)).2)
def bo.less {T:List (List Bool)} {l:List Int} (h:bo T l) (i:Nat):bo T (l.eraseIdx i):=
 ⟨h.len,h.sq,fun x hx=>h.ins x (List.mem_of_mem_eraseIdx hx),Nat.le_trans (List.length_eraseIdx_le _ _) h.many⟩
def O6 (x:Int) (out:List Int):List Int:=out.takeWhile (fun y=>decide (y<x))++x::out.dropWhile (fun y=>decide (y<x))
def I0 (l:List Int):List Int:=l.foldl (fun out x=>O6 x out) []
def VL (A:Int->Int->Bool) (l:List Int) (i k:Nat):Bool:=(List.range k).all fun j=> !A (l.getD j 0) (l.getD i 0)
def Te (A:Int->Int->Bool) (l:List Int):Option Nat:=(List.range l.length).find? fun i=>VL A l i l.length
def FL (A:Int->Int->Bool):Nat->List Int->List Int
 | 0,_=>[]
 | k+1,l=>l.getD ((Te A l).getD 0) 0::FL A k (l.eraseIdx ((Te A l).getD 0))
abbrev RW:=Nat×List Bool
def GM {l:List Int} {k:Nat} (h:k<l.length):l.getD k 0∈l:=by
 rw[DK,Dp h];exact List.getElem_mem h
structure rh (n:Nat) (R:List RW):Prop where
 len:R.length=n
 row: ∀r∈R,r.2.length=n
def rh.put {n:Nat} {R:List RW} {r:RW} (h:rh n R) {j k:Nat} {b:Bool} (hr:R[j]? =some r):rh n (R.set j (r.1,r.2.set k b)):=by
 refine⟨by rw[List.length_set];exact h.len,fun q hq=>?_⟩;rcases List.mem_or_eq_of_mem_set hq with hq|rfl
 .exact h.row q hq
 .rw[List.length_set];exact h.row r (Cm hr)
def Lq {f g:Nat->Bool}: ∀ {l:List Nat},(∀x∈l,f x=g x)->l.all f=l.all g
 | [],_=>rfl
 | x::r,h=>by rw[Pg,Pg,h x (.head _),Lq fun y hy=>h y (.tail _ hy)]
def Yh {A B:Int->Int->Bool} {l:List Int} (h: ∀x∈l,∀y∈l,A x y=B x y) {i:Nat} (hi:i<l.length):Kl A l i l.length=Kl B l i l.length:=by
 rw[Kl,Kl];refine Lq fun k hk=>?_
 rw[h _ (GM hi) _ (GM (List.mem_range.1 hk))]
def find_congr {f g:Nat->Bool}: ∀ {l:List Nat},(∀x∈l,f x=g x)->l.find? f=l.find? g
 | [],_=>rfl
 | x::r,h=>by
   rw[List.find?_cons,List.find?_cons,h x (.head _),find_congr fun y hy=>h y (.tail _ hy)]
def U2 {A B:Int->Int->Bool} {l:List Int} (h: ∀x∈l,∀y∈l,A x y=B x y):Jj A l=Jj B l:=
 find_congr fun i hi=>Yh h (List.mem_range.1 hi)
def NI {A B:Int->Int->Bool}: ∀(k:Nat) (l:List Int),(∀x∈l,∀y∈l,A x y=B x y)->Cb A k l=Cb B k l
 | 0,_,_=>rfl
 | k + 1,l,h=>by
   rw[Cb,Cb,U2 h];cases Jj B l with
   | none=>rfl
   | some i=>
     dsimp only;rw[NI k (l.eraseIdx i) fun x hx y hy=>h x (List.mem_of_mem_eraseIdx hx) y (List.mem_of_mem_eraseIdx hy)]
def Y0 {A B:Int->Int->Bool} {l:List Int} (h: ∀x∈l,∀y∈l,A x y=B x y):Te A l=Te B l:=
 find_congr fun i hi=>by
  rw[VL,VL];refine Lq fun k hk=>?_
  rw[h _ (GM (List.mem_range.1 hk)) _ (GM (List.mem_range.1 hi))]
def Rb {A B:Int->Int->Bool}: ∀(k:Nat) (l:List Int),(∀x∈l,∀y∈l,A x y=B x y)->FL A k l=FL B k l
 | 0,_,_=>rfl
 | k+1,l,h=>by
   rw[FL,FL,Y0 h,Rb k (l.eraseIdx _) fun x hx y hy=>h x (List.mem_of_mem_eraseIdx hx) y (List.mem_of_mem_eraseIdx hy)]
def QV {x y:Int} {out:List Int}:y∈O6 x out↔y=x\/y∈out:=by
 have h:=List.takeWhile_append_dropWhile (p:=fun y=>decide (y<x)) (l:=out);rw[O6];constructor
 .intro hy
  rcases Ds.1 hy with hy|hy
  .right;rw[<-h];exact OT _ hy
  .rcases Fg.1 hy with rfl|hy
   .exact .inl rfl
   .right;rw[<-h];exact NO _ hy
 .rintro(rfl|hy)
  .exact NO _ (.head _)
  .rw[<-h]at hy
   rcases Ds.1 hy with hy|hy
   .exact OT _ hy
   .exact NO _ (.tail _ hy)
def RJ: ∀(l out:List Int) (y:Int),y∈l.foldl (fun out x=>O6 x out) out↔y∈l\/y∈out
 | [],out,y=>by simp
 | x ::r,out,y=>by
   rw[List.foldl_cons,RJ r,QV,Fg];constructor
   .rintro(h|h|h)
    .exact .inl (.inr h)
    .exact .inl (.inl h)
    .exact .inr h
   .rintro((h|h)|h)
    .exact .inr (.inl h)
    .exact .inl h
    .exact .inr (.inr h)
def N2 {l:List Int} {y:Int}:y∈I0 l↔y∈l:=by rw[I0,RJ];simp
structure T2 (p:Prog) (l:List Int):Prop where
 I4: ∀x∈l,Ba p x=true
 alike: ∀x∈l,∀y∈l,Jk p x y=true
 many:l.length<=16
def lB (g:FuncId) (fi ca:List V) (q:Int->Bool) (xs:List Int) (hpf: ∀y∈xs,Pure zP g (fi++[eI y]++ca) (.b (q y))) (f:Bool) (hxl:xs.length<=1000):Pure zP 300 [.l (iL xs) f,.f (.func g) fi ca] (.l (iL (xs.filter q)) true):=by
 refine Pure.of ?_;have hM:=Mx;refine uP kZ ?_;have hs:=Sn;refine zz ?_;(repeat clear U K);repeat intro K U
 refine Cn xs.length (fun k v=>[(5,v),(10,eI (BR k))]) (fun k v=>[.own v 1 (iL ((xs.take k).filter q))]) (fun _ _=>True) (.l [] true) rfl trivial (IU hs 1) ?_;clear hs;rintro k v Z hk - hs;have hfl:=Xv q (xs.take k);rw[Lv]at hfl;rcases BK xs hk with⟨y,hy,hlt⟩|hke
 .have hpy:=hpf y (Cm hy)
  have hst:(xs.take (k+1)).filter q=if q y then(xs.take k).filter q++[y]else(xs.take k).filter q:=by
   rw[AU hy,List.filter_append];cases hp:q y<;>simp[hp]
  generalize (xs.take k).filter q=zl at *;have hll:zl.length<Ad/\(zl.length+1)*8<=140737488355328:=by omega
  conv=>whnf
  repeat'((first|clear U K|apply st|(apply zk;intro K U)|refine zY ?_|refine aq fun v Z hs hsl=>?_|refine BH (hpy.use ?_)|refine za (fun hc=>?_) fun hc=>?_|fail)<;>conv=>whnf)
  .rw[if_pos (by assumption)]at hst
   exact⟨hlt,_,rfl,trivial,by rw[hst];exact hs⟩
  .rw[if_neg (by simp[*])]at hst
   exact⟨hlt,_,rfl,trivial,by rw[hst];exact hs⟩
 .rw[BI hke]at hs
  refine zz ?_;(repeat clear U K);repeat intro K U
  refine(QF (xs.filter q) v (by have:=Xv q xs;omega)).use (rest:=[]) (by simpa using hs) ?_;clear hs;rintro r post Z ⟨rfl,rfl⟩ hs;refine zz ?_;(repeat clear U K);repeat intro K U
  exact AH (by rfl)
def yi (x y:Int):Pure zP 301 [eI y,.rp [eI x]] (.b (y != x)):=by
 refine uO kZ ?_;have hs:=Sn;refine zz ?_;(repeat clear U K);repeat intro K U
 all_goals exact AJ (by rfl)
def Nx (xs:List Int) (f:Bool) (x:Int) (hxl:xs.length<=1000):Pure zP 261 [.l (iL xs) f,eI x] (.l (iL (xs.filter (· != x))) true):=by
 have c1:=lB 301 [] [.rp [eI x]] (· != x) xs (fun y _=>yi x y) f hxl;refine uj kZ ?_;have hs:=Sn
 conv=>whnf
 repeat'((first|clear U K|apply st|(apply zk;intro K U)|refine zC ?_|fail)<;>conv=>whnf)
 all_goals exact AJ (by rfl)
def GI: ∀ {l:List Int} {i:Nat} {x:Int},l.Nodup->l[i]? =some x->l.filter (· != x)=l.eraseIdx i
 | y::r,0,x,hn,hx=>by
   obtain rfl:y=x:=by simpa using hx
   rw[List.nodup_cons]at hn;rw[List.filter_cons,if_neg (by simp),List.eraseIdx_cons_zero];exact List.filter_eq_self.2 fun z hz=>by rw[zrJ];rintro rfl;exact hn.1 hz
 | y::r,i+1,x,hn,hx=>by
   rw[List.nodup_cons]at hn;rw[xX]at hx;have hyx:y≠x:=fun e=>hn.1 (e ▸ Cm hx)
   rw[List.filter_cons,if_pos (by simpa using hyx),List.eraseIdx_cons_succ,GI hn.2 hx]
def de {A:Int->Int->Bool} {l:List Int} {i:Nat} (hi:i<l.length) (h:Kl A l i l.length=true) (hn: ∀j,j<i->Kl A l j l.length=false):Jj A l=some i:=by
 rw[Jj,List.find?_range_eq_some];exact⟨h,List.mem_range.2 hi,fun j hj=>by rw[hn j hj];rfl⟩
def dd {A:Int->Int->Bool} {l:List Int} (hn: ∀j,j<l.length->Kl A l j l.length=false):Jj A l=none:=by
 rw[Jj,List.find?_range_eq_none];exact fun j hj=>by rw[hn j hj];rfl
def mu {A:Int->Int->Bool} {l:List Int} {i k n:Nat} (hk:k<n) (h:(k==i||A (l.getD i 0) (l.getD k 0))=false):Kl A l i n=false:=by
 rw[Kl,<-Bool.not_eq_true,Dj];intro h2;rw[h2 k (List.mem_range.2 hk)]at h;cases h
def kF {l:List Int} (hn:l.Nodup) {i k:Nat} {x y:Int} (hx:l[i]? =some x) (hy:l[k]? =some y) (h:k≠i):x≠y:=by
 rintro rfl;have hi:=(JM.1 hx)
 have hj:=(JM.1 hy)
 have:=(List.nodup_iff_pairwise_ne.1 hn)
 rw[List.pairwise_iff_getElem]at this;rcases Nat.lt_or_gt_of_ne h with h'|h'
 .exact this k i hj.1 hi.1 h' (by rw[hj.2,hi.2])
 .exact this i k hi.1 hj.1 h' (by rw[hj.2,hi.2])
def bH (p : Prog) (L:Nat) (l:List Int) (f:Bool) (hok:Cg p) (hgw:Cq (AI p)) (hfm: ∀x∈p.methods,DL (AI p) x.fact=true) (hl:T2 p l) (hnd:l.Nodup) (M:List (Int×Int)) :
    BO zP 218 [TU p L,.l (iL l) f] [.map L (LB p M)] fun r post=>r= .ret (.t [.l (iL (Cb (Ap p) l.length l).1) true,.b (Cb (Ap p) l.length l).2])/\ ∃M',post= [.map L (LB p M')]:=by
 intro Z hs;have hM:=Mx;refine vO kZ ?_;refine zz ?_;(repeat clear U K);repeat intro K U
 refine GU (fun(x:List Int×Bool×V×List Int×List (Int×Int))=>x.1.length) (fun x=>[(1,.l (iL x.1) x.2.1),(6,x.2.2.1)]) (fun x=>[.own x.2.2.1 1 (iL x.2.2.2.1),.map L (LB p x.2.2.2.2)])
  (fun x=>(∀y∈x.1,Ba p y=true)/\x.1.Nodup/\x.2.2.2.1.length+x.1.length<=16/\Cb (Ap p) l.length l=(x.2.2.2.1++(Cb (Ap p) x.1.length x.1).1,(Cb (Ap p) x.1.length x.1).2)) (l,f,.l [] true,[],M) rfl ⟨hl.I4,hnd,by simpa using hl.many,by simp⟩ (DF hs 1) ?_
 clear hs;rintro⟨l',f',v,out,M⟩ Z ⟨hme,hn,hlen,hm⟩ hs;dsimp only at hme hn hlen hm hs;dsimp only;have hll:out.length<Ad/\(out.length+1)*8<=140737488355328:=by omega
 by_cases hz:l'.length=0
 .rw[hz]at hm
  simp only[Cb,FE]at hm
  conv=>whnf
  repeat'((first|clear U K|apply st|(apply zk;intro K U)|refine zY ?_|(refine zb (fun hc=>?_) (fun hc=>?_)<;>try exact⟨⟩)|fail)<;>conv=>whnf)
  refine(QF out v (by omega)).use (rest:=[_]) hs ?_;clear hs;rintro r post Z ⟨rfl,rfl⟩ hs;refine zz ?_;(repeat clear U K);repeat intro K U
  exact AH ⟨_,⟨by rw[hm],M,rfl⟩,hs⟩
 .obtain ⟨n,hnn⟩: ∃n,l'.length=n+1:=⟨l'.length - 1,by omega⟩
  have hne:l'.isEmpty=false:=by cases l' with
   | nil=>simp at hz
   | cons=>rfl
  rw[hnn,Cb]at hm
  conv=>whnf
  repeat'((first|clear U K|apply st|(apply zk;intro K U)|refine zY ?_|(refine zb (fun hc=>?_) (fun hc=>?_)<;>try exact⟨⟩)|fail)<;>conv=>whnf)
  refine Cn l'.length (fun i (_:List (Int×Int))=>[(16,eI (BR i))]) (fun _ M=>[.own v 1 (iL out),.map L (LB p M)]) (fun i _=> ∀j,j<i->Kl (Ap p) l' j l'.length=false) M rfl (fun j h=>by omega) hs ?_;clear hs;rintro i M Z hi hno hs;rcases BK l' hi with⟨x,hx,hlt⟩|hie
  .have hmx:=hme x (Cm hx)
   refine zz ?_;(repeat clear U K);repeat intro K U
   refine Cn l'.length (fun k (_:List (Int×Int))=>[(22,eI (BR k))]) (fun _ M=>[.own v 1 (iL out),.map L (LB p M)]) (fun k _=>Kl (Ap p) l' i k=true) M rfl rfl hs ?_;clear hs;rintro k M Z hk htop hs;rcases BK l' hk with⟨y,hy,hklt⟩|hke
   .have hmy:=hme y (Cm hy)
    have hsu:=cJ (Ap p) l' i k;rw[Fa hx,Fa hy,htop,Du]at hsu;by_cases hki:k=i
    .obtain rfl:x=y:=by
      rw[hki,hx]at hy;exact Option.some.inj hy
     conv=>whnf
     repeat'((first|clear U K|apply st|(apply zk;intro K U)|refine zY ?_|(refine zb (fun hc=>?_) (fun hc=>?_)<;>try exact⟨⟩)|fail)<;>conv=>whnf)
     exact⟨hklt,M,rfl,by rw[hsu,hki];simp,hs⟩
    .have hxy:=kF hn hx hy hki
     have c5:=XD p L x y hok hgw hfm hmx hmy M;cases hah:Ap p x y<;>rw[hah]at c5
     all_goals
      conv=>whnf
      repeat'((first|clear U K|apply st|(apply zk;intro K U)|refine zY ?_|(refine zb (fun hc=>?_) (fun hc=>?_)<;>try exact⟨⟩)|fail)<;>conv=>whnf)
      refine c5.use (rest:=[_]) (hs.perm (.swap _ _ _)) ?_;clear hs;rintro r post Z ⟨rfl,rfl⟩ hs;refine zz ?_;(repeat clear U K);repeat intro K U
     .refine⟨hlt,_,rfl,fun j hj=>?_,hs.perm (.swap _ _ _)⟩
      rcases Nat.lt_or_ge j i with h'|h'
      .exact hno j h'
      .rw[show j=i by omega]
       exact mu hklt (by rw[Fa hx,Fa hy,hah];simpa using hki)
     .exact⟨hklt,_,rfl,by rw[hsu,hah];simp,hs.perm (.swap _ _ _)⟩
   .have c1:=Nx l' f' x (by omega)
    rw[GI hn hx]at c1;have hel:=List.length_eraseIdx_of_lt hlt;rw[de hlt (hke ▸ htop) hno]at hm;dsimp only at hm;rw[Fa hx]at hm
    conv=>whnf
    repeat'((first|clear U K|apply st|(apply zk;intro K U)|refine zY ?_|refine aq fun v Z hs hsl=>?_|refine zC ?_|fail)<;>conv=>whnf)
    refine⟨(l'.eraseIdx i,true,v,out++[x],M),by dsimp only;omega,rfl,⟨fun y hy=>hme y (List.mem_of_mem_eraseIdx hy),hn.sublist (List.eraseIdx_sublist _ _),by simp;omega,?_⟩,hs⟩;dsimp only;rw[hm,hel,show l'.length - 1=n by omega];simp
  .rw[dd fun j hj=>hno j (by omega)]at hm
   dsimp only at hm;rw[hne,FE]at hm;refine zz ?_;(repeat clear U K);repeat intro K U
   refine(QF out v (by omega)).use (rest:=[_]) hs ?_;clear hs;rintro r post Z ⟨rfl,rfl⟩ hs;refine zz ?_;(repeat clear U K);repeat intro K U
   exact AH ⟨_,⟨by rw[hm];rfl,M,rfl⟩,hs⟩
end Go.Gl
