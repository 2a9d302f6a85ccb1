import Derived.Test.YtinppljblkpedaaGreatU14
import Derived.Test.YtinppljblkpedaaGreatU15
import Derived.Test.YtinppljblkpedaaGreatU18
import Derived.Test.YtinppljblkpedaaGreatU20
import Derived.Test.YtinppljblkpedaaGreatU23
import Derived.Test.YtinppljblkpedaaGreatU24
import Derived.Test.YtinppljblkpedaaGreatU25
import Derived.Test.YtinppljblkpedaaGreatU28
import Derived.Test.YtinppljblkpedaaGreatU30
import Derived.Test.YtinppljblkpedaaGreatU32
import Derived.Test.YtinppljblkpedaaGreatU33
set_option linter.all false
set_option linter.defProp false
set_option maxHeartbeats 8000000
noncomputable section
namespace Go.Gl
open Go.Proofs
attribute [local irreducible] As Ag AY AQ AL AX AP AR AK AW AM AN Ai Ap Sat AT An AZ W
abbrev rkC (p:Prog) (L:Nat):List V:=BF p++(A5 (AH p)++[.m L])
abbrev Tb (p:Prog) (L:Nat):V:= .rp (rkC p L)
abbrev kM (x:Int×Int):V:= .a [eI x.1,eI x.2]
def LZ (p:Prog) (M:List (Int×Int)):List (V×V):=M.map fun x=>(kM x,.b (K8 p x.1 x.2))
def QX (p:Prog) (M:List (Int×Int)): ∀kv∈LZ p M,Bl (.a [.i64,.i64]) kv.1=true:=by
 intro kv h;obtain⟨e,_,rfl⟩:=GK.1 h;rfl
def qz (x y:Int×Int):Dw (kM x) (kM y)=(x==y):=by
 obtain⟨a,b⟩:=x;obtain⟨c,d⟩:=y;have e:Dw (kM (a,b)) (kM (c,d))=(a==c&&b==d):=by simp[Dw,CI,kM]
 rw[e];rfl
def Wf (p:Prog) (x:Int×Int): ∀(M:List (Int×Int)),Cz (kM x) (LZ p M)=if M.contains x then some (.b (K8 p x.1 x.2))else none
 | []=>rfl
 | y ::r=>by
   rw[LZ,CK,Cz,qz,List.contains_cons];cases h:x==y
   .rw[cond_false,Bool.false_or]
    exact Wf p x r
   .rw[cond_true,Bool.true_or,if_pos rfl]
    have:x=y:=by simpa using h
    rw[this]
def av (p:Prog) (x:Int×Int): ∀(M:List (Int×Int)),M.contains x=false->Du (kM x) (.b (K8 p x.1 x.2)) (LZ p M)=LZ p (M++[x])
 | [],_=>rfl
 | y::r,h=>by
   rw[List.contains_cons,Bool.or_eq_false_iff]at h;have ih:=av p x r h.2;simp only[LZ]at ih;rw[LZ,CK,Du,qz,h.1,cond_false,ih];rfl
def kQ (p:Prog):BL zP 259 [.a (BF p)] [] fun r post=>if(BQ p).isSome then∃L,r= .ret (Tb p L)/\post= [.map L []]else r= .ret .pn/\post= []:=by
 intro Z hs;have hw:=PU p;cases h:(BQ p).isSome<;>rw[h]at hw
 .simp only[JX,if_false]at hw ⊢
  refine im kZ ?_
  conv=>whnf
  repeat'((first|clear U K|apply st|(apply zk;intro K U)|refine zY ?_|refine zs fun Z hs=>?_|refine hw.use ?_|(refine zb (fun hc=>?_) (fun hc=>?_)<;>try exact⟨⟩)|refine zo fun nn hnn Z hs=>?_|fail)<;>conv=>whnf)
  exact AJ ⟨_,⟨rfl,rfl⟩,hs.less (Oq _)⟩
 .simp only[if_true]at hw ⊢
  refine im kZ ?_
  conv=>whnf
  repeat'((first|clear U K|apply st|(apply zk;intro K U)|refine zY ?_|refine zs fun Z hs=>?_|refine hw.use ?_|(refine zb (fun hc=>?_) (fun hc=>?_)<;>try exact⟨⟩)|refine zo fun nn hnn Z hs=>?_|fail)<;>conv=>whnf)
  exact AJ ⟨_,⟨nn,rfl,rfl⟩,hs.less (.cons₂ _ (Oq _))⟩
def zx (p:Prog) (L:Nat) (m:Int):Pure zP 357 [eI m,.rp [Tb p L]] (.b (!Bd p m)):=by
 refine ur kZ ?_;have hs:=Sn
 conv=>whnf
 repeat'((first|clear U K|apply st|(apply zk;intro K U)|refine zY ?_|refine za (fun hc=>?_) fun hc=>?_|fail)<;>conv=>whnf)
 .refine AG ?_
  have e1:decide (0<=m)=true:=decide_eq_true hc;rw[Bd,e1,Cc,Bc];show V.b (decide (m≥(p.methods.length:Int)))=_;by_cases hl:m<(p.methods.length:Int)
  .rw[decide_eq_true hl,decide_eq_false (by omega)];rfl
  .rw[decide_eq_false hl,decide_eq_true (by omega)];rfl
 .refine AG ?_
  rw[Bd,decide_eq_false (by omega)];rfl
def JV {g:FuncId} {fi ca:List V} {f:Int->Bool} {xs:List Int} (b:Bool) (h: ∀y∈xs,Pure zP g (fi++[eI y]++ca) (.b (f y))):Pure zP 102 [.l (iL xs) b,.f (.func g) fi ca] (.b (xs.any f)):=by
 have:=HA g fi ca (fun _=>[]) (fun y (_:Unit)=>(f y,())) (fun y _=>y∈xs) (Qz fun y hy=>h y hy) xs b () (Hs fun y hy _=>hy);rw[M5]at this;exact Pure.of (As.mono (this emp Sat.nil) fun r Z' ⟨post,⟨h1,h2⟩,h3⟩=>h1)
def zy (p:Prog) (L:Nat) (l:List Int) (b:Bool):Pure zP 317 [Tb p L,.l (iL l) b] (.b (l.all (Bd p))):=by
 have hc:=fun b=>JV (g:=357) (fi:=[]) (ca:=[.rp [Tb p L]]) (f:=fun m=> !Bd p m) (xs:=l) b fun y _=>zx p L y
 refine ib kZ ?_;have hs:=Sn
 conv=>whnf
 repeat'((first|clear U K|apply st|(apply zk;intro K U)|refine Pure.use (hc _) ?_|fail)<;>conv=>whnf)
 all_goals exact AG (by rw[List.all_eq_not_any_not];rfl)
def uC (l:List Int) (b:Bool):Pure zP 317 [.pn,.l (iL l) b] (.b false):=by
 refine ib kZ ?_;have hs:=Sn;exact zW
def qR (p:Prog) (L:Nat) (m n:Int) (hm:Bd p m=true) (hn:Bd p n=true):Pure zP 318 [Tb p L,eI m,eI n] (.b (Lh p m n)):=by
 refine Pure.fit (by kernel_rfl) fun hf=>?_
 have hxm:=Cm hm;have hxn:=Cm hn;simp only[Bd,A4,B7]at hm hn;refine vG kZ ?_;have hs:=Sn
 conv=>whnf
 repeat'((first|clear U K|apply st|(apply zk;intro K U)|refine zY ?_|refine rk ?_ ?_|exact fun s e=>by cases e;rfl|refine zs fun Z hs=>?_|refine za (fun hc=>?_) fun hc=>?_|refine zo fun nn hnn Z hs=>?_|fail)<;>conv=>whnf)
 all_goals exact AG (by simp[Lh, *])
def pc {p:Prog} (h:(BQ p).isSome=true): ∀x∈p.methods,Ba (AH p) x.fact=true:=fun x hx=>by
 have:=(Ex h).2 x hx;simp only[PZ,A4]at this;exact this.2.2.2.2.1
def cY (M:List (Int×Int)) (x:Int×Int):List (Int×Int):=if M.contains x then M else M++[x]
def cZ (p:Prog) (M:List (Int×Int)) (m n:Int):List (Int×Int):=if K8 p m n then cY (cY M (m,n)) (n,m)else cY M (m,n)
def RL (p:Prog) (L:Nat) (m n:Int) (hk:FC p) (hgw:BR (AH p)) (hfm: ∀x∈p.methods,Ba (AH p) x.fact=true) (hm:Bd p m=true) (hn:Bd p n=true) (M:List (Int×Int)) :
    BL zP 387 [Tb p L,eI m,eI n] [.map L (LZ p M)] fun r post=>r= .ret (.b (K8 p m n))/\post= [.map L (LZ p (cY M (m,n)))]:=by
 intro Z hs;have hxm:=Cm hm;have hxn:=Cm hn;have hmm:=B6 hxm;have hmn:=B6 hxn;have hip:=e9 (AH p) hgw (BY p m).fact (BY p n).fact (hfm _ hmm) (hfm _ hmn) (hk.facts _ hmm).1 (hk.facts _ hmn).1 (by have:=(hk.facts _ hmm).2;have:=(hk.facts _ hmn).2;omega);simp only[Bd,A4,B7]at hm hn;have hfd:=Wf p (m,n) M;refine ub kZ ?_;cases hc:M.contains (m,n)
 .rw[hc,if_neg (by decide)]at hfd
  conv=>whnf
  repeat'((first|clear U K|apply st|(apply zk;intro K U)|refine zY ?_|refine zs fun Z hs=>?_|refine Ni hs 1 rfl rfl (QX _ _) hfd ?_|refine Hb hs 1 rfl rfl (QX _ _) fun Z hs=>?_|refine hip.use ?_|refine zo fun nn hnn Z hs=>?_|fail)<;>conv=>whnf)
  replace hs:Sat Z [.box nn [eI m,eI n],.map L (Du (kM (m,n)) (.b (K8 p m n)) (LZ p M))]:=hs;rw[av p (m,n) M hc]at hs;exact AJ ⟨_,⟨rfl,rfl⟩,by rw[cY,hc];exact hs.less (Gg _ _)⟩
 .rw[hc,if_pos rfl]at hfd
  conv=>whnf
  repeat'((first|clear U K|apply st|(apply zk;intro K U)|refine zY ?_|refine zs fun Z hs=>?_|refine Ni hs 1 rfl rfl (QX _ _) hfd ?_|refine zo fun nn hnn Z hs=>?_|fail)<;>conv=>whnf)
  exact AJ ⟨_,⟨rfl,rfl⟩,by rw[cY,hc];exact hs.less (Gg _ _)⟩
def XF (p:Prog) (L:Nat) (m n:Int) (hk:FC p) (hgw:BR (AH p)) (hfm: ∀x∈p.methods,Ba (AH p) x.fact=true) (hm:Bd p m=true) (hn:Bd p n=true) (M:List (Int×Int)) :
    BL zP 358 [Tb p L,eI m,eI n] [.map L (LZ p M)] fun r post=>r= .ret (.b (Az p m n))/\post= [.map L (LZ p (cZ p M m n))]:=by
 intro Z hs;have h1:=fun M=>RL p L m n hk hgw hfm hm hn M
 have h2:=fun M=>RL p L n m hk hgw hfm hn hm M
 unfold Az cZ;cases hb1:K8 p m n<;>cases hb2:K8 p n m<;>rw[hb1]at h1<;>rw[hb2]at h2
 all_goals
  refine uq kZ ?_
  conv=>whnf
  repeat'((first|clear U K|apply st|(apply zk;intro K U)|fail)<;>conv=>whnf)
  refine(h1 M).use (rest:=[]) (by simpa using hs) ?_;clear hs;rintro r post Z ⟨rfl,rfl⟩ hs;refine zz ?_;(repeat clear U K);repeat intro K U
 .exact AJ ⟨_,⟨rfl,rfl⟩,hs⟩
 .exact AJ ⟨_,⟨rfl,rfl⟩,hs⟩
 all_goals
  refine(h2 _).use (rest:=[]) (by simpa using hs) ?_;clear hs;rintro r post Z ⟨rfl,rfl⟩ hs;refine zz ?_;(repeat clear U K);repeat intro K U
  exact AJ ⟨_,⟨rfl,rfl⟩,hs⟩
def cN (A:Int->Int->Bool) (l:List Int) (i k:Nat):Bool:=(List.range k).all fun j=> !A (l.getD j 0) (l.getD i 0)
def X8 (A:Int->Int->Bool) (l:List Int):Option Nat:=(List.range l.length).find? fun i=>cN A l i l.length
def Ho (A:Int->Int->Bool):Nat->List Int->List Int
 | 0,_=>[]
 | k+1,l=>l.getD ((X8 A l).getD 0) 0::Ho A k (l.eraseIdx ((X8 A l).getD 0))
abbrev RW:=Nat×List Bool
def S8 {l:List Int} {k:Nat} (h:k<l.length):l.getD k 0∈l:=by
 rw[Cq,Cd h];exact List.getElem_mem h
structure r7 (n:Nat) (R:List RW):Prop where
 len:R.length=n
 row: ∀r∈R,r.2.length=n
def r7.put {n:Nat} {R:List RW} {r:RW} (h:r7 n R) {j k:Nat} {b:Bool} (hr:R[j]? =some r):r7 n (R.set j (r.1,r.2.set k b)):=by
 refine⟨by rw[List.length_set];exact h.len,fun q hq=>?_⟩;rcases List.mem_or_eq_of_mem_set hq with hq|rfl
 .exact h.row q hq
 .rw[List.length_set];exact h.row r (B6 hr)
def find_congr {f g:Nat->Bool}: ∀ {l:List Nat},(∀x∈l,f x=g x)->l.find? f=l.find? g
 | [],_=>rfl
 | x::r,h=>by
   rw[List.find?_cons,List.find?_cons,h x (.head _),find_congr fun y hy=>h y (.tail _ hy)]
def Qa {x y:Int} {out:List Int}:y∈Oz x out↔y=x\/y∈out:=by
 have h:=List.takeWhile_append_dropWhile (p:=fun y=>decide (y<x)) (l:=out);rw[Oz];constructor
 .intro hy
  rcases Dn.1 hy with hy|hy
  .right;rw[<-h];exact NS _ hy
  .rcases Ep.1 hy with rfl|hy
   .exact .inl rfl
   .right;rw[<-h];exact NR _ hy
 .rintro(rfl|hy)
  .exact NR _ (.head _)
  .rw[<-h]at hy
   rcases Dn.1 hy with hy|hy
   .exact NS _ hy
   .exact NR _ (.tail _ hy)
def RR: ∀(l out:List Int) (y:Int),y∈l.foldl (fun out x=>Oz x out) out↔y∈l\/y∈out
 | [],out,y=>by simp
 | x ::r,out,y=>by
   rw[List.foldl_cons,RR r,Qa,Ep];constructor
   .rintro(h|h|h)
    .exact .inl (.inr h)
    .exact .inl (.inl h)
    .exact .inr h
   .rintro((h|h)|h)
    .exact .inr (.inl h)
    .exact .inl h
    .exact .inr (.inr h)
def dD {l:List Int} {y:Int}:y∈LF l↔y∈l:=by rw[LF,RR];simp
structure T6 (p:Prog) (l:List Int):Prop where
 MN: ∀x∈l,Bd p x=true
 alike: ∀x∈l,∀y∈l,Lh p x y=true
 many:l.length<=16
def lk (g:FuncId) (fi ca:List V) (q:Int->Bool) (xs:List Int) (hpf: ∀y∈xs,Pure zP g (fi++[eI y]++ca) (.b (q y))) (f:Bool) (hxl:xs.length<=1000):Pure zP 388 [.l (iL xs) f,.f (.func g) fi ca] (.l (iL (xs.filter q)) true):=by
 refine Pure.of ?_;have hM:=Mx;refine ua kZ ?_;have hs:=Sn;refine zz ?_;(repeat clear U K);repeat intro K U
 refine B4 xs.length (fun k v=>[(5,v),(10,eI (A7 k))]) (fun k v=>[.own v 1 (iL ((xs.take k).filter q))]) (fun _ _=>True) (.l [] true) rfl trivial (EY hs 1) ?_;clear hs;rintro k v Z hk - hs;have hfl:=TZ q (xs.take k);rw[Je]at hfl;rcases A9 xs hk with⟨y,hy,hlt⟩|hke
 .have hpy:=hpf y (B6 hy)
  have hst:(xs.take (k+1)).filter q=if q y then(xs.take k).filter q++[y]else(xs.take k).filter q:=by
   rw[AU hy,List.filter_append];cases hp:q y<;>simp[hp]
  generalize (xs.take k).filter q=zl at *;have hll:zl.length<Ab/\(zl.length+1)*8<=140737488355328:=by omega
  conv=>whnf
  repeat'((first|clear U K|apply st|(apply zk;intro K U)|refine zY ?_|refine aq fun v Z hs hsl=>?_|refine A0 (hpy.use ?_)|refine za (fun hc=>?_) fun hc=>?_|fail)<;>conv=>whnf)
  .rw[if_pos (by assumption)]at hst
   exact⟨hlt,_,rfl,trivial,by rw[hst];exact hs⟩
  .rw[if_neg (by simp[*])]at hst
   exact⟨hlt,_,rfl,trivial,by rw[hst];exact hs⟩
 .rw[BA hke]at hs
  refine zz ?_;(repeat clear U K);repeat intro K U
  refine(QA (xs.filter q) v (by have:=TZ q xs;omega)).use (rest:=[]) (by simpa using hs) ?_;clear hs;rintro r post Z ⟨rfl,rfl⟩ hs;refine zz ?_;(repeat clear U K);repeat intro K U
  exact AJ (by rfl)
def zS (x y:Int):Pure zP 389 [eI y,.rp [eI x]] (.b (y != x)):=by
 refine uZ kZ ?_;have hs:=Sn;refine zz ?_;(repeat clear U K);repeat intro K U
 all_goals exact AG (by rfl)
def Np (xs:List Int) (f:Bool) (x:Int) (hxl:xs.length<=1000):Pure zP 359 [.l (iL xs) f,eI x] (.l (iL (xs.filter (· != x))) true):=by
 have c1:=lk 389 [] [.rp [eI x]] (· != x) xs (fun y _=>zS x y) f hxl;refine uo kZ ?_;have hs:=Sn
 conv=>whnf
 repeat'((first|clear U K|apply st|(apply zk;intro K U)|refine zC ?_|fail)<;>conv=>whnf)
 all_goals exact AG (by rfl)
def GW: ∀ {l:List Int} {i:Nat} {x:Int},l.Nodup->l[i]? =some x->l.filter (· != x)=l.eraseIdx i
 | y::r,0,x,hn,hx=>by
   obtain rfl:y=x:=by simpa using hx
   rw[List.nodup_cons]at hn;rw[List.filter_cons,if_neg (by simp),List.eraseIdx_cons_zero];exact List.filter_eq_self.2 fun z hz=>by rw[zrJ];rintro rfl;exact hn.1 hz
 | y::r,i+1,x,hn,hx=>by
   rw[List.nodup_cons]at hn;rw[qW]at hx;have hyx:y≠x:=fun e=>hn.1 (e ▸ B6 hx)
   rw[List.filter_cons,if_pos (by simpa using hyx),List.eraseIdx_cons_succ,GW hn.2 hx]
def eO {A:Int->Int->Bool} {l:List Int} {i:Nat} (hi:i<l.length) (h:Ov A l i l.length=true) (hn: ∀j,j<i->Ov A l j l.length=false):P8 A l=some i:=by
 rw[P8,List.find?_range_eq_some];exact⟨h,List.mem_range.2 hi,fun j hj=>by rw[hn j hj];rfl⟩
def eN {A:Int->Int->Bool} {l:List Int} (hn: ∀j,j<l.length->Ov A l j l.length=false):P8 A l=none:=by
 rw[P8,List.find?_range_eq_none];exact fun j hj=>by rw[hn j hj];rfl
def ng {A:Int->Int->Bool} {l:List Int} {i k n:Nat} (hk:k<n) (h:(k==i||A (l.getD i 0) (l.getD k 0))=false):Ov A l i n=false:=by
 rw[Ov,<-Bool.not_eq_true,Cu];intro h2;rw[h2 k (List.mem_range.2 hk)]at h;cases h
def k8 {l:List Int} (hn:l.Nodup) {i k:Nat} {x y:Int} (hx:l[i]? =some x) (hy:l[k]? =some y) (h:k≠i):x≠y:=by
 rintro rfl;have hi:=(Ip.1 hx)
 have hj:=(Ip.1 hy)
 have:=(List.nodup_iff_pairwise_ne.1 hn)
 rw[List.pairwise_iff_getElem]at this;rcases Nat.lt_or_gt_of_ne h with h'|h'
 .exact this k i hj.1 hi.1 h' (by rw[hj.2,hi.2])
 .exact this i k hi.1 hj.1 h' (by rw[hj.2,hi.2])
def bc (p : Prog) (L:Nat) (l:List Int) (f:Bool) (hok:FC p) (hgw:BR (AH p)) (hfm: ∀x∈p.methods,Ba (AH p) x.fact=true) (hl:T6 p l) (hnd:l.Nodup) (M:List (Int×Int)) :
    BL zP 319 [Tb p L,.l (iL l) f] [.map L (LZ p M)] fun r post=>r= .ret (.t [.l (iL (DU (Az p) l.length l).1) true,.b (DU (Az p) l.length l).2])/\ ∃M',post= [.map L (LZ p M')]:=by
 intro Z hs;have hM:=Mx;refine vF kZ ?_;refine zz ?_;(repeat clear U K);repeat intro K U
 refine Ff (fun(x:List Int×Bool×V×List Int×List (Int×Int))=>x.1.length) (fun x=>[(1,.l (iL x.1) x.2.1),(6,x.2.2.1)]) (fun x=>[.own x.2.2.1 1 (iL x.2.2.2.1),.map L (LZ p x.2.2.2.2)])
  (fun x=>(∀y∈x.1,Bd p y=true)/\x.1.Nodup/\x.2.2.2.1.length+x.1.length<=16/\DU (Az p) l.length l=(x.2.2.2.1++(DU (Az p) x.1.length x.1).1,(DU (Az p) x.1.length x.1).2)) (l,f,.l [] true,[],M) rfl ⟨hl.MN,hnd,by simpa using hl.many,by simp⟩ (Ch hs 1) ?_
 clear hs;rintro⟨l',f',v,out,M⟩ Z ⟨hme,hn,hlen,hm⟩ hs;dsimp only at hme hn hlen hm hs;dsimp only;have hll:out.length<Ab/\(out.length+1)*8<=140737488355328:=by omega
 by_cases hz:l'.length=0
 .rw[hz]at hm
  simp only[DU,D8]at hm
  conv=>whnf
  repeat'((first|clear U K|apply st|(apply zk;intro K U)|refine zY ?_|(refine zb (fun hc=>?_) (fun hc=>?_)<;>try exact⟨⟩)|fail)<;>conv=>whnf)
  refine(QA out v (by omega)).use (rest:=[_]) hs ?_;clear hs;rintro r post Z ⟨rfl,rfl⟩ hs;refine zz ?_;(repeat clear U K);repeat intro K U
  exact AJ ⟨_,⟨by rw[hm],M,rfl⟩,hs⟩
 .obtain ⟨n,hnn⟩: ∃n,l'.length=n+1:=⟨l'.length - 1,by omega⟩
  have hne:l'.isEmpty=false:=by cases l' with
   | nil=>simp at hz
   | cons=>rfl
  rw[hnn,DU]at hm
  conv=>whnf
  repeat'((first|clear U K|apply st|(apply zk;intro K U)|refine zY ?_|(refine zb (fun hc=>?_) (fun hc=>?_)<;>try exact⟨⟩)|fail)<;>conv=>whnf)
  refine B4 l'.length (fun i (_:List (Int×Int))=>[(16,eI (A7 i))]) (fun _ M=>[.own v 1 (iL out),.map L (LZ p M)]) (fun i _=> ∀j,j<i->Ov (Az p) l' j l'.length=false) M rfl (fun j h=>by omega) hs ?_;clear hs;rintro i M Z hi hno hs;rcases A9 l' hi with⟨x,hx,hlt⟩|hie
  .have hmx:=hme x (B6 hx)
   refine zz ?_;(repeat clear U K);repeat intro K U
   refine B4 l'.length (fun k (_:List (Int×Int))=>[(22,eI (A7 k))]) (fun _ M=>[.own v 1 (iL out),.map L (LZ p M)]) (fun k _=>Ov (Az p) l' i k=true) M rfl rfl hs ?_;clear hs;rintro k M Z hk htop hs;rcases A9 l' hk with⟨y,hy,hklt⟩|hke
   .have hmy:=hme y (B6 hy)
    have hsu:=cg (Az p) l' i k;rw[Ee hx,Ee hy,htop,Cc]at hsu;by_cases hki:k=i
    .obtain rfl:x=y:=by
      rw[hki,hx]at hy;exact Option.some.inj hy
     conv=>whnf
     repeat'((first|clear U K|apply st|(apply zk;intro K U)|refine zY ?_|(refine zb (fun hc=>?_) (fun hc=>?_)<;>try exact⟨⟩)|fail)<;>conv=>whnf)
     exact⟨hklt,M,rfl,by rw[hsu,hki];simp,hs⟩
    .have hxy:=k8 hn hx hy hki
     have c5:=XF p L x y hok hgw hfm hmx hmy M;cases hah:Az p x y<;>rw[hah]at c5
     all_goals
      conv=>whnf
      repeat'((first|clear U K|apply st|(apply zk;intro K U)|refine zY ?_|(refine zb (fun hc=>?_) (fun hc=>?_)<;>try exact⟨⟩)|fail)<;>conv=>whnf)
      refine c5.use (rest:=[_]) (hs.perm (.swap _ _ _)) ?_;clear hs;rintro r post Z ⟨rfl,rfl⟩ hs;refine zz ?_;(repeat clear U K);repeat intro K U
     .refine⟨hlt,_,rfl,fun j hj=>?_,hs.perm (.swap _ _ _)⟩
      rcases Nat.lt_or_ge j i with h'|h'
      .exact hno j h'
      .rw[show j=i by omega]
       exact ng hklt (by rw[Ee hx,Ee hy,hah];simpa using hki)
     .exact⟨hklt,_,rfl,by rw[hsu,hah];simp,hs.perm (.swap _ _ _)⟩
   .have c1:=Np l' f' x (by omega)
    rw[GW hn hx]at c1;have hel:=List.length_eraseIdx_of_lt hlt;rw[eO hlt (hke ▸ htop) hno]at hm;dsimp only at hm;rw[Ee hx]at hm
    conv=>whnf
    repeat'((first|clear U K|apply st|(apply zk;intro K U)|refine zY ?_|refine aq fun v Z hs hsl=>?_|refine zC ?_|fail)<;>conv=>whnf)
    refine⟨(l'.eraseIdx i,true,v,out++[x],M),by dsimp only;omega,rfl,⟨fun y hy=>hme y (List.mem_of_mem_eraseIdx hy),hn.sublist (List.eraseIdx_sublist _ _),by simp;omega,?_⟩,hs⟩;dsimp only;rw[hm,hel,show l'.length - 1=n by omega];simp
  .rw[eN fun j hj=>hno j (by omega)]at hm
   dsimp only at hm;rw[hne,D8]at hm;refine zz ?_;(repeat clear U K);repeat intro K U
   refine(QA out v (by omega)).use (rest:=[_]) hs ?_;clear hs;rintro r post Z ⟨rfl,rfl⟩ hs;refine zz ?_;(repeat clear U K);repeat intro K U
   exact AJ ⟨_,⟨by rw[hm];rfl,M,rfl⟩,hs⟩
end Go.Gl
namespace Go.Gl
open Go.Proofs
def RM {p:Prog} (hok:FC p) {i j k:Int} (hi:Bd p i=true) (hj:Bd p j=true) (hk:Bd p k=true) (h1:K8 p i j=true) (h2:K8 p j k=true):K8 p i k=true:=
 imp_trans hok.mh (hok.facts _ (B6 (Cm hi))).1 (hok.facts _ (B6 (Cm hj))).1 (hok.facts _ (B6 (Cm hk))).1 h1 h2
def Zb {p:Prog} {i j:Int}:Az p i j=true↔K8 p i j=true/\K8 p j i=false:=by
 rw[Az,A4,Bool.not_eq_true']
def Re {p:Prog} (i:Int):Az p i i=false:=by
 rw[Az];cases K8 p i i<;>rfl
def U8 {p:Prog} (hok:FC p) {i j k:Int} (hi:Bd p i=true) (hj:Bd p j=true) (hk:Bd p k=true) (h1:Az p i j=true) (h2:Az p j k=true):Az p i k=true:=by
 rw[Zb]at *;refine⟨RM hok hi hj hk h1.1 h2.1,?_⟩;rw[<-Bool.not_eq_true];intro e;have:=RM hok hk hi hj e h1.1;rw[h2.2]at this;cases this
end Go.Gl
namespace Go.Gl
open Go.Proofs
attribute [local irreducible] As Ag AY AQ AL AX AP AR AK AW AM AN Ai Ap Sat AT An AZ W
def np (p:Prog) (L:Nat) (m:Int) (hok:FC p) (hgw:BR (AH p)) (hfm: ∀x∈p.methods,Ba (AH p) x.fact=true) (hm:Bd p m=true) :
    Cw zP (.f (.func 363) [] [.rp [Tb p L],.rp [eI m]]) eI (fun M=>[.map L (LZ p M)]) (fun y M=>(Az p y m,cZ p M y m)) (fun y _=>Bd p y=true):=by
 intro y M hy Z hs;refine A0 ?_;show As zP 363 ([]++[eI y]++[.rp [Tb p L],.rp [eI m]]) Z _;refine uh kZ ?_;refine zz ?_;(repeat clear U K);repeat intro K U
 refine(XF p L y m hok hgw hfm hy hm M).use (rest:=[]) (by simpa using hs) ?_;clear hs;rintro r post Z ⟨rfl,rfl⟩ hs;refine zz ?_;(repeat clear U K);repeat intro K U
 exact Au hs (List.sublist_append_left _ _) (.refl _) fun Z' hs'=>⟨rfl,hs'⟩
def TD {S:Type} {stp:Int->S->Bool×S} {q:Int->Bool}: ∀(xs:List Int) (k:Nat) (s:S),(∀y∈xs,∀s,(stp y s).1=q y)->(Bf stp xs k s).1=match(List.range xs.length).find? fun i=>q (xs.getD i 0)with|some i=>((k+i:Nat):Int)|none=> -1
 | [],_,_,_=>rfl
 | y ::r,k,s,h=>by
   rw[Bf,h y (.head _)];have ih:=TD r (k+1) (stp y s).2 fun z hz=>h z (.tail _ hz)
   rw[HH,List.range_succ_eq_map,List.find?_cons,List.getD_cons_zero];cases hq:q y
   .rw[if_neg (by decide),ih]
    simp only[List.find?_map,Function.comp_def,Nat.succ_eq_add_one,List.getD_cons_succ];cases(List.range r.length).find? fun i=>q (r.getD i 0)with
    | none=>rfl
    | some i=>simp only[b9];congr 1;omega
   .rw[if_pos rfl];simp
def yh (p:Prog) (l:List Int) (m:Int) (M:List (Int×Int)):List (Int×Int):=(Bf (fun y M=>(Az p y m,cZ p M y m)) l 0 M).2
def Z3 (p:Prog) (L nb:Nat) (l:List Int) (f:Bool) (hok:FC p) (hgw:BR (AH p)) (hfm: ∀x∈p.methods,Ba (AH p) x.fact=true) (hl: ∀x∈l,Bd p x=true) :
    Cw zP (.f (.func 362) [] [.p nb 0,.rp [Tb p L]]) eI (fun M=>[.box nb [.l (iL l) f],.map L (LZ p M)]) (fun m M=>(!(decide ((Bf (fun y M=>(Az p y m,cZ p M y m)) l 0 M).1≥0)),yh p l m M)) (fun m _=>Bd p m=true):=by
 intro m M hm Z hs;refine A0 ?_;show As zP 362 ([]++[eI m]++[.p nb 0,.rp [Tb p L]]) Z _;refine ui kZ ?_;refine zz ?_;(repeat clear U K);repeat intro K U
 refine(HA 363 [] [.rp [Tb p L],.rp [eI m]] (fun M=>[.map L (LZ p M)]) _ _ (np p L m hok hgw hfm hm) l f M (Hs fun y hy _=>hl y hy)).use (rest:=[_]) (hs.perm (.swap _ _ _)) ?_;clear hs;rintro r post Z ⟨rfl,rfl⟩ hs;refine zz ?_;(repeat clear U K);repeat intro K U
 exact Au (hs.perm (.swap _ _ _)) (List.Sublist.refl _) (.refl _) fun Z' hs'=>⟨rfl,hs'⟩
def iC {p:Prog} (hok:FC p): ∀(l:List Int),l≠[]->(∀x∈l,Bd p x=true)-> ∃x∈l,∀y∈l,Az p y x=false
 | [],h,_=>absurd rfl h
 | x ::r,_,h=>by
   by_cases hr:r= []
   .subst hr
    exact⟨x,.head _,fun y hy=>by rw[Jf.1 hy];exact Re x⟩
   obtain⟨z,hz,hz2⟩:=iC hok r hr fun y hy=>h y (.tail _ hy)
   cases hxz:Az p x z
   .refine⟨z,.tail _ hz,fun y hy=>?_⟩
    rcases Ep.1 hy with rfl|hy
    .exact hxz
    .exact hz2 y hy
   .refine⟨x,.head _,fun y hy=>?_⟩
    rcases Ep.1 hy with rfl|hy
    .exact Re y
    .rw[<-Bool.not_eq_true]
     intro e;have:=U8 hok (h y (.tail _ hy)) (h x (.head _)) (h z (.tail _ hz)) e hxz;rw[hz2 y hy]at this;cases this
def Sw {p:Prog} (hok:FC p) {l:List Int} (hl:l≠[]) (h: ∀x∈l,Bd p x=true): ∃i,X8 (Az p) l=some i:=by
 obtain⟨x,hx,hx2⟩:=iC hok l hl h;obtain⟨i,hi⟩:=List.getElem?_of_mem hx;cases hm:X8 (Az p) l with
 | some i=>exact⟨i,rfl⟩
 | none=>
   rw[X8,List.find?_range_eq_none]at hm;have h1:=hm i (Ip.1 hi).1
   have h2:cN (Az p) l i l.length=true:=by
    rw[cN,Cu];intro k hk;rw[Ee hi,hx2 _ (S8 (List.mem_range.1 hk))];rfl
   rw[h2]at h1;cases h1
def Sa (xs:List Int) (f:Bool):Pure zP 361 [.l (iL xs) f] (.f (.func 391) [] [.rp [.l (iL xs) f]]):=by
 refine uj kZ ?_;have hs:=Sn;exact zW
def nc (xs:List Int) (f:Bool) (hxl:xs.length<=1000) {S:Type} {fn:Fn} {fi ca:List V} {H:S->List At} (Inv:Nat->S->Prop) {s:S} (h0:Inv 0 s)
    (hT: ∀(k:Nat) s y,xs[k]? =some y->Inv k s-> ∀Z:AE,Sat Z (H s)->Ai zP (.f fn fi ca) [eI y] Z fun r Z'=> ∃s',r= .ret (.b true)/\Inv (k+1) s'/\Sat Z' (H s')) (Z:AE) (hs:Sat Z (H s)) :
    As zP 391 [.f fn fi ca,.rp [.l (iL xs) f]] Z fun r Z'=> ∃s',r= .ret (.t [])/\Inv xs.length s'/\Sat Z' (H s'):=by
 have hM:=Mx;refine uX kZ ?_;refine zz ?_;(repeat clear U K);repeat intro K U
 refine B4 xs.length (fun k (_:S)=>[(7,eI (A7 k))]) (fun _ s'=>H s') (fun k s'=>Inv k s') s rfl h0 hs ?_;clear hs;rintro k s' Z hk ho hs;rcases A9 xs hk with⟨y,hy,hlt⟩|hke
 .have hT':=hT k s' y hy ho
  refine zz ?_;(repeat clear U K);repeat intro K U
  refine(hT' Z hs).mono ?_;rintro r Z ⟨s2,rfl,hi2,hs⟩;refine zz ?_;(repeat clear U K);repeat intro K U
  exact⟨hlt,_,rfl,hi2,hs⟩
 .rw[hke]at ho
  refine zz ?_;(repeat clear U K);repeat intro K U
  exact AJ ⟨_,rfl,ho,hs⟩
def ew (xs:List Int) (f:Bool) (hxl:xs.length<=1000):BL zP 405 [.l [] true,.f (.func 391) [] [.rp [.l (iL xs) f]]] [] fun r post=> ∃v,r= .ret v/\post= [.own v 1 (iL xs)]/\((Bi v).isSome=true\/(v= .l [] true/\xs= [])):=by
 intro Z hs;have hM:=Mx;refine uT kZ ?_
 conv=>whnf
 repeat'((first|clear U K|apply st|(apply zk;intro K U)|refine zo fun nn hnn Z hs=>?_|fail)<;>conv=>whnf)
 rename_i nb _ _ _;clear hnn
 revert hs
 generalize hE:([(2,V.p nb 0)]:Env)=E;generalize hk:Bo _ _ _ _=ok;intro hs;refine As.mono (nc xs f hxl (fn:= .yield nn) (fi:=[]) (ca:=[]) (H:=fun s:V×List Int=> .obj nn (.loop .ready E ok):: [.box nb [s.1],.own s.1 1 (iL s.2)]) (fun k s=>s.2=xs.take k/\(1<=k->(Bi s.1).isSome=true)/\(k=0->s.1= .l [] true)) (s:=(.l [] true,[])) ⟨rfl,fun h=>by omega,fun _=>rfl⟩ ?_ Z ((Ch hs 1).perm (JH _ _ _ _))) ?_
 .clear hs
  subst hE hk;rintro k ⟨v,ys⟩ y hy ⟨h1,h2,h3⟩ Z hs;dsimp only at h1 h2 h3 hs;have hkl:k<xs.length:=(Ip.1 hy).1;have hyl:ys.length=k:=by rw[h1,Je];omega
  have hll:ys.length<Ab/\(ys.length+1)*8<=140737488355328:=by omega
  refine yL (KF (l:=[.box nb [v],.own v 1 (iL ys)]) rfl hs ?_);clear hs;intro Z hs
  conv=>whnf
  repeat'((first|clear U K|apply st|(apply zk;intro K U)|refine zY ?_|refine zs fun Z hs=>?_|refine aq fun v Z hs hsl=>?_|fail)<;>conv=>whnf)
  intro hn;exact⟨(v,ys++[y]),rfl,⟨by rw[AU hy,h1],fun _=>hsl,fun h=>by omega⟩,hs.R5 hn⟩
 .clear hs
  rintro r Z ⟨⟨v,ys⟩,rfl,⟨h1,h2,h3⟩,hs⟩;dsimp only at h1 h2 h3 hs;refine Gy hs fun Z hs=>?_
  refine zz ?_;(repeat clear U K);repeat intro K U
  rw[List.take_length]at h1;subst h1;refine Au hs (Gg _ _) (.refl _) fun Z' hs'=>⟨_,⟨v,rfl,rfl,?_⟩,hs'⟩
  rcases Nat.eq_zero_or_pos ys.length with h|h
  .exact .inr ⟨h3 h,Xv.1 h⟩
  .exact .inl (h2 h)
def eZ (xs:List Int) (f:Bool) (hxl:xs.length<=1000):BL zP 390 [.f (.func 391) [] [.rp [.l (iL xs) f]]] [] fun r post=> ∃v,r= .ret v/\post= [.own v 1 (iL xs)]/\((Bi v).isSome=true\/(v= .l [] true/\xs= [])):=by
 intro Z hs;refine uY kZ ?_
 conv=>whnf
 repeat'((first|clear U K|apply st|(apply zk;intro K U)|fail)<;>conv=>whnf)
 refine(ew xs f hxl).use (rest:=[]) (by simpa using hs) ?_;clear hs;rintro r post Z ⟨v,rfl,rfl,hv⟩ hs;refine zz ?_;(repeat clear U K);repeat intro K U
 exact Au hs (List.sublist_append_left _ _) (.refl _) fun Z' hs'=>⟨_,⟨v,rfl,rfl,hv⟩,hs'⟩
def Sd (xs:List Int) (f:Bool) (hxl:xs.length<=1000):Pure zP 360 [.f (.func 391) [] [.rp [.l (iL xs) f]]] (.l (iL (xs.mergeSort H0)) false):=by
 refine um kZ ?_;have hs:=Sn
 conv=>whnf
 repeat'((first|clear U K|apply st|(apply zk;intro K U)|fail)<;>conv=>whnf)
 refine(eZ xs f hxl).use (rest:=[]) (by simpa using hs) ?_;clear hs;rintro r post Z ⟨v,rfl,rfl,hv⟩ hs
 conv=>whnf
 repeat'((first|clear U K|apply st|(apply zk;intro K U)|fail)<;>conv=>whnf)
 refine(fu hv).use (rest:=[]) hs ?_;clear hs;rintro r post Z ⟨rfl,rfl⟩ hs;refine zz ?_;(repeat clear U K);repeat intro K U
 exact Af (hs.MB 0 rfl)
def TE {S:Type} {stp:Int->S->Bool×S} {q:Int->Bool}: ∀(xs:List Int) (k:Nat) (s:S),(∀y∈xs,∀s,(stp y s).1=q y)->decide ((Bf stp xs k s).1≥0)=xs.any q
 | [],_,_,_=>rfl
 | y ::r,k,s,h=>by
   rw[Bf,h y (.head _),Rq];cases hq:q y
   .rw[if_neg (by decide),Bool.false_or]
    exact TE r (k+1) _ fun z hz=>h z (.tail _ hz)
   .rw[if_pos rfl,Bool.true_or]
    exact decide_eq_true (Int.natCast_nonneg k)
def dN (l:List Int) (q:Int->Bool):(List.range l.length).all (fun j=> !q (l.getD j 0))= !l.any q:=by
 rw[Hl,Cu,Bool.not_eq_true',<-Bool.not_eq_true,GY];constructor
 .rintro h ⟨x,hx,hq⟩
  obtain⟨i,hi⟩:=List.getElem?_of_mem hx;have:=h i (List.mem_range.2 (Ip.1 hi).1);rw[Ee hi,hq]at this;cases this
 .intro h j hj
  cases hq:q (l.getD j 0)
  .rfl
  .exact absurd ⟨_,S8 (List.mem_range.1 hj),hq⟩ h
def bR {p:Prog} {l:List Int} {M:List (Int×Int)}:(Bf (fun(m:Int) (M:List (Int×Int))=>(!(decide ((Bf (fun y M=>(Az p y m,cZ p M y m)) l 0 M).1≥0)),yh p l m M)) l 0 M).1=match X8 (Az p) l with|some i=>((i:Nat):Int)|none=> -1:=by
 rw[TD (q:=fun m=> !l.any fun y=>Az p y m) l 0 M fun m _ s=>by dsimp only;rw[TE (q:=fun y=>Az p y m) l 0 s fun y _ s=>rfl]];rw[X8,find_congr (g:=fun i=>cN (Az p) l i l.length) fun i _=>by rw[cN,dN l fun y=>Az p y (l.getD i 0)]];cases(List.range l.length).find? fun i=>cN (Az p) l i l.length with
 | none=>rfl
 | some i=>simp
def ep (p:Prog) (L:Nat) (l:List Int) (f:Bool) (hok:FC p) (hgw:BR (AH p)) (hfm: ∀x∈p.methods,Ba (AH p) x.fact=true) (hl:T6 p l) (hnd:l.Nodup) (M:List (Int×Int)) :
    BL zP 320 [Tb p L,.l (iL l) f] [.map L (LZ p M)] fun r post=>r= .ret (.l (iL (Ho (Az p) l.length (l.mergeSort H0))) true)/\ ∃M',post= [.map L (LZ p M')]:=by
 intro Z hs;have hM:=Mx;have h16:=hl.many;have hml:(l.mergeSort H0).length=l.length:=List.length_mergeSort _;have c1:=Sa l f;have c2:=Sd l f (by omega);refine ia kZ ?_
 conv=>whnf
 repeat'((first|clear U K|apply st|(apply zk;intro K U)|refine zY ?_|refine zs fun Z hs=>?_|refine zC ?_|refine zo fun nn hnn Z hs=>?_|fail)<;>conv=>whnf)
 clear c1 c2 hnn
 refine Ff (fun(x:List Int×Bool×V×List Int×List (Int×Int))=>x.1.length) (fun x=>[(5,x.2.2.1)]) (fun x=>[.box nn [.l (iL x.1) x.2.1],.own x.2.2.1 1 (iL x.2.2.2.1),.map L (LZ p x.2.2.2.2)])
  (fun x=>(∀y∈x.1,Bd p y=true)/\x.1.Nodup/\x.2.2.2.1.length+x.1.length<=16/\Ho (Az p) l.length (l.mergeSort H0)=x.2.2.2.1++Ho (Az p) x.1.length x.1) (l.mergeSort H0,false,.l [] true,[],M) rfl ⟨fun y hy=>hl.MN y (List.mem_mergeSort.1 hy),(List.mergeSort_perm l H0).symm.nodup hnd,by simpa[hml]using h16,by simp[hml]⟩ ((Ch hs 1).perm (.swap _ _ _)) ?_
 clear hs;rintro⟨l',f',v,out,M⟩ Z ⟨hme,hn,hlen,hm⟩ hs;dsimp only at hme hn hlen hm hs;dsimp only;have hll:out.length<Ab/\(out.length+1)*8<=140737488355328:=by omega
 by_cases hz:l'.length=0
 .rw[hz]at hm
  simp only[Ho,D8]at hm
  conv=>whnf
  repeat'((first|clear U K|apply st|(apply zk;intro K U)|refine zY ?_|(refine zb (fun hc=>?_) (fun hc=>?_)<;>try exact⟨⟩)|fail)<;>conv=>whnf)
  refine(QA out v (by omega)).use (rest:=[_,_]) (hs.perm (.swap _ _ _)) ?_;clear hs;rintro r post Z ⟨rfl,rfl⟩ hs;refine zz ?_;(repeat clear U K);repeat intro K U
  exact Au hs (Gg _ _) (.refl _) fun Z' hs'=>⟨_,⟨by rw[hm],M,rfl⟩,hs'⟩
 .obtain⟨n,hnn⟩: ∃n,l'.length=n+1:=⟨l'.length - 1,by omega⟩
  have hne:l'≠[]:=fun e=>hz (by rw[e];rfl)
  obtain⟨i,hi⟩:=Sw hok hne hme;have hil:i<l'.length:=by simpa using List.mem_of_find?_eq_some hi
  obtain⟨x,hx⟩: ∃x,l'[i]? =some x:=⟨_,Cd hil⟩
  rw[hnn,Ho,hi,Option.getD_some,Ee hx]at hm;have c3:=Np l' f' x (by omega);rw[GW hn hx]at c3;have hel:=List.length_eraseIdx_of_lt hil
  conv=>whnf
  repeat'((first|clear U K|apply st|(apply zk;intro K U)|refine zY ?_|(refine zb (fun hc=>?_) (fun hc=>?_)<;>try exact⟨⟩)|fail)<;>conv=>whnf)
  refine(JE 362 [] [.p nn 0,.rp [Tb p L]] (fun M=>[.box nn [.l (iL l') f'],.map L (LZ p M)]) _ _ (Z3 p L nn l' f' hok hgw hfm hme) l' f' M (Hs fun y hy _=>hme y hy)).use (rest:=[.own v 1 (iL out)]) (hs.perm (.cons _ (.swap _ _ _))) ?_;clear hs;rintro r post Z ⟨rfl,rfl⟩ hs;rw[bR,hi];generalize (Bf _ l' 0 M).2=M2 at hs;dsimp only
  conv=>whnf
  repeat'((first|clear U K|apply st|(apply zk;intro K U)|refine zY ?_|refine zs fun Z hs=>?_|refine aq fun v Z hs hsl=>?_|refine zC ?_|fail)<;>conv=>whnf)
  refine⟨(l'.eraseIdx i,true,v,out++[x],M2),by dsimp only;omega,rfl,⟨fun y hy=>hme y (List.mem_of_mem_eraseIdx hy),hn.sublist (List.eraseIdx_sublist _ _),by simp;omega,?_⟩,hs.perm (.cons _ (.swap _ _ _))⟩;dsimp only;rw[hm,hel,show l'.length - 1=n by omega];simp
def dC: ∀ {l:List Int},l.Nodup->(l.mergeSort H0).Pairwise (· < ·):=fun {l} h=>by
 have h1:=List.pairwise_mergeSort (le:=H0) (fun a b c h1 h2=>by simp only[H0,B7]at *;omega) (fun a b=>by simp only[H0,EW,B7];omega) l;have h2:=List.nodup_iff_pairwise_ne.1 ((List.mergeSort_perm l H0).symm.nodup h);exact(h1.and h2).imp fun⟨a,b⟩=>by simp only[H0,B7]at a;omega
def bA {x:Int}: ∀ {out:List Int},out.Pairwise (· < ·)->x∉out->(Oz x out).Pairwise (· < ·)
 | [],_,_=>by simp[Oz]
 | y ::r,h,hx=>by
   rw[List.pairwise_cons]at h;rw[Ep,not_or]at hx;by_cases hy:y<x
   .have e:Oz x (y::r)=y::Oz x r:=by simp[Oz,List.takeWhile_cons,List.dropWhile_cons,hy]
    rw[e,List.pairwise_cons];refine⟨fun z hz=>?_,bA h.2 hx.2⟩;rcases Qa.1 hz with rfl|hz
    .exact hy
    .exact h.1 z hz
   .have e:Oz x (y::r)=x::y::r:=by simp[Oz,List.takeWhile_cons,List.dropWhile_cons,hy]
    rw[e,List.pairwise_cons,List.pairwise_cons];refine⟨fun z hz=>?_,h⟩;rcases Ep.1 hz with rfl|hz
    .have:=hx.1;omega
    .have:=h.1 z hz
     have:=hx.1;omega
def Wv: ∀(l out:List Int),out.Pairwise (· < ·)->l.Nodup->(∀x∈l,x∉out)->(l.foldl (fun out x=>Oz x out) out).Pairwise (· < ·)
 | [],_,h,_,_=>h
 | x::r,out,h,hn,hx=>by
   rw[List.nodup_cons]at hn;refine Wv r _ (bA h (hx x (.head _))) hn.2 fun y hy hm=>?_
   rcases Qa.1 hm with rfl|hm
   .exact hn.1 hy
   .exact hx y (.tail _ hy) hm
def Se {l:List Int} (h:l.Nodup):l.mergeSort H0=LF l:=
 Ll (dC h) (Wv l [] .nil h fun x _ hm=>by cases hm) fun x=>by rw[List.mem_mergeSort,dD]
end Go.Gl
namespace Go.Gl
open Go.Proofs
end Go.Gl
