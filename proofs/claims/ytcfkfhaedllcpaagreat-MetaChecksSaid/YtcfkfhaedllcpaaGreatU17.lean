import Derived.Test.YtcfkfhaedllcpaaGreatU14
import Derived.Test.YtcfkfhaedllcpaaGreatU15
import Derived.Test.YtcfkfhaedllcpaaGreatU16
set_option linter.all false
set_option linter.defProp false
set_option maxHeartbeats 8000000
noncomputable section
namespace Go.Gl
open Go.Proofs
attribute [local irreducible] BD A3 Au AS AL Ao AU AV AM An AP AT BF BM Sat Af BK Aw W
def cL (g:List (List Int)) (f:Bool) (c:Int) (hg:GN g) (h0:0<=c) (h1:c<3+g.length):Pure zP 180 [.l (Df g) f,eI c] (.t [.l (iL ((Be g).getD c.toNat [])) false,.b (!((Be g).getD c.toNat []).isEmpty)]):=by
 refine fA kZ ?_
 conv=>whnf
 repeat((first|clear U K|apply st|(apply zk;intro K U)|fail);conv=>whnf)
 refine(Tz g f hg).use ?_
 conv=>whnf
 have hlen:=Bz g (2+g.length);have hlt:c.toNat<(Be g).length:=by unfold Be;omega
 have hq:=D2 hlt;refine O5 c.toNat hq (by omega) rfl ?_;refine zh ?_;(repeat clear U K);repeat intro K U
 refine AF ?_;rw[FD,hq,Option.getD_some];cases(Be g)[c.toNat]with
 | nil=>rfl
 | cons _ _=>simp
def jW (w:Ap):Prop:=w.parents.length<=1000/\(∀l∈w.parents,l.length<=AX)/\w.owner.length<=AX
def bk {ps:List (List Int)} {c:Nat} (h3:3<=c) (hc:c<3+ps.length):ps[c - 3]? =some (par ps c):=by
 unfold par;rw[if_neg (by omega),FD,D2 (by omega)];rfl
def SP {bs:List Bool} {j:Nat} (h:j<bs.length):(bL bs)[j]? =some [.b (bs.getD j false)]:=by
 rw[NX,FD,D2 h];rfl
def RD (bs:List Bool) (j:Nat) (x:Bool):(bL bs).set j [.b x]=bL (bs.set j x):=by
 simp[bL,List.map_set]
def gb (w : Ap) (c:Nat) (hw:jW w) (ho:ordered w.parents) (hc:c<3+w.parents.length):Pure zP 291 [.a (BC w),eI c] (.l (bL (FQ w.parents (3+w.parents.length) c (c - 2))) false):=by
 obtain⟨hw1,hw2,hw3⟩:=hw;have hmL:3+w.parents.length<=AX:=by simp only[AX];omega
 refine di kZ ?_;refine zh ?_;(repeat clear U K);repeat intro K U
 rw[show IntKind.i64.wrap (3+((Df w.parents).length:Nat))=((3+w.parents.length:Nat):Int) by rw[BW,wrap64 (by omega) (by omega)];omega];refine pW Sat.nil (by omega) fun v Z hs hv=>?_
 obtain⟨id,rfl⟩:=hv
 conv=>whnf
 repeat((first|clear U K|apply st|(apply zk;intro K U)|fail);conv=>whnf)
 refine Uz hs 0 c rfl rfl (by simpa using hc) ?_
 conv=>whnf
 refine Iu hs 0 rfl (e:=[.b false]) (by simp[hc]) rfl rfl rfl rfl rfl fun Z hs=>?_
 have e0:(List.replicate (3+w.parents.length) [V.b false]).set c [V.b true]=bL (FQ w.parents (3+w.parents.length) c 0):=by
  simp only[FQ];rw[<-RD];simp[bL]
 refine zh ?_;(repeat clear U K);repeat intro K U
 refine Cc (c - 2) (fun k (_:Unit)=>[(6,eI (Tf c k))]) (fun k _=>[.own (.sl id (3+w.parents.length) (3+w.parents.length)) 1 (bL (FQ w.parents (3+w.parents.length) c k))]) (fun _ _=>True) () rfl trivial (e0 ▸ hs) ?_;rintro k - Z hk - hs;have hd:Tf c k=(c:Int) - k:=S5 (by omega) (by omega);have hul:=IW w.parents (3+w.parents.length) c k;refine zh ?_;(repeat clear U K);repeat intro K U
 refine fork (fun hlt=>?_) (fun hlt=>?_)
 .rw [hd]at hlt
  have h3:3<=c - k:=by omega
  have hpar:=bk (ps:=w.parents) h3 (by omega);have hpl:=hw2 _ (Dx hpar);refine zh ?_;(repeat clear U K);repeat intro K U
  refine O5 (c - k - 3) hpar (by rw[hd,wrap64 (by omega) (by omega)];omega) rfl ?_;refine zh ?_;(repeat clear U K);repeat intro K U
  refine Cc (par w.parents (c - k)).length (fun j (_:Unit)=>[(29,eI (BU j))]) (fun j _=>[.own (.sl id (3+w.parents.length) (3+w.parents.length)) 1 (bL (D5 (FQ w.parents (3+w.parents.length) c k) (c - k) ((par w.parents (c - k)).take j)))]) (fun _ _=>True) () rfl trivial hs ?_;rintro j - Z hj - hs;have hml:=Jo (c - k) ((par w.parents (c - k)).take j) (FQ w.parents (3+w.parents.length) c k);refine zh ?_;(repeat clear U K);repeat intro K U
  refine Ej hj hpl (fun p hp hjlt=>?_) fun hj=>?_
  .have hpp:=ho _ p (Dx hp)
   have hm:(D5 (FQ w.parents (3+w.parents.length) c k) (c - k) ((par w.parents (c - k)).take (j+1)))=(D5 (FQ w.parents (3+w.parents.length) c k) (c - k) ((par w.parents (c - k)).take j)).set p.toNat
    ((D5 (FQ w.parents (3+w.parents.length) c k) (c - k) ((par w.parents (c - k)).take j)).getD p.toNat false||(D5 (FQ w.parents (3+w.parents.length) c k) (c - k) ((par w.parents (c - k)).take j)).getD (c - k) false):=by
    rw[Aa hp,I2];rfl
   generalize hbs:D5 (FQ w.parents (3+w.parents.length) c k) (c - k) ((par w.parents (c - k)).take j)=bs at *;have hlp:p.toNat<bs.length:=by omega
   have hlc:c - k<bs.length:=by omega
   refine zh ?_;(repeat clear U K);repeat intro K U
   refine Gi hp hpl rfl ?_;refine zh ?_;(repeat clear U K);repeat intro K U
   refine Uz hs 0 p.toNat rfl (by omega) (by simpa using hlp) ?_
   conv=>whnf
   refine F7 hs 0 rfl (SP hlp) ?_
   conv=>whnf
   cases hb:bs.getD p.toNat false with
   | true=>
     rw[hb]at hm;refine zh ?_;(repeat clear U K);repeat intro K U
     refine Uz hs 0 p.toNat rfl (by omega) (by simpa using hlp) ?_
     conv=>whnf
     refine Iu hs 0 rfl (SP hlp) rfl rfl rfl rfl rfl fun Z hs=>?_
     refine zh ?_;(repeat clear U K);repeat intro K U
     refine⟨hjlt,(),rfl,trivial,?_⟩;rw[hm,<-RD];exact hs
   | false=>
     rw[hb]at hm;refine zh ?_;(repeat clear U K);repeat intro K U
     refine Uz hs 0 (c - k) rfl (by rw[hd];omega) (by simpa using hlc) ?_;refine zh ?_;(repeat clear U K);repeat intro K U
     refine F7 hs 0 rfl (SP hlc) ?_
     conv=>whnf
     refine Uz hs 0 p.toNat rfl (by omega) (by simpa using hlp) ?_
     conv=>whnf
     refine Iu hs 0 rfl (SP hlp) rfl rfl rfl rfl rfl fun Z hs=>?_
     refine zh ?_;(repeat clear U K);repeat intro K U
     refine⟨hjlt,(),rfl,trivial,?_⟩;rw[hm,<-RD];exact hs
  .rw[BN hj]at hs
   refine zh ?_;(repeat clear U K);repeat intro K U
   refine⟨by omega,(),rfl,trivial,hs⟩
 .rw[hd]at hlt
  refine zh ?_;(repeat clear U K);repeat intro K U
  have:k=c - 2:=by omega
  subst this;exact Fj hs 0 rfl rfl
def Np (n:Int):Bool:=decide (-1000000000<=n)&&decide (n<=1000000000)
def Zv (n:Int):Pure zP 182 [eI n] (.b (Np n)):=by
 refine ew kZ ?_
 conv=>whnf
 repeat'((first|clear U K|apply st|(apply zk;intro K U)|refine zn ?_|refine za (fun hc=>?_) fun hc=>?_|fail)<;>conv=>whnf)
 all_goals exact AF (by simp[Np, *]<;>omega)
def HZ (k:Int):Bool:=k==1||k==4
def cE (k:Int):Pure zP 132 [eI k] (.b (HZ k)):=by
 refine fH kZ ?_
 conv=>whnf
 repeat'((first|clear U K|apply st|(apply zk;intro K U)|refine zn ?_|refine za (fun hc=>?_) fun hc=>?_|fail)<;>conv=>whnf)
 all_goals exact AF (by simp[HZ, *])
def D8 {p:Prog} (h:Dg (.a (A7 p))):p.AG.length<=AX/\p.Bc.length<=AX/\p.methods.length<=AX/\p.nodes.length<=AX:=by
 simp only[A7,F4,C3,FK,BW]at h;exact⟨h.1.1,h.2.2.1.1,h.2.2.2.1.1,h.2.2.2.2.1.1⟩
def Gm (p:Prog) (x:Node):Int:=
 if x.op=1\/x.op=2\/x.op=3\/x.op=6\/x.op=18 then 0 else
 if x.op=4\/x.op=8\/x.op=17 then 1 else
 if x.op=7\/x.op=9\/x.op=11\/x.op=12\/x.op=13\/x.op=14\/x.op=15\/x.op=16 then 2 else
 if x.op=10 then 3 else
 if x.op=5/\0<=x.n/\x.n<p.Bc.length then p.Bc.getD x.n.toNat 0 else -1
def Yn (p:Prog) (x:Node):Pure zP 187 [.a (A7 p),.a (GQ x)] (eI (Gm p x)):=by
 refine Pure.fit (by kernel_rfl) fun hf=>?_
 have⟨p1,p2,p3,p4⟩:=D8 hf.1;have hM:=Mx;refine eg kZ ?_
 conv=>whnf
 repeat'((first|clear U K|apply st|(apply zk;intro K U)|refine zn ?_|refine ze fun x hx=>?_|(refine zd (fun hc=>?_) (fun hc=>?_)<;>try exact⟨⟩)|fail)<;>conv=>whnf)
 all_goals first
  | (refine AF ?_;simp[Gm, *];done)
  | (refine AF ?_;simp[Gm, *];intros;omega)
  | (have hd:=(KT.1 hx).2;refine AF ?_;simp[Gm, *];done)
def JJ (p:Prog) (x:Node) (size:Int):Bool:=
 if x.op=1 then Np x.n else if x.op=3 then decide (0<=x.n)&&decide (x.n<size)else if x.op=4\/x.op=7 then decide (0<=x.n)&&decide (x.n<p.AH)else
 if x.op=5 then decide (0<=x.n)&&decide (x.n<p.Bc.length)else if x.op=6\/x.op=8 then decide (3<=x.n)&&decide (x.n<3+p.AG.length)else x.n==0
def T2 (p:Prog) (x:Node) (size:Int):Pure zP 188 [.a (A7 p),.a (GQ x),eI size] (.b (JJ p x size)):=by
 refine Pure.fit (by kernel_rfl) fun hf=>?_
 have⟨p1,p2,p3,p4⟩:=D8 hf.1;have hM:=Mx;refine ee kZ ?_
 conv=>whnf
 repeat'((first|clear U K|apply st|(apply zk;intro K U)|refine zn ?_|refine Pure.use (Zv _) ?_|refine za (fun hc=>?_) fun hc=>?_|fail)<;>conv=>whnf)
 all_goals first
  | (refine AF ?_;simp[JJ, *];done)
  | (refine AF ?_;rw[BW,wrap64 (by omega) (by omega)];simp[JJ, *];done)
  | (refine AF ?_;simp[JJ, *];intros;omega)
def O4 (ps:List (List Int)) (a b:Int):Bool:=a==b||(b==0||(decide (3<=a)&&Kc ps a.toNat b.toNat))
def XU (w:Ap) (a b:Int) (hl:w.parents.length<=1000) (ho:ordered w.parents) (ha:0<=a) (ha':a<3+w.parents.length) (hb:0<=b) (hb':b<3+w.parents.length):Pure zP 252 [.a (BC w),eI a,eI b] (.b (O4 w.parents a b)):=by
 refine Pure.fit (by kernel_rfl) fun hf=>?_
 have⟨w1,w2,w3⟩:=PF hf.1;have hM:=Mx;refine eG kZ ?_
 conv=>whnf
 repeat'((first|clear U K|apply st|(apply zk;intro K U)|refine zn ?_|refine za (fun hc=>?_) fun hc=>?_|fail)<;>conv=>whnf)
 .exact AF (by simp[O4,hc])
 .exact AF (by simp[O4, *];omega)
 .have hc':0<=a:=ha
  obtain⟨a,rfl⟩: ∃n:Nat,a=n:=⟨a.toNat,by omega⟩
  refine(gb w a ⟨hl,w2,w3⟩ ho (by omega)).use ?_;have hul:=IW w.parents (3+w.parents.length) a (a - 2)
  conv=>whnf
  repeat'((first|clear U K|apply st|(apply zk;intro K U)|refine ze fun x hx=>?_|fail)<;>conv=>whnf)
  refine AF ?_;have hu:=SW ho (n:=3+w.parents.length) (c:=a) (by omega) b.toNat;rw[FD,hx]at hu;simp at hu;have e1:((a:Int)==b)=false:=by simpa using ‹(a:Int)≠b›
  have e2:(b==0)=false:=by simpa using ‹b≠0›
  simp[O4,e1,e2,hc,hu]
 .exact AF (by simp[O4,hc])
structure o8 (w:Ap):Prop where
 len:w.parents.length<=60
 ord:ordered w.parents
 own: ∀c∈w.owner,(3:Int)<=c/\c<3+w.parents.length
 qW:w.owner.length<=40
def Kw (w:Ap) (s:Int):Int:=w.owner.getD s.toNat 0
def hasB (w:Ap) (c s:Int):Bool:=decide (3<=c)&&O4 w.parents c (Kw w s)
def cU (w:Ap) (c s:Int) (hw:o8 w) (hc0:0<=c) (hc1:c<3+w.parents.length) (hs0:0<=s) (hs1:s<w.owner.length):Pure zP 181 [.a (BC w),eI c,eI s] (.b (hasB w c s)):=by
 refine Pure.fit (by kernel_rfl) fun hf=>?_
 have⟨w1,w2,w3⟩:=PF hf.1;have hM:=Mx;have hl:=hw.len;refine ez kZ ?_
 conv=>whnf
 repeat'((first|clear U K|apply st|(apply zk;intro K U)|refine zn ?_|refine ze fun x hx=>?_|refine za (fun hc=>?_) fun hc=>?_|fail)<;>conv=>whnf)
 .have:=hw.own x (Dx hx)
  refine(XU w c x (by omega) hw.ord hc0 hc1 (by omega) (by omega)).use ?_;refine zu ?_;(repeat clear U K);repeat intro K U
  exact AF (by simp[hasB,Kw,hx,hc])
 .exact AF (by simp[hasB];omega)
def Ny {xs:List Int} {f:Bool} (h:Dg (.l (iL xs) f)):xs.length<=AX:=PG h
def Wk:Pure zP 198 [.b true] (.t []):=by
 refine Vy kZ ?_;have hs:=Sn;exact zW
abbrev Cu:V:= .De 318 (.a [])
def bA (xs:List Int) (x:Int):Int:=(CN (fun y (_:Unit)=>(x==y,())) xs 0 ()).1
def La {α:Type} (f:α->Bool): ∀(xs:List α) (k:Nat),(decide ((CN (fun y (_:Unit)=>(f y,())) xs k ()).1≥0))=xs.any f
 | [],_=>rfl
 | y::r,k=>by
   simp only[CN,aR];cases f y
   .simpa using La f r (k+1)
   .simp
def Od (xs:List Int) (x:Int):xs.any (x== ·)=xs.contains x:=by
 induction xs with
 | nil=>rfl
 | cons y r ih=>rw[aR,List.contains_cons,ih]
def Yr (xs:List Int) (x:Int):decide (bA xs x≥0)=xs.contains x:=by
 rw[<-Od];exact La (x== ·) xs 0
def W0 (xs:List Int) (f:Bool) (x:Int):Pure zP 237 [.l (iL xs) f,eI x] (eI (bA xs x)):=by
 refine Pure.fit (by kernel_rfl) fun hf=>?_
 have hxl:=Ny hf.1;have hM:=Mx;refine eK kZ ?_;have hs:=Sn;refine zv ?_;(repeat clear U K);repeat intro K U
 refine Cc xs.length (fun k (_:Unit)=>[(8,eI (BU k))]) (fun _ _=>[]) (fun k _=>bA xs x=(CN (fun y (_:Unit)=>(x==y,())) (xs.drop k) k ()).1) () rfl rfl hs ?_;clear hs;rintro k - Z hk hn hs;have hck:BU k=k:=AJ (by omega);rcases Bd xs hk with⟨y,hy,hlt⟩|hke
 .rw[drop_cons hy,CN]at hn
  conv=>whnf
  repeat'((first|clear U K|apply st|(apply zk;intro K U)|refine zX ?_|refine za (fun hc=>?_) fun hc=>?_|fail)<;>conv=>whnf)
  .exact AF (by rw[hn,hc,hck];simp)
  .exact⟨hlt,(),rfl,by rw[hn];simp[hc],hs⟩
 .rw[Ax hke,CN]at hn
  refine zv ?_;(repeat clear U K);repeat intro K U
  exact AF (by rw[hn])
def EG (xs:List Int) (f:Bool) (x:Int):Pure zP 206 [.l (iL xs) f,eI x] (.b (xs.contains x)):=by
 refine eO kZ ?_;have hs:=Sn
 conv=>whnf
 repeat'((first|clear U K|apply st|(apply zk;intro K U)|refine zX ?_|refine Pure.use (W0 _ _ _) ?_|fail)<;>conv=>whnf)
 all_goals exact AF (by rw[<-Yr])
def L8 (n:Int):Pure zP 263 [eI n] (.b (Np n)):=by
 refine du kZ ?_;have hs:=Sn
 conv=>whnf
 repeat'((first|clear U K|apply st|(apply zk;intro K U)|refine zX ?_|refine za (fun hc=>?_) fun hc=>?_|fail)<;>conv=>whnf)
 all_goals exact AF (by simp[Np, *]<;>omega)
def Wv (f:Fact):CI f=(decide (2<=f.op)&&decide (f.op<=4)):=by
 rw[R9];simp only[CI,Ma,Ba,Mb,DG];omega
def Yi (f:Fact):Pure zP 304 [.a (xF f)] (.b (CI f)):=by
 refine db kZ ?_;have hs:=Sn
 conv=>whnf
 repeat'((first|clear U K|apply st|(apply zk;intro K U)|refine zX ?_|refine za (fun hc=>?_) fun hc=>?_|fail)<;>conv=>whnf)
 all_goals exact AF (by rw[Wv];simp[*]<;>omega)
def X4 (s c:Nat) (hs0:s<18446744073709551616) (hc:c<64):Pure zP 329 [eU s,eI c] (eU (s|||2 ^ c)):=by
 refine dR kZ ?_;have hs:=Sn
 conv=>whnf
 repeat'((first|clear U K|apply st|(apply zk;intro K U)|fail)<;>conv=>whnf)
 refine⟨Int.natCast_nonneg _,?_⟩;refine zv ?_;(repeat clear U K);repeat intro K U
 exact AF (by rw[MF,SZ hc,Kp hs0 (LF hc)])
def Ym (op:Int):Pure zP 365 [eI op] (eI (Cq op)):=by
 refine dD kZ ?_;have hs:=Sn
 conv=>whnf
 repeat'((first|clear U K|apply st|(apply zk;intro K U)|refine zX ?_|refine za (fun hc=>?_) fun hc=>?_|fail)<;>conv=>whnf)
 all_goals exact AF (by simp[Cq, *])
def RY (b:Bool):Pure zP 267 [.b b] (eI (if b then 0 else 2)):=by
 refine dn kZ ?_;have hs:=Sn
 conv=>whnf
 repeat'((first|clear U K|apply st|(apply zk;intro K U)|refine za (fun hc=>?_) fun hc=>?_|fail)<;>conv=>whnf)
 all_goals exact AF (by simp[*])
def OY {S:Type} (g:FuncId) (fi ca:List V) (H:S->List At) (stp:Int->S->Bool×S) (D:Int->S->Prop) (hx:Dm zP (.f (.func g) fi ca) eI H stp D) (xs:List Int) (f:Bool) (s0:S) (hd:Up stp D xs s0) :
    Cl zP 207 [.l (iL xs) f,.f (.func g) fi ca] (H s0) fun r post=>r= .ret (eI (CN stp xs 0 s0).1)/\post=H (CN stp xs 0 s0).2:=by
 intro Z hs;refine BD.fit (by kernel_rfl) fun hf=>?_
 have hxl:=Ny hf.1;have hM:=Mx;refine eN kZ ?_;refine zv ?_;(repeat clear U K);repeat intro K U
 refine Cc xs.length (fun k (_:S)=>[(8,eI (BU k))]) (fun _ s=>H s) (fun k s=>Up stp D (xs.drop k) s/\CN stp xs 0 s0=CN stp (xs.drop k) k s) s0 rfl ⟨hd,rfl⟩ hs ?_;clear hs;rintro k s Z hk ⟨hd,hn⟩ hs;have hck:BU k=k:=AJ (by omega);rcases Bd xs hk with⟨y,hy,hlt⟩|hke
 .rw[drop_cons hy]at hn hd
  obtain⟨hd1,hd2⟩:=hd;rw[CN]at hn;refine zv ?_;(repeat clear U K);repeat intro K U
  refine hx.use hd1 hs ?_;clear hs;intro Z hs
  conv=>whnf
  repeat'((first|clear U K|apply st|(apply zk;intro K U)|refine zX ?_|refine za (fun hc=>?_) fun hc=>?_|fail)<;>conv=>whnf)
  .rw[hc,if_pos rfl]at hn
   rw[hn];exact A4 hs (List.Sublist.refl _) (by rw[hck];exact .refl _) fun Z' hs'=>⟨_,⟨rfl,rfl⟩,hs'⟩
  .rw[hc,if_neg (by decide)]at hn
   exact⟨hlt,_,rfl,⟨hd2,hn⟩,hs⟩
 .rw[Ax hke,CN]at hn
  refine zv ?_;(repeat clear U K);repeat intro K U
  rw[hn];exact A4 hs (List.Sublist.refl _) (.refl _) fun Z' hs'=>⟨_,⟨rfl,rfl⟩,hs'⟩
section
variable {S:Type} (g:FuncId) (fi ca:List V) (H:S->List At)
def G2 (stp:Int->S->Bool×S) (D:Int->S->Prop) (hx:Dm zP (.f (.func g) fi ca) eI H stp D) (xs:List Int) (f:Bool) (s0:S) (hd:Up stp D xs s0) :
    Cl zP 139 [.l (iL xs) f,.f (.func g) fi ca] (H s0) fun r post=>r= .ret (.b (decide ((CN stp xs 0 s0).1≥0)))/\post=H (CN stp xs 0 s0).2:=by
 intro Z hs;refine fF kZ ?_
 conv=>whnf
 repeat'((first|clear U K|apply st|(apply zk;intro K U)|fail)<;>conv=>whnf)
 refine(OY g fi ca H stp D hx xs f s0 hd).use (rest:=[]) (by simpa using hs) ?_;rintro r post Z ⟨rfl,rfl⟩ hs;refine zv ?_;(repeat clear U K);repeat intro K U
 exact A4 hs (by simp) (.refl _) fun Z' hs'=>⟨_,⟨rfl,rfl⟩,hs'⟩
def cG (stp:Int->S->Bool×S) (D:Int->S->Prop) (hx:Dm zP (.f (.func g) fi ca) eI H stp D):Dm zP (.f (.func 362) [] [.rp [.f (.func g) fi ca]]) eI H (fun y s=>(!(stp y s).1,(stp y s).2)) D:=by
 intro y s hd Z hs;refine Ct ?_;show BD zP 362 ([]++[eI y]++[.rp [.f (.func g) fi ca]]) Z _;refine dG kZ ?_;refine zv ?_;(repeat clear U K);repeat intro K U
 refine hx.use hd hs ?_;clear hs;intro Z hs;refine zv ?_;(repeat clear U K);repeat intro K U
 exact A4 hs (List.Sublist.refl _) (.refl _) fun Z' hs'=>⟨rfl,hs'⟩
def V5 (stp:Int->S->Bool×S) (D:Int->S->Prop) (hx:Dm zP (.f (.func g) fi ca) eI H stp D) (xs:List Int) (f:Bool) (s0:S) (hd:Up stp D xs s0) :
    Cl zP 330 [.l (iL xs) f,.f (.func g) fi ca] (H s0) fun r post=>r= .ret (.b (FU stp xs s0).1)/\post=H (FU stp xs s0).2:=by
 intro Z hs;obtain⟨e1,e2⟩:=Jt (stp:=stp) xs 0 s0;refine dQ kZ ?_
 conv=>whnf
 repeat'((first|clear U K|apply st|(apply zk;intro K U)|fail)<;>conv=>whnf)
 refine(G2 362 [] [.rp [.f (.func g) fi ca]] H _ D (cG g fi ca H stp D hx) xs f s0 (OC xs s0 hd)).use (rest:=[]) (by simpa using hs) ?_;rintro r post Z ⟨rfl,rfl⟩ hs;rw[e2];rw[e1]at hs;refine zv ?_;(repeat clear U K);repeat intro K U
 exact A4 hs (by simp) (by rw[Bool.not_not];exact .refl _) fun Z' hs'=>⟨_,⟨rfl,rfl⟩,hs'⟩
def OX (stp:Fact->S->Bool×S) (D:Fact->S->Prop) (hx:Dm zP (.f (.func g) fi ca) (fun y=> .a (xF y)) H stp D) (xs:List Fact) (f:Bool) (s0:S) (hxl:xs.length<=AX) (hd:Up stp D xs s0) :
    Cl zP 384 [.l (facts xs) f,.f (.func g) fi ca] (H s0) fun r post=>r= .ret (eI (CN stp xs 0 s0).1)/\post=H (CN stp xs 0 s0).2:=by
 intro Z hs;have hM:=Mx;refine cw kZ ?_;refine zv ?_;(repeat clear U K);repeat intro K U
 refine Cc xs.length (fun k (_:S)=>[(8,eI (BU k))]) (fun _ s=>H s) (fun k s=>Up stp D (xs.drop k) s/\CN stp xs 0 s0=CN stp (xs.drop k) k s) s0 rfl ⟨hd,rfl⟩ hs ?_;clear hs;rintro k s Z hk ⟨hd,hn⟩ hs;have hck:BU k=k:=AJ (by omega);rcases Bd xs hk with⟨y,hy,hlt⟩|hke
 .rw[drop_cons hy]at hn hd
  obtain⟨hd1,hd2⟩:=hd;rw[CN]at hn;refine zv ?_;(repeat clear U K);repeat intro K U
  refine hx.use hd1 hs ?_;clear hs;intro Z hs
  conv=>whnf
  repeat'((first|clear U K|apply st|(apply zk;intro K U)|refine zX ?_|refine za (fun hc=>?_) fun hc=>?_|fail)<;>conv=>whnf)
  .rw[hc,if_pos rfl]at hn
   rw[hn];exact A4 hs (List.Sublist.refl _) (by rw[hck];exact .refl _) fun Z' hs'=>⟨_,⟨rfl,rfl⟩,hs'⟩
  .rw[hc,if_neg (by decide)]at hn
   exact⟨hlt,_,rfl,⟨hd2,hn⟩,hs⟩
 .rw[Ax hke,CN]at hn
  refine zv ?_;(repeat clear U K);repeat intro K U
  rw[hn];exact A4 hs (List.Sublist.refl _) (.refl _) fun Z' hs'=>⟨_,⟨rfl,rfl⟩,hs'⟩
def Ka (stp:Fact->S->Bool×S) (D:Fact->S->Prop) (hx:Dm zP (.f (.func g) fi ca) (fun y=> .a (xF y)) H stp D) (xs:List Fact) (f:Bool) (s0:S) (hxl:xs.length<=AX) (hd:Up stp D xs s0) :
    Cl zP 363 [.l (facts xs) f,.f (.func g) fi ca] (H s0) fun r post=>r= .ret (.b (decide ((CN stp xs 0 s0).1≥0)))/\post=H (CN stp xs 0 s0).2:=by
 intro Z hs;refine dF kZ ?_
 conv=>whnf
 repeat'((first|clear U K|apply st|(apply zk;intro K U)|fail)<;>conv=>whnf)
 refine(OX g fi ca H stp D hx xs f s0 hxl hd).use (rest:=[]) (by simpa using hs) ?_;rintro r post Z ⟨rfl,rfl⟩ hs;refine zv ?_;(repeat clear U K);repeat intro K U
 exact A4 hs (by simp) (.refl _) fun Z' hs'=>⟨_,⟨rfl,rfl⟩,hs'⟩
def cF (stp:Fact->S->Bool×S) (D:Fact->S->Prop) (hx:Dm zP (.f (.func g) fi ca) (fun y=> .a (xF y)) H stp D):Dm zP (.f (.func 364) [] [.rp [.f (.func g) fi ca]]) (fun y=> .a (xF y)) H (fun y s=>(!(stp y s).1,(stp y s).2)) D:=by
 intro y s hd Z hs;refine Ct ?_;show BD zP 364 ([]++[.a (xF y)]++[.rp [.f (.func g) fi ca]]) Z _;refine dE kZ ?_;refine zv ?_;(repeat clear U K);repeat intro K U
 refine hx.use hd hs ?_;clear hs;intro Z hs;refine zv ?_;(repeat clear U K);repeat intro K U
 exact A4 hs (List.Sublist.refl _) (.refl _) fun Z' hs'=>⟨rfl,hs'⟩
def V4 (stp:Fact->S->Bool×S) (D:Fact->S->Prop) (hx:Dm zP (.f (.func g) fi ca) (fun y=> .a (xF y)) H stp D) (xs:List Fact) (f:Bool) (s0:S) (hxl:xs.length<=AX) (hd:Up stp D xs s0) :
    Cl zP 332 [.l (facts xs) f,.f (.func g) fi ca] (H s0) fun r post=>r= .ret (.b (FU stp xs s0).1)/\post=H (FU stp xs s0).2:=by
 intro Z hs;obtain⟨e1,e2⟩:=Jt (stp:=stp) xs 0 s0;refine dN kZ ?_
 conv=>whnf
 repeat'((first|clear U K|apply st|(apply zk;intro K U)|fail)<;>conv=>whnf)
 refine(Ka 364 [] [.rp [.f (.func g) fi ca]] H _ D (cF g fi ca H stp D hx) xs f s0 hxl (OC xs s0 hd)).use (rest:=[]) (by simpa using hs) ?_;rintro r post Z ⟨rfl,rfl⟩ hs;rw[e2];rw[e1]at hs;refine zv ?_;(repeat clear U K);repeat intro K U
 exact A4 hs (by simp) (by rw[Bool.not_not];exact .refl _) fun Z' hs'=>⟨_,⟨rfl,rfl⟩,hs'⟩
end
abbrev PA (f:Int->Bool):Int->Unit->Bool×Unit:=fun y _=>(f y,())
def Lk {g:FuncId} {fi ca:List V} {f:Int->Bool} {D:Int->Unit->Prop} (h: ∀y,D y ()->Pure zP g (fi++[eI y]++ca) (.b (f y))):Dm zP (.f (.func g) fi ca) eI (fun _=>[]) (PA f) D:=by
 intro y s hd Z hs;refine Ct ?_;show BD zP g (fi++[eI y]++ca) Z _;refine BD.mono ((h y hd).use (k:=fun v Z'=>v= .b (f y)/\Sat Z' []) (kp:=fun _ _=>False) ⟨rfl,Sat.nil⟩) ?_;rintro(v|v) Z' hq
 .obtain⟨rfl,h⟩:=hq
  exact⟨rfl,h⟩
 .exact hq.elim
def Za {g:FuncId} {fi ca:List V} {f:Int->Bool} {xs:List Int} (b:Bool) (h: ∀y∈xs,Pure zP g (fi++[eI y]++ca) (.b (f y))):Pure zP 330 [.l (iL xs) b,.f (.func g) fi ca] (.b (xs.all f)):=by
 have:=V5 g fi ca (fun _=>[]) (PA f) (fun y _=>y∈xs) (Lk fun y hy=>h y hy) xs b () (JU fun y hy _=>hy);rw[HO]at this;exact Pure.of (BD.mono (this emp Sat.nil) fun r Z' ⟨post,⟨h1,h2⟩,h3⟩=>h1)
def PQ (g:FuncId) (fi ca:List V) (f:Int->Bool):Prop:= ∀y:Int,Pure zP g (fi++[eI y]++ca) (.b (f y))
def PQ.use {g:FuncId} {fi ca:List V} {f:Int->Bool} (h:PQ g fi ca f) {y:Int} {Z:AE} {k kp:V->AE->Prop} (hk:k (.b (f y)) Z):BF zP (.f (.func g) fi ca) [eI y] Z (qk k kp):=Ct ((h y).use hk)
def Yo (g:FuncId) (fi ca:List V) (L:List At) (p:Int->Bool) (hx:Dm zP (.f (.func g) fi ca) eI (fun _:Unit=>L) (PA p) (fun _ _=>True)) (xs:List Int) (f:Bool):Cl zP 382 [.l (iL xs) f,.f (.func g) fi ca] L fun r post=>r= .ret (.l (iL (xs.filter p)) false)/\post=L:=by
 intro Z hs;refine BD.fit (by kernel_rfl) fun hf=>?_
 have hxl:=Ny hf.1;have hM:=Mx;refine Vw kZ ?_;refine zv ?_;(repeat clear U K);repeat intro K U
 refine Cc xs.length (fun k v=>[(5,v),(10,eI (BU k))]) (fun k v=>L++[.own v 1 (iL ((xs.take k).filter p))]) (fun _ _=>True) (.l [] true) rfl trivial (Gg hs 1) ?_;clear hs;rintro k v Z hk - hs;have hfl:=Xh p (xs.take k);rw[Uv]at hfl;rcases Bd xs hk with⟨y,hy,hlt⟩|hke
 .have hst:(xs.take (k+1)).filter p=if p y then(xs.take k).filter p++[y]else(xs.take k).filter p:=by
   rw[Aa hy,List.filter_append];cases hp:p y<;>simp[hp]
  generalize (xs.take k).filter p=zs at *
  conv=>whnf
  repeat'((first|clear U K|apply st|(apply zk;intro K U)|refine zX ?_|refine hx.jY (s:=()) (rest:=[_]) trivial hs (fun Z hs=>?_)|(refine zd (fun hc=>?_) (fun hc=>?_)<;>try exact⟨⟩)|fail)<;>conv=>whnf)
  .refine ID (E0 hs L.length (xs:=zs) (x:=y) List.getElem?_concat_length (by omega) B8 fun v' Z' hs' hsl=>?_)
   rw[List.set_append_right _ _ (JE _),Nat.sub_self]at hs';replace hs:=hs';refine zv ?_;(repeat clear U K);repeat intro K U
   rw[if_pos (by assumption)]at hst;exact⟨hlt,_,rfl,trivial,by rw[hst];exact hs⟩
  .rw[if_neg (by simp[*])]at hst
   exact⟨hlt,_,rfl,trivial,by rw[hst];exact hs⟩
 .refine zv ?_;(repeat clear U K);repeat intro K U
  rw[BN hke]at hs;obtain⟨Z2,h1,h2,h3⟩:=PC hs L.length List.getElem?_concat_length;refine HD h1 h2 ⟨_,⟨rfl,rfl⟩,?_⟩;rw[List.eraseIdx_append_of_length_le (JE _),Nat.sub_self]at h3;simpa using h3
def Wy (g:FuncId) (fi ca:List V) (p:Int->Bool) (hpf:PQ g fi ca p) (xs:List Int) (u:V) (hxl:xs.length<=AX):Cl zP 382 [u,.f (.func g) fi ca] [.own u 1 (iL xs)] fun r post=>r= .ret (.l (iL (xs.filter p)) false)/\post= [.own u 1 (iL xs)]:=by
 intro Z hs;have hM:=Mx;refine Vw kZ ?_;refine zv ?_;(repeat clear U K);repeat intro K U
 refine Cc xs.length (fun k v=>[(5,v),(10,eI (BU k))]) (fun k v=>[.own u 1 (iL xs),.own v 1 (iL ((xs.take k).filter p))]) (fun _ _=>True) (.l [] true) rfl trivial (Gg hs 1) ?_;clear hs;rintro k v Z hk - hs;have hfl:=Xh p (xs.take k);rw[Uv]at hfl;rcases Bd xs hk with⟨y,hy,hlt⟩|hke
 .have hst:(xs.take (k+1)).filter p=if p y then(xs.take k).filter p++[y]else(xs.take k).filter p:=by
   rw[Aa hy,List.filter_append];cases hp:p y<;>simp[hp]
  generalize (xs.take k).filter p=zs at *
  conv=>whnf
  repeat'((first|clear U K|apply st|(apply zk;intro K U)|refine zX ?_|refine aq fun v Z hs hsl=>?_|refine PQ.use hpf ?_|refine za (fun hc=>?_) fun hc=>?_|fail)<;>conv=>whnf)
  .rw[if_pos (by assumption)]at hst
   exact⟨hlt,_,rfl,trivial,by rw[hst];exact hs.take 2⟩
  .rw[if_neg (by simp[*])]at hst
   exact⟨hlt,_,rfl,trivial,by rw[hst];exact hs.take 2⟩
 .refine zv ?_;(repeat clear U K);repeat intro K U
  rw[BN hke]at hs;obtain⟨Z2,h1,h2,h3⟩:=PC hs 1 rfl;exact HD h1 h2 ⟨_,⟨rfl,rfl⟩,h3⟩
def gx:PQ 390 [] [] (· != 0):=by
 intro y;refine ct kZ ?_;have hs:=Sn;exact zW
def XV (xs:List Int) (u:V) (hxl:xs.length<=AX):Cl zP 381 [u] [.own u 1 (iL xs)] fun r post=>r= .ret (.l (iL (xs.filter (· != 0))) false)/\post= [.own u 1 (iL xs)]:=by
 intro Z hs;refine c9 kZ ?_
 conv=>whnf
 repeat'((first|clear U K|apply st|(apply zk;intro K U)|fail)<;>conv=>whnf)
 refine(Wy 390 [] [] (· != 0) gx xs u hxl).use (rest:=[]) hs ?_;clear hs;rintro r post Z ⟨rfl,rfl⟩ hs;refine zv ?_;(repeat clear U K);repeat intro K U
 exact A4 hs (by simp) (.refl _) fun Z' hs'=>⟨_,⟨rfl,rfl⟩,hs'⟩
def Sz (g : List (List Int)) (f:Bool):Pure zP 296 [.l (Df g) f] (.b (Cn g)):=by
 refine Pure.fit (by kernel_rfl) fun hf=>?_
 have⟨g1,g2⟩:=Q5 hf.1;have hM:=Mx;refine df kZ ?_;have hs:=Sn;by_cases h16:g.length<=16
 .conv=>whnf
  repeat'((first|clear U K|apply st|(apply zk;intro K U)|refine zX ?_|(refine zb (fun hc=>?_) (fun hc=>?_)<;>try exact⟨⟩)|fail)<;>conv=>whnf)
  all_goals try(exfalso;omega)
  refine Cc g.length (fun k (_:Unit)=>[(12,eI (BU k))]) (fun _ _=>[]) (fun k _=>Cn g=GL k (g.drop k)) () rfl (by simp[Cn,h16]) hs ?_;clear hs;rintro k - Z hk hn hs;have hck:BU k=k:=AJ (by omega);rcases Bd g hk with⟨l,hl,hlt⟩|hke
  .have hll:=g2 l (Dx hl)
   rw[drop_cons hl,GL]at hn;by_cases h3:l.length<=3
   .rw[decide_eq_true h3,Fv]at hn
    conv=>whnf
    repeat'((first|clear U K|apply st|(apply zk;intro K U)|refine zX ?_|(refine zb (fun hc=>?_) (fun hc=>?_)<;>try exact⟨⟩)|fail)<;>conv=>whnf)
    all_goals try(exfalso;omega)
    refine Cc l.length (fun j (_:Unit)=>[(22,eI (BU j))]) (fun _ _=>[]) (fun j _=>Cn g=(JM k (l.take j) (l.drop j)&&GL (k+1) (g.drop (k+1)))) () rfl hn hs ?_;clear hs hn;rintro j - Z hj hn hs;rcases Bd l hj with⟨c,hc0,hjlt⟩|hje
    .rw[drop_cons hc0,JM,aZ]at hn
     have hw:IntKind.i64.wrap (3+BU k)=3+(k:Int):=by rw[hck,wrap64 (by omega) (by omega)]
     conv=>whnf
     repeat'((first|clear U K|apply st|(apply zk;intro K U)|refine zX ?_|refine Pure.use (EG _ _ _) ?_|(refine zd (fun hc=>?_) (fun hc=>?_)<;>try exact⟨⟩)|fail)<;>conv=>whnf)
     .exact AF (by rw[hn,hc];simp)
     .exact⟨hjlt,(),rfl,by rw[hn,hc,Aa hc0];simp[*],hs⟩
     .exact AF (by(rw[hn];have: ¬c<3+(k:Int):=by omega);simp[this])
     .exact AF (by(rw[hn];have: ¬3<=c:=by omega);simp[this])
    .refine zv ?_;(repeat clear U K);repeat intro K U
     exact⟨hlt,(),rfl,by rw[hn,Ax hje];rfl,hs⟩
   .conv=>whnf
    repeat'((first|clear U K|apply st|(apply zk;intro K U)|refine zX ?_|(refine zb (fun hc=>?_) (fun hc=>?_)<;>try exact⟨⟩)|fail)<;>conv=>whnf)
    all_goals try(exfalso;omega)
    exact AF (by rw[hn];simp[h3])
  .refine zv ?_;(repeat clear U K);repeat intro K U
   exact AF (by rw[hn,Ax hke];rfl)
 .conv=>whnf
  repeat'((first|clear U K|apply st|(apply zk;intro K U)|refine zX ?_|(refine zb (fun hc=>?_) (fun hc=>?_)<;>try exact⟨⟩)|fail)<;>conv=>whnf)
  all_goals try(exfalso;omega)
  exact AF (by simp[Cn,h16])
def P2 (g:List (List Int)) (f:Bool):Pure zP 260 [.l (Df g) f] (eI (if Cn g then 0 else 2)):=by
 refine dx kZ ?_;have hs:=Sn
 conv=>whnf
 repeat'((first|clear U K|apply st|(apply zk;intro K U)|refine Pure.use (Sz _ _) ?_|refine za (fun hc=>?_) fun hc=>?_|fail)<;>conv=>whnf)
 all_goals exact AF (by simp[*])
def gy (n:Nat) (h:Int):Dm zP (.f (.func 383) [] [.p n 0]) eI (fun _:Unit=>[.box n [eI h]]) (PA (· != h)) (fun _ _=>True):=by
 intro y s _ Z hs;refine Ct ?_;show BD zP 383 ([]++[eI y]++[.p n 0]) Z _;refine cz kZ ?_;refine zv ?_;(repeat clear U K);repeat intro K U
 exact A4 hs (List.Sublist.refl _) (.refl _) fun Z' hs'=>⟨rfl,hs'⟩
def UK (ls:List (List Int)):Dk ls []=false:=rfl
def Rp (ls:List (List Int)) (x:Int) (r:List Int):Dk ls (x::r)=free ls x:=rfl
def UP {α:Type} {p:α->Bool} {xs:List α} {k:Nat} {x:α} (hx:xs[k]? =some x) (h:(xs.take k).find? p=none):(xs.take (k+1)).find? p=if p x then some x else none:=by
 rw[Aa hx,List.find?_append,h];simp only[List.find?_cons,List.find?_nil,Option.none_or];cases p x<;>rfl
def UO {α:Type} {p:α->Bool} {xs:List α} {k:Nat} {x:α} (h:(xs.take k).find? p=some x):xs.find? p=some x:=by
 conv=>lhs;rw[<-List.take_append_drop k xs]
 rw[List.find?_append,h];rfl
def Sj (ls:List (List Int)):pick ls=(ls.find? (Dk ls)).bind List.head? :=rfl
def Wn (ls:List (List Int)) (f:Bool) (hok:JI ls) (ht:total ls<AX):Pure zP 361 [.l (Df ls) f] (.t [.l (iL (Bl ls).1) false,.b (Bl ls).2]):=by
 have hM:=Mx;refine dH kZ ?_;have hs:=Sn;refine zv ?_;(repeat clear U K);repeat intro K U
 refine LC (fun(x:List (List Int)×Bool×V×List Int)=>total x.1) (fun x=>[(0,.l (Df x.1) x.2.1),(4,x.2.2.1)]) (fun x=>[.own x.2.2.1 1 (iL x.2.2.2)])
  (fun x=>JI x.1/\x.2.2.2.length+total x.1<=total ls/\CQ (total x.1) x.1 x.2.2.2=Bl ls) (ls,f,.l [] true,[]) rfl ⟨hok,by simp,rfl⟩ (Gg hs 1) ?_
 clear hs;rintro⟨ls',f',v,out⟩ Z ⟨hok',hlen,hm⟩ hs;dsimp only at hok' hlen hm hs;dsimp only;have hol:=hok'.1;refine zv ?_;(repeat clear U K);repeat intro K U
 refine Cc ls'.length (fun k (t:Bool)=>[(5,.b t),(16,eI (BU k))]) (fun _ _=>[.own v 1 (iL out)]) (fun k t=>(ls'.take k).find? (Dk ls')=none/\t=(ls'.take k).any fun l=> !l.isEmpty) false rfl ⟨rfl,rfl⟩ hs ?_;clear hs;rintro k t Z hk ⟨hfd,hta⟩ hs;rcases Bd ls' hk with⟨l,hl,hlt⟩|hke
 .have hfs:=UP (p:=Dk ls') hl hfd
  have has:((ls'.take (k+1)).any fun l=> !l.isEmpty)=(t|| !l.isEmpty):=by rw[Aa hl,List.any_append,<-hta];simp
  have hb:=hok'.2 _ (Dx hl);cases l with
  | nil=>
    have hnl:([]:List Int).length=0:=rfl;rw[UK,if_neg (by decide)]at hfs
    conv=>whnf
    repeat'((first|clear U K|apply st|(apply zk;intro K U)|refine zX ?_|(refine zb (fun hc=>?_) (fun hc=>?_)<;>try exact⟨⟩)|fail)<;>conv=>whnf)
    exact⟨hlt,_,rfl,⟨hfs,by rw[has];simp⟩,hs⟩
  | cons x r=>
    have hx0:(x::r)[Int.toNat 0]? =some x:=rfl;have hnl:(x::r).length=r.length+1:=rfl;rw[Rp]at hfs;simp only[List.isEmpty_cons,Bool.not_false,Bool.or_true]at has
    conv=>whnf
    repeat'((first|clear U K|apply st|(apply zk;intro K U)|refine zX ?_|(refine zb (fun hc=>?_) (fun hc=>?_)<;>try exact⟨⟩)|fail)<;>conv=>whnf)
    refine Cc ls'.length (fun j (_:Unit)=>[(25,eI (BU j))]) (fun _ _=>[.own v 1 (iL out)]) (fun j _=>free ls' x=(ls'.drop j).all fun m=> !(m.drop 1).contains x) () rfl rfl hs ?_;clear hs;rintro j - Z hj hfr hs;rcases Bd ls' hj with⟨m,hm0,hjlt⟩|hje
    .have hmb:=(hok'.2 _ (Dx hm0)).1
     rw[drop_cons hm0,NV]at hfr;cases m with
     | nil=>
       have hml:([]:List Int).length=0:=rfl
       conv=>whnf
       repeat'((first|clear U K|apply st|(apply zk;intro K U)|refine zX ?_|(refine zb (fun hc=>?_) (fun hc=>?_)<;>try exact⟨⟩)|fail)<;>conv=>whnf)
       exact⟨hjlt,(),rfl,by rw[hfr];rfl,hs⟩
     | cons y s=>
       have hml:(y::s).length=s.length+1:=rfl
       conv=>whnf
       repeat'((first|clear U K|apply st|(apply zk;intro K U)|refine zX ?_|(refine zb (fun hc=>?_) (fun hc=>?_)<;>try exact⟨⟩)|fail)<;>conv=>whnf)
       refine Pa 1 rfl (by omega) (fun _=>rfl) ?_
       conv=>whnf
       repeat'((first|clear U K|apply st|(apply zk;intro K U)|refine zX ?_|refine Pure.use (EG _ _ _) ?_|refine za (fun hc=>?_) fun hc=>?_|fail)<;>conv=>whnf)
       .rw[hc]at hfr
        have hfr2:free ls' x=false:=by rw[hfr];rfl
        rw[hfr2,if_neg (by decide)]at hfs;exact⟨hlt,true,rfl,⟨hfs,by rw[has]⟩,hs⟩
       .exact⟨hjlt,(),rfl,by rw[hfr,hc];rfl,hs⟩
    .rw[Ax hje]at hfr
     have hgood:free ls' x=true:=hfr;rw[hgood,if_pos rfl]at hfs;have hp:pick ls'=some x:=by rw[Sj,UO hfs];rfl
     have htp:=GB hp
     conv=>whnf
     repeat'((first|clear U K|apply st|(apply zk;intro K U)|refine zX ?_|refine zr fun Z hs=>?_|refine aq fun v Z hs hsl=>?_|refine zp fun nn hnn Z hs=>?_|fail)<;>conv=>whnf)
     have hs2:Sat Z [.own v 1 (iL (out++[x])),.box nn [eI x]]:=hs;refine Cc ls'.length (fun k u=>[(11,u),(50,eI (BU k))]) (fun k u=>[.own v 1 (iL (out++[x])),.box nn [eI x],.own u 1 (Df ((ls'.take k).map fun l=>l.filter (· != x)))]) (fun _ _=>True) (.l [] true) rfl trivial (Gg hs2 1) ?_;clear hs hs2;rintro q u Z hq - hs;rcases Bd ls' hq with⟨w,hw,hqlt⟩|hqe
     .refine zv ?_;(repeat clear U K);repeat intro K U
      refine(Yo 383 [] [.p nn 0] [.box nn [eI x]] (· != x) (gy nn x) w false).use (rest:=[_,_]) (hs.perm (.swap _ _ _)) ?_;clear hs;rintro rr post Z ⟨rfl,rfl⟩ hs
      conv=>whnf
      repeat'((first|clear U K|apply st|(apply zk;intro K U)|refine zX ?_|refine aq fun v Z hs hsl=>?_|fail)<;>conv=>whnf)
      refine⟨hqlt,_,rfl,trivial,?_⟩;rw[Aa hw,R8];exact hs.perm (.swap _ _ _)
     .refine zv ?_;(repeat clear U K);repeat intro K U
      rw[BN hqe]at hs;refine bD hs 2 rfl fun Z' hs'=>?_
      refine zv ?_;(repeat clear U K);repeat intro K U
      refine⟨(ls'.map fun l=>l.filter (· != x),false,v,out++[x]),htp,rfl,⟨hok'.filter x,by simp;omega,?_⟩,hs'.take 1⟩;rw[<-KD hp];exact hm
 .rw[BN hke]at hfd hta
  have hp:pick ls'=none:=by rw[Sj,hfd];rfl
  rw[Lx hp]at hm;refine zv ?_;(repeat clear U K);repeat intro K U
  refine B1 ?_;rw[<-hm];refine .t (.cons (hs.HR 0 rfl) (.cons ?_ .nil));have:(!t)=ls'.all List.isEmpty:=by rw[hta];simp[List.all_eq_not_any_not]
  rw[<-this];exact .refl _
end Go.Gl
