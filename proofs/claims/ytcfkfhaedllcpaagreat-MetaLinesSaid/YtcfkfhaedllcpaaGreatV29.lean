import Derived.Test.YtcfkfhaedllcpaaGreatV14
import Derived.Test.YtcfkfhaedllcpaaGreatV15
import Derived.Test.YtcfkfhaedllcpaaGreatV19
import Derived.Test.YtcfkfhaedllcpaaGreatV22
import Derived.Test.YtcfkfhaedllcpaaGreatV24
import Derived.Test.YtcfkfhaedllcpaaGreatV26
import Derived.Test.YtcfkfhaedllcpaaGreatV28
set_option linter.all false
set_option linter.defProp false
set_option maxHeartbeats 8000000
noncomputable section
namespace Go.Gl
open Go.Proofs
attribute [local irreducible] A6 Ar Ah AR AI Ae AQ AT AK Ad AN AO Ay A7 Sat AY A5 Ai W
abbrev Ko (l:Fact):List V:=xF (Av l).1++[.b (Av l).2]
abbrev FG (ls:List Fact):List (List V):=ls.map Ko
def mI (xs ys:List Int) (f g:Bool):Pure zP 27 [.l (iL xs) f,.l (iL ys) g] (.b (xs==ys)):=by
 refine Pure.fit (by kernel_rfl) fun hf=>?_
 have hx:=Lo hf.1;have hy:=Lo hf.2.1;have hM:=Mx;refine yz kZ ?_;have hs:=Sn
 conv=>whnf
 repeat'((first|clear U K|apply st|(apply zk;intro K U)|refine zY ?_|(refine zd (fun hc=>?_) (fun hc=>?_)<;>try exact⟨⟩)|fail)<;>conv=>whnf)
 .exact AF (by(have:(xs==ys)=false:=by(simp;intro e;subst e;simp at hc));rw[this])
 have hl:xs.length=ys.length:=by omega
 refine By xs.length (fun k (_:Unit)=>[(13,eI (A9 k))]) (fun _ _=>[]) (fun k _=>(xs==ys)=(xs.drop k==ys.drop k)) () rfl rfl Sat.nil ?_;clear hs;rintro k - Z hk hn hs;rcases A3 xs hk with⟨x,hxk,hlt⟩|hke
 .obtain⟨y,hyk⟩: ∃y,ys[k]? =some y:=⟨_,Cw (by omega)⟩
  rw[drop_cons hxk,drop_cons hyk]at hn
  conv=>whnf
  repeat'((first|clear U K|apply st|(apply zk;intro K U)|refine zY ?_|refine za (fun hc=>?_) fun hc=>?_|fail)<;>conv=>whnf)
  .exact AF (by rw[hn];simp[*])
  .exact⟨hlt,(),rfl,by rw[hn];simp[*],hs⟩
 .refine zz ?_;(repeat clear U K);repeat intro K U
  exact AF (by rw[hn,Al hke,Al (by omega)];rfl)
def nM (a b:Bool) (u:V):Pure zP 406 [.l [] a,.l [] b,u] (.b true):=by
 refine tA kZ ?_;have hs:=Sn;have hM:=Mx
 conv=>whnf
 repeat'((first|clear U K|apply st|(apply zk;intro K U)|refine zY ?_|(refine zb (fun hc=>?_) (fun hc=>?_)<;>try exact⟨⟩)|fail)<;>conv=>whnf)
 refine By 0 (fun k (_:Unit)=>[(17,eI (A9 k))]) (fun _ _=>[]) (fun _ _=>True) () rfl trivial Sat.nil ?_;clear hs;rintro k - Z hk - hs;obtain rfl:k=0:=by omega
 conv=>whnf
 repeat'((first|clear U K|apply st|(apply zk;intro K U)|refine zY ?_|(refine zd (fun hc=>?_) (fun hc=>?_)<;>try exact⟨⟩)|fail)<;>conv=>whnf)
 .exfalso
  simp at hc
 .exact AF rfl
def mJ (f g:Fact) (hf:f.kids= []) (hg:g.kids= []):Pure zP 402 [.a (xF f),.a (xF g)] (.b (Fj f g)):=by
 have e:Fj f g=(f.op==g.op&&(f.arg==g.arg&&(f.cls==g.cls&&(f.n==g.n&&f.path==g.path)))):=by
  rw[MG,hf,hg];simp[Rb]
 obtain⟨o,a,p,c,n,k⟩:=f;obtain⟨o',a',p',c',n',k'⟩:=g;simp only[Fact.kids]at hf hg;subst hf;subst hg;refine tD kZ ?_;have hs:=Sn;rw[e]
 conv=>whnf
 repeat'((first|clear U K|apply st|(apply zk;intro K U)|refine zY ?_|refine Pure.use (mI _ _ _ _) ?_|refine Pure.use (nM _ _ _) ?_|refine za (fun hc=>?_) fun hc=>?_|fail)<;>conv=>whnf)
 all_goals simp only[Fact.op,Fact.arg,Fact.cls,Fact.n,Fact.path]at *
 all_goals exact AF (by simp[*])
def Xw:FI Ko 7:=fun l=>by
 refine⟨rfl,fun v hv=>?_⟩;rcases FC.1 hv with hv|hv
 .exact(K0 (Av l).1).2 v (by show v∈GR (Av l).1;rw[BX];exact hv)
 .simp at hv;subst hv;rfl
def Rr (x y:Fact):Bool:=(Av x).2==(Av y).2&&Fj (Av x).1 (Av y).1
abbrev ZI (l:Fact):Prop:=(Av l).1.kids= []
abbrev qO (f:Fact->Bool):Fact->Unit->Bool×Unit:=fun y _=>(f y,())
def mK (x:Fact) (hx1:ZI x) (n:Nat):C3 zP (.f (.func 401) [] [.p n 0]) (fun y=> .a (Ko y)) (fun _:Unit=>[.box n (Ko x)]) (qO (Rr x)) (fun y _=>ZI y):=by
 intro y s hy1 Z hs;refine Bh ?_;show A6 zP 401 ([]++[.a (Ko y)]++[.p n 0]) Z _;refine tE kZ ?_;unfold Rr
 conv=>whnf
 repeat'((first|clear U K|apply st|(apply zk;intro K U)|refine zY ?_|refine Pure.use (mJ _ _ hx1 hy1) ?_|refine za (fun hc=>?_) fun hc=>?_|fail)<;>conv=>whnf)
 all_goals exact AU ⟨by simp[qO, *],hs⟩
section
variable {S:Type} (g:FuncId) (fi ca:List V) (H:S->List At)
def Rj (stp:Fact->S->Bool×S) (D:Fact->S->Prop) {v:V} {xs:List Fact} (hst:C3 zP (.f (.func g) fi ca) (fun y=> .a (Ko y)) (fun s=> .own v 7 (FG xs)::H s) stp D) (hxl:xs.length<=AX) (s0:S) (hd:XW stp D xs s0) :
    Be zP 405 [v,.f (.func g) fi ca] (.own v 7 (FG xs)::H s0) fun r post=>r= .ret (eI (Bm stp xs 0 s0).1)/\post= .own v 7 (FG xs)::H (Bm stp xs 0 s0).2:=by
 intro Z hs;have hM:=Mx;refine tB kZ ?_;refine zz ?_;(repeat clear U K);repeat intro K U
 refine By xs.length (fun k (_:S)=>[(8,eI (A9 k))]) (fun _ s=> .own v 7 (FG xs)::H s) (fun k s=>XW stp D (xs.drop k) s/\Bm stp xs 0 s0=Bm stp (xs.drop k) k s) s0 rfl ⟨hd,rfl⟩ hs ?_;clear hs;rintro k s Z hk ⟨hd,hn⟩ hs;have hck:A9 k=k:=AM (by omega);rcases A3 xs hk with⟨y,hy,hlt⟩|hke
 .rw[drop_cons hy]at hn hd
  obtain⟨hd1,hd2⟩:=hd;rw[Bm]at hn
  conv=>whnf
  repeat'((first|clear U K|apply st|(apply zk;intro K U)|refine zY ?_|refine ze fun x hx=>?_|fail)<;>conv=>whnf)
  obtain rfl:x=y:=by rw[hck,JC,hy]at hx;exact(Option.some.inj hx).symm
  refine hst.use hd1 hs ?_;clear hs;intro Z hs;cases hyes:(stp x s).1
  .rw[hyes,if_neg (by decide)]at hn
   refine zz ?_;(repeat clear U K);repeat intro K U
   exact⟨hlt,_,rfl,⟨hd2,hn⟩,hs⟩
  .rw[hyes,if_pos rfl]at hn
   refine zz ?_;(repeat clear U K);repeat intro K U
   rw[hn];exact AU ⟨_,⟨by rw[hck],rfl⟩,hs⟩
 .rw[Al hke,Bm]at hn
  refine zz ?_;(repeat clear U K);repeat intro K U
  rw[hn];exact AU ⟨_,⟨rfl,rfl⟩,hs⟩
def N0 (stp:Fact->S->Bool×S) (D:Fact->S->Prop) {v:V} {xs:List Fact} (hst:C3 zP (.f (.func g) fi ca) (fun y=> .a (Ko y)) (fun s=> .own v 7 (FG xs)::H s) stp D) (hxl:xs.length<=AX) (s0:S) (hd:XW stp D xs s0) :
    Be zP 400 [v,.f (.func g) fi ca] (.own v 7 (FG xs)::H s0) fun r post=>r= .ret (.b (decide ((Bm stp xs 0 s0).1≥0)))/\post= .own v 7 (FG xs)::H (Bm stp xs 0 s0).2:=by
 intro Z hs;refine tF kZ ?_
 conv=>whnf
 repeat'((first|clear U K|apply st|(apply zk;intro K U)|fail)<;>conv=>whnf)
 refine(Rj g fi ca H stp D hst hxl s0 hd).use (rest:=[]) (by simpa using hs) ?_;rintro r post Z ⟨rfl,rfl⟩ hs;refine zz ?_;(repeat clear U K);repeat intro K U
 exact AU ⟨_,⟨rfl,rfl⟩,by simpa using hs⟩
end
def kI (a:List Fact) (f:Bool) (hl:a.length<=1000000):Be zP 399 [.l (FG a) f] [] fun r post=> ∃v,r= .ret v/\post= [.own v 7 (FG a)]:=by
 intro Z hs;have hM:=Mx;refine tG kZ ?_
 conv=>whnf
 repeat'((first|clear U K|apply st|(apply zk;intro K U)|fail)<;>conv=>whnf)
 refine⟨fun e t=>?_,fun _=>?_⟩
 .have hxe:a= []:=List.map_eq_nil_iff.1 e
  subst hxe
  conv=>whnf
  repeat'((first|clear U K|apply st|(apply zk;intro K U)|refine za (fun hc=>?_) fun hc=>?_|fail)<;>conv=>whnf)
  .exact AU ⟨_,⟨_,rfl,rfl⟩,Ci hs 7⟩
  .replace hs:=Ci hs 7
   refine GP hs 0 (xs:=[]) (ys:=[]) rfl (by simp) Xw fun v Z hs=>?_
   refine zz ?_;(repeat clear U K);repeat intro K U
   exact AU ⟨_,⟨_,rfl,rfl⟩,hs⟩
 .refine zz ?_;(repeat clear U K);repeat intro K U
  replace hs:=Ci hs 7;refine GP hs 0 (xs:=[]) (ys:=a) rfl (by simp;omega) Xw fun v Z hs=>?_
  refine zz ?_;(repeat clear U K);repeat intro K U
  exact AU ⟨_,⟨_,rfl,rfl⟩,hs⟩
def Vs {w:AH} {x:Fact} (h:I8 w x):x=if(Av x).2 then Fi (Av x).1 else(Av x).1:=by
 obtain⟨g,hn,hl,rfl|rfl⟩:=h
 .have:=F5 hl
  have h5: ¬x.op=5:=by omega
  simp only[Av,if_neg h5];rfl
 .rfl
def Zf {w:AH} {x y:Fact} (hx1:I8 w x) (hy1:I8 w y):Rr x y=Fj x y:=by
 rw[KO,NX];simp only[Rr,BD,EZ,NX];constructor
 .rintro⟨h1,h2⟩
  rw[Vs hx1,Vs hy1,h1,h2]
 .rintro rfl
  exact⟨rfl,rfl⟩
def Sa {w:AH} {x:Fact} (h:I8 w x):ZI x:=by
 obtain⟨-,hn,hl⟩:=Hl h;have hlo:=F5 hl;have har:=Cu _ hn;rw[MY,BD,EZ]at har
 have h0:CR (Av x).1.op=0:=by
  have h5: ¬(Av x).1.op=5:=by omega
  have h6: ¬((Av x).1.op=6\/(Av x).1.op=7):=by omega
  simp[CR,h5,h6]
  try omega
 rw[h0]at har;exact Y5.1 har.1
def c8 {w:AH} (a b:List Fact) (f g:Bool) (hla: ∀x∈a,I8 w x) (hlb: ∀x∈b,I8 w x) (hl:a.length+b.length<1000000):Pure zP 395 [.l (FG a) f,.l (FG b) g] (.l (FG (CM a b)) false):=by
 have hM:=Mx;refine Pure.of ?_;refine tJ kZ ?_;have hs:=Sn
 conv=>whnf
 repeat'((first|clear U K|apply st|(apply zk;intro K U)|fail)<;>conv=>whnf)
 refine(kI a f (by omega)).use (rest:=[]) (by simpa using hs) ?_;clear hs;rintro r post Z ⟨v,rfl,rfl⟩ hs;refine zz ?_;(repeat clear U K);repeat intro K U
 refine By b.length (fun k v=>[(5,v),(12,eI (A9 k))]) (fun k v=>[.own v 7 (FG (CM a (b.take k)))]) (fun _ _=>True) v rfl trivial hs ?_;clear hs;rintro k v Z hk - hs;have hml:=Nk a (b.take k);rw[LY]at hml;rcases A3 b hk with⟨x,hxk,hlt⟩|hke
 .have hsn:=Qi a (b.take k) x
  rw[<-AL hxk]at hsn;have hxg:=hlb x (Bz hxk)
  have hmem: ∀y∈CM a (b.take k),I8 w y:=fun y hy=>by
   rcases Sh _ _ _ hy with h|h
   .exact hla y h
   .exact hlb y (List.mem_of_mem_take h)
  generalize CM a (b.take k)=m at *
  have hany:m.any (Rr x)=m.any (Fj x):=by
   rw[KO,KM,KM];exact⟨fun⟨y,hy,h⟩=>⟨y,hy,by rw[<-Zf hxg (hmem y hy)];exact h⟩,fun⟨y,hy,h⟩=>⟨y,hy,by rw[Zf hxg (hmem y hy)];exact h⟩⟩
  conv=>whnf
  repeat'((first|clear U K|apply st|(apply zk;intro K U)|refine zY ?_|refine zs fun Z hs=>?_|refine zo fun nn hnn Z hs=>?_|fail)<;>conv=>whnf)
  generalize nn=n7 at *;have hs2:Sat Z [.own v 7 (FG m),.box n7 (Ko x)]:=hs.perm (.swap _ _ _);clear hs hnn;refine(N0 401 [] [.p n7 0] (fun _:Unit=>[.box n7 (Ko x)]) (qO (Rr x)) (fun y _=>ZI y) ((mK x (Sa hxg) n7).more [_]) (by omega) () (HD fun y hy _=>Sa (hmem y hy))).use (rest:=[]) hs2 ?_;clear hs2;rintro r post Z ⟨rfl,rfl⟩ hs;rw[MV,hany];cases hy:m.any (Fj x)
  .rw[hy,if_neg Bool.false_ne_true]at hsn
   refine zz ?_;(repeat clear U K);repeat intro K U
   refine Gc (F0 (x:=x) (xs:=m) (enc:=Ko) hs 0 rfl (by omega) Xw fun v Z hs hsl=>?_);refine zz ?_;(repeat clear U K);repeat intro K U
   exact⟨hlt,v,rfl,trivial,by rw[hsn];exact hs.less (.cons₂ _ (Jm _))⟩
  .rw[hy,if_pos rfl]at hsn
   refine zz ?_;(repeat clear U K);repeat intro K U
   exact⟨hlt,v,rfl,trivial,by rw[hsn];exact hs.less (.cons₂ _ (Jm _))⟩
 .refine zz ?_;(repeat clear U K);repeat intro K U
  exact eJ (EF hs 0 rfl (vf:= .l (FG (CM a b)) false) (by rw[Ap hke])) fun r Z h=>h.1
def HY {Z:AE} {X:List At} {L:Nat} {pre post:List C0} {e:C0} (h:Sat Z (X++B9 L (pre++e::post))):Sat Z (.box e.b [eI e.k.low,eI e.k.high,e.vn,eU e.k.B5,eU e.k.Gq,.b e.k.whole,.b e.k.A0,e.vs]:: .own e.vn 1 (iL e.k.no):: .own e.vs 1 (iL e.k.AG)::(X++HW L (pre++e::post) pre post)):=by
 have h2:Sat Z (VS e++(X++HW L (pre++e::post) pre post)):=h.perm ((List.Perm.append_left X (WH L pre post e)).trans (by rw[<-XO,<-XO];exact Rn.append_right _));exact h2
def ER {Z:AE} {X:List At} {L:Nat} {pre post:List C0} {e e':C0} (h1:e'.a=e.a) (h2:e'.p=e.p) (h3:e'.b=e.b) (h:Sat Z (VS e'++(X++HW L (pre++e::post) pre post))):Sat Z (X++B9 L (pre++e'::post)):=by
 rw[<-Ua h1 h2 h3]at h;exact h.perm ((List.Perm.append_left X (WH L pre post e')).trans (by rw[<-XO,<-XO];exact Rn.append_right _)).symm
def Lj {α:Type} (a b c:α) (l:List α):(a::b::c::l).Perm (b::c::a::l):=(List.Perm.swap _ _ _).trans (.cons _ (.swap _ _ _))
def Ni {α:Type} (a:α) (l:List α):(a::l).Perm (l++[a]):=(List.perm_append_singleton a l).symm
def oz (m:Nat) (k:Kn):Prop:=k.B5<18446744073709551616/\k.Gq<18446744073709551616/\k.no.length<=m/\k.AG.length<=m
def nI (f:Fact) (c:Bool) (j:Nat) (a:Int) (p:List Int) (k:Kn):(Db f c j a p k).B5=k.B5:=by unfold Db;(repeat' split)<;>rfl
def sO (f:Fact) (c:Bool) (j:Nat) (a:Int) (p:List Int) (k:Kn):(Db f c j a p k).Gq=k.Gq:=by unfold Db;(repeat' split)<;>rfl
def yQ (f:Fact) (c:Bool) (j:Nat) (a:Int) (p:List Int) (k:Kn):(Db f c j a p k).no=k.no:=by unfold Db;(repeat' split)<;>rfl
def je (f:Fact) (c:Bool) (j:Nat) (a:Int) (p:List Int) (k:Kn):(Db f c j a p k).AG.length<=k.AG.length+1:=by
 unfold Db
 repeat' split
 .exact TE _ _
 all_goals simp[Dg]
def yP {m:Nat} {k:Kn} (h:oz m k) (f:Fact) (c:Bool) (j:Nat) (a:Int) (p:List Int):oz (m+1) (Db f c j a p k):=by
 obtain⟨h1,h2,h3,h4⟩:=h;refine⟨by rw[nI];exact h1,by rw[sO];exact h2,by rw[yQ];omega,?_⟩;have:=je f c j a p k;omega
def SY {k:Kn} (c:Bool) (h:k.A0=true):Dg k c= {k with A0:=true}:=by simp[Dg,h]
def Qc {k:Kn} (c:Bool) (h:k.A0=false):Dg k c= {k with A0:= !c}:=by simp[Dg,h]
abbrev LZ (a:Int) (p:List Int):List V:=[eI a,eI (p.length:Int),eI (p.getD 0 0),eI (p.getD 1 0)]
structure fh (f:Fact):Prop where
 op:f.op=2\/f.op=3\/f.op=4
 path:f.path.length<=2
 cls:f.op=2->0<=f.cls/\f.cls<64
 n: -1000000000<=f.n/\f.n<=1000000000
def oq (w : AH) (us:List Nat) {kf:Int->List Int->Kn} {L:Nat} {es:List C0} (h:Dv kf es) (f:Fact) (c:Bool) (hl:fh f) {m:Nat} (hm:m<1000) (hb: ∀a p,oz m (kf a p)) :
    Be zP 403 [Ux w us L,.a (xF f++[.b c])] (B9 L es) fun r post=>r= .ret (.t [])/\ ∃es',Dv (fun a p=>if a=f.arg/\p=f.path then Cn (Db f c f.path.length a p (kf a p)) f c else Db f c f.path.length a p (kf a p)) es'/\post=B9 L es':=by
 intro Z hs;have hM:=Mx;obtain⟨l1,l2,l3,l4⟩:=hl;refine tC kZ ?_;rw[show xF f++[V.b c]= [eI f.op,eI f.arg,.l (iL f.path) false,eI f.cls,eI f.n,.l (f.kids.map GR) false,.b c] from rfl]
 conv=>whnf
 repeat'((first|clear U K|apply st|(apply zk;intro K U)|refine zY ?_|refine zs fun Z hs=>?_|refine zo fun nn hnn Z hs=>?_|fail)<;>conv=>whnf)
 generalize nn=nx at *;refine(Lq w us h (a:=f.arg) (p:=[]) (by simp)).use (rest:=[.box nx (LZ f.arg [])]) (hs.perm (Ni _ _)) ?_;clear hs hnn;rintro r post Z ⟨es1,e1,got,rfl,rfl⟩ hs;have hek:=got.k;obtain⟨hea,hep⟩:=Ky.1 got.is;obtain⟨pre,post,rfl⟩:=List.append_of_mem got.mem;replace hs:=HY (X:=[.box nx (LZ f.arg [])]) (hs.perm Rn);cases hnd:e1.k.A0<;>rw[hnd]at hs
 all_goals
  conv=>whnf
  repeat'((first|clear U K|apply st|(apply zk;intro K U)|refine zY ?_|refine zs fun Z hs=>?_|fail)<;>conv=>whnf)
  obtain⟨e2,es2,hA,hB,hC⟩: ∃(e2:C0) (es2:List C0),(Dv (fun a p=>Db f c 0 a p (kf a p)) es2/\e2∈es2/\e2.is f.arg (f.path.take 0)=true)/\e2.b=e1.b/\Sat Z (.box nx (LZ f.arg (f.path.take 0))::B9 L es2):=by
   refine⟨⟨e1.a,e1.p,e1.b,e1.vn,e1.vs,Dg e1.k c⟩,_,⟨(got.inv.change e1.b e1.vn e1.vs (Dg e1.k c)).congr fun a p=>?_,N1 _ (.head _),got.is⟩,rfl,?_⟩
   .rw[nG,U0,hea,hep,hek]
    by_cases ha:a=f.arg/\p= []
    .rw[if_pos ha,if_pos ha,ha.1,ha.2]
    .rw[if_neg ha,if_neg ha]
   .refine ER (X:=[.box nx (LZ f.arg [])]) (e:=e1) rfl rfl rfl ?_
    first
     | (rw[SY c hnd];exact hs)
     | (rw[Qc c hnd];exact hs)
  rw[<-hB];clear hs hnd got hek hea hep;refine By f.path.length (fun j (x:List C0×C0)=>[(31,eI (A9 j)),(5,.p x.2.b 0)]) (fun j x=> .box nx (LZ f.arg (f.path.take j))::B9 L x.1) (fun j x=>Dv (fun a p=>Db f c j a p (kf a p)) x.1/\x.2∈x.1/\x.2.is f.arg (f.path.take j)=true) (es2,e2) rfl hA hC ?_;clear hA hC;generalize e2.b=b0 at *;clear hB e2 es2;rintro j ⟨es2,e2⟩ Z hj ⟨hinv,hmem,his⟩ hs;simp only at hinv hmem his hs
  have hek:e2.k=Db f c j f.arg (f.path.take j) (kf f.arg (f.path.take j)):=by
   have:=hinv.val e2 hmem;obtain⟨h1,h2⟩:=Ky.1 his;rw[this,h1,h2]
  have hok:oz (m+1) e2.k:=by rw[hek];exact yP (hb _ _) f c j _ _
  obtain⟨hea,hep⟩:=Ky.1 his;obtain⟨pre2,post2,rfl⟩:=List.append_of_mem hmem;replace hs:=HY (X:=[.box nx (LZ f.arg (f.path.take j))]) hs;have hck:A9 j=j:=AM (by omega);rcases A3 f.path hj with⟨s,hsj,hjlt⟩|hje
  .have hct:=fun b=>Dt e2.k.AG b s
   have hk4:=hok.2.2.2;have hsl0:lA e2.k s= {e2.k with AG:=JX e2.k.AG s}:=rfl
   have hne:f.path.take j++[s]≠f.path.take j:=by
    intro e;have:=congrArg List.length e;simp at this
   have hgd:f.path.getD j 0=s:=by rw[DL,hsj];rfl
   have htk:f.path.take (j+1)=f.path.take j++[s]:=AL hsj;cases hcB:e2.k.AG.contains s
   all_goals
    rw[hcB]at hct
    conv=>whnf
    repeat'((first|clear U K|apply st|(apply zk;intro K U)|refine zY ?_|refine zs fun Z hs=>?_|refine aq fun v Z hs hsl=>?_|refine Pure.bZ (hct false) (.cons (hs.HP 2 rfl) (.cons (.refl _) .nil)) rfl ?_|refine Pure.use (Ox f.arg (f.path.take j) s (by rw[LY];omega)) ?_|fail)<;>conv=>whnf)
   refine(fK (.inl hsl)).use (rest:=_) (hs.front (j:=2) rfl) ?_;clear hs;rintro r post Z ⟨rfl,rfl⟩ hs;replace hs:Sat Z (.box e2.b [eI e2.k.low,eI e2.k.high,e2.vn,eU e2.k.B5,eU e2.k.Gq,.b e2.k.whole,.b e2.k.A0,v]:: .own e2.vn 1 (iL e2.k.no):: .own v 1 (iL ((e2.k.AG++[s]).mergeSort HO))::([.box nx (LZ f.arg (f.path.take j))]++HW L (pre2++e2::post2) pre2 post2)):=hs.perm (Lj _ _ _ _)
   conv=>whnf
   repeat'((first|clear U K|apply st|(apply zk;intro K U)|refine zY ?_|refine zs fun Z hs=>?_|refine Pure.use (Ox f.arg (f.path.take j) s (by rw[LY];omega)) ?_|fail)<;>conv=>whnf)
   have hs3: ∃vs3,Sat Z (.box nx (LZ f.arg (f.path.take j++[s]))::B9 L (pre2++⟨e2.a,e2.p,e2.b,e2.vn,vs3,lA e2.k s⟩::post2)):=⟨v,ER (X:=[_]) (e:=e2) rfl rfl rfl (by rw[hsl0,JX,if_neg (by rw[hcB];decide)];exact hs)⟩
   rotate_left
   have hs3: ∃vs3,Sat Z (.box nx (LZ f.arg (f.path.take j++[s]))::B9 L (pre2++⟨e2.a,e2.p,e2.b,e2.vn,vs3,lA e2.k s⟩::post2)):=⟨e2.vs,ER (X:=[_]) (e:=e2) rfl rfl rfl (by rw[hsl0,JX,if_pos hcB];exact hs)⟩
   all_goals
    clear hs;obtain⟨vs3,hs⟩:=hs3;have hinv3:=hinv.change e2.b e2.vn vs3 (lA e2.k s);refine(Lq w us hinv3 (a:=f.arg) (p:=f.path.take j++[s]) (by rw[Ro,LY];simp;omega)).use (rest:=[.box nx (LZ f.arg (f.path.take j++[s]))]) (hs.perm (Ni _ _)) ?_;clear hs;rintro r post Z ⟨es4,e4,got,rfl,rfl⟩ hs;have hek4:=got.k;obtain⟨hea4,hep4⟩:=Ky.1 got.is;obtain⟨pre4,post4,rfl⟩:=List.append_of_mem got.mem;replace hs:=HY (X:=[.box nx (LZ f.arg (f.path.take j++[s]))]) (hs.perm Rn);cases hnd:e4.k.A0<;>rw[hnd]at hs
    all_goals
     conv=>whnf
     repeat'((first|clear U K|apply st|(apply zk;intro K U)|refine zY ?_|refine zs fun Z hs=>?_|fail)<;>conv=>whnf)
     refine⟨hjlt,(pre4++⟨e4.a,e4.p,e4.b,e4.vn,e4.vs,Dg e4.k c⟩::post4,⟨e4.a,e4.p,e4.b,e4.vn,e4.vs,Dg e4.k c⟩),rfl,⟨(got.inv.change e4.b e4.vn e4.vs (Dg e4.k c)).congr fun a p=>?_,N1 _ (.head _),by rw[htk];exact got.is⟩,?_⟩
     .rw[nH f c hjlt,U0,hea4,hep4,htk,hgd]
      by_cases h1:a=f.arg/\p=f.path.take j++[s]
      .rw[if_pos h1,if_pos h1,hek4,U0,hea,hep,if_neg (fun h=>hne h.2),h1.1,h1.2]
      .rw[if_neg h1,if_neg h1,U0,hea,hep]
       by_cases h2:a=f.arg/\p=f.path.take j
       .rw[if_pos h2,if_pos h2,hek,h2.1,h2.2]
       .rw[if_neg h2,if_neg h2]
     .rw[htk]
      refine ER (X:=[.box nx (LZ f.arg (f.path.take j++[s]))]) (e:=e4) rfl rfl rfl ?_
      first
       | (rw[SY c hnd];exact hs)
       | (rw[Qc c hnd];exact hs)
  .have etk:f.path.take j=f.path:=Ap hje
   rw[etk]at his hs hek hep;refine zz ?_;(repeat clear U K);repeat intro K U
   refine(wg f c l1 l3 hok.1 hok.2.1 (by have:=hok.2.2.1;omega) l4).use (rest:=[.box nx (LZ f.arg f.path)]++HW L (pre2++e2::post2) pre2 post2) hs ?_;rintro r post Z ⟨rfl,vn',rfl⟩ hs
   conv=>whnf
   repeat'((first|clear U K|apply st|fail)<;>conv=>whnf)
   refine AU ⟨_,⟨rfl,_,(hinv.change e2.b vn' e2.vs (Cn e2.k f c)).congr fun a p=>?_,rfl⟩,(ER (X:=[.box nx (LZ f.arg f.path)]) (e:=e2) (e':=⟨e2.a,e2.p,e2.b,vn',e2.vs,Cn e2.k f c⟩) rfl rfl rfl hs).less (LW _ _)⟩;rw[U0,hea,hep,hek,<-hje];by_cases h1:a=f.arg/\p=f.path
   .rw[if_pos h1,if_pos h1,h1.1,h1.2]
   .rw[if_neg h1,if_neg h1]
def wq (w:AH) (us:List Nat) {kf:Int->List Int->Kn} {L:Nat} {es:List C0} (h:Dv kf es) (l:Fact) (hl:fh (Av l).1) {m:Nat} (hm:m<1000) (hb: ∀a p,oz m (kf a p)) :
    Be zP 403 [Ux w us L,.a (Ko l)] (B9 L es) fun r post=>r= .ret (.t [])/\ ∃es',Dv (fun a p=>DA a p (kf a p) l) es'/\post=B9 L es':=fun Z hs=>
 A6.mono (oq w us h (Av l).1 (Av l).2 hl hm hb Z hs) fun r Z' ⟨post,⟨h1,es',h2,h3⟩,h4⟩=>⟨post,⟨h1,es',h2.congr fun a p=>(sP a p (kf a p) l).symm,h3⟩,h4⟩
def X9 (ls:List Fact):Prop:= ∀l∈ls,fh (Av l).1
def gR {ls:List Fact} (h:X9 ls) (a:Int) (p:List Int):oz ls.length (kn ls a p):=by
 have hc:JM 64 ls:=fun l hl ho=>(h l hl).cls ho
 obtain⟨h1,h2⟩:=nK hc a p;obtain⟨h3,h4⟩:=gS a p ls k0;exact⟨by simpa using h1,by simpa using h2,by simpa[kn,k0]using h3,by simpa[kn,k0]using h4⟩
def inv0:Dv (kn []) []:=⟨fun x hx=>(by cases hx),fun a p _=>rfl,.nil,fun x hx=>(by cases hx)⟩
def ik (w:AH) (us:List Nat) (ls:List Fact) (b:Bool) (h:X9 ls) (hlen:ls.length<900) :
    Be zP 397 [.rp (wC w us),.l (FG ls) b] [] fun r post=> ∃L es,r= .ret (Ux w us L)/\Dv (kn ls) es/\post=B9 L es:=by
 intro Z hs;have hM:=Mx;refine tI kZ ?_
 conv=>whnf
 repeat'((first|clear U K|apply st|(apply zk;intro K U)|refine zo fun nn hnn Z hs=>?_|fail)<;>conv=>whnf)
 generalize nn=L at *;refine By ls.length (fun k (x:List C0)=>[(14,eI (A9 k))]) (fun k x=>B9 L x) (fun k x=>Dv (kn (ls.take k)) x) [] rfl inv0 hs ?_;clear hs hnn;rintro k es Z hk hinv hs;rcases A3 ls hk with⟨l,hlk,hlt⟩|hke
 .have hlm:l∈ls:=Bz hlk
  have htk:ls.take (k+1)=ls.take k++[l]:=AL hlk;have hbk: ∀a p,oz (ls.take k).length (kn (ls.take k) a p):=gR fun x hx=>h x (List.mem_of_mem_take hx)
  conv=>whnf
  repeat'((first|clear U K|apply st|(apply zk;intro K U)|refine zY ?_|refine zs fun Z hs=>?_|refine zo fun nn hnn Z hs=>?_|fail)<;>conv=>whnf)
  rename_i nb hnb _ hs;generalize nn=n7 at *;refine(wq w us hinv l (h l hlm) (m:=(ls.take k).length) (by rw[LY];omega) hbk).use (rest:=[.box n7 (Ko l)]) (hs.perm (Ni _ _)) ?_;clear hs;rintro r post Z ⟨rfl,es',hinv',rfl⟩ hs;refine zz ?_;(repeat clear U K);repeat intro K U
  refine⟨hlt,es',rfl,?_,hs.less (List.sublist_append_left _ _)⟩;rw[htk];exact hinv'.congr fun a p=>(nJ _ _ _ _).symm
 .have etk:ls.take k=ls:=Ap hke
  rw[etk]at hinv;refine zz ?_;(repeat clear U K);repeat intro K U
  exact AU ⟨_,⟨L,es,rfl,hinv,rfl⟩,hs⟩
structure JY (w:AH) (kf:Int->List Int->Kn):Prop where
 ok: ∀a p,oz 1000 (kf a p)
 low: ∀a p,-1000000000<=(kf a p).low/\(kf a p).low<=1000000000
 short: ∀a p,2<=p.length->(kf a p).AG= []
 AG: ∀a p,∀s∈(kf a p).AG,0<=s/\s<w.owner.length
abbrev Hx (L:Nat) (pre post:List C0) (e:C0) (s:List C0):List At:=
 .box e.b [eI e.k.low,eI e.k.high,e.vn,eU e.k.B5,eU e.k.Gq,.b e.k.whole,.b e.k.A0,e.vs]:: .own e.vn 1 (iL e.k.no)::HW L (pre++e::(post++s)) pre (post++s)
def xV {Z:AE} {L:Nat} {pre post:List C0} {e:C0} {s:List C0} (h:Sat Z (B9 L (pre++e::(post++s)))):Sat Z (.own e.vs 1 (iL e.k.AG)::Hx L pre post e s):=
 (HY (X:=[]) h).perm ((Lj _ _ _ _).symm)
def qV {Z:AE} {L:Nat} {pre post:List C0} {e:C0} {s:List C0} (h:Sat Z (.own e.vs 1 (iL e.k.AG)::Hx L pre post e s)):Sat Z (B9 L (pre++e::(post++s))):=
 ER (X:=[]) (e:=e) (e':=e) rfl rfl rfl (h.perm (Lj _ _ _ _))
def PR (kf:Int->List Int->Kn) (L:Nat) (es:List C0) (post:List At):Prop:= ∃es',RU es es'/\Dv kf es'/\post=B9 L es'
def oB (w:AH) (us:List Nat) {kf:Int->List Int->Kn} {L:Nat} {pre post:List C0} {e:C0} {a:Int} {p:List Int} (hp:p.length<2) :
    OC zP (.f (.func 415) [] [.rp [Ux w us L],.rp (LZ a p)]) eI (fun s=> .own e.vs 1 (iL e.k.AG)::Hx L pre post e s) (fun y=> !(kf a (p++[y])).A0) (fun s=>Dv kf (pre++e::(post++s))/\ ∀x∈s,x.k=k0) (fun _=>True):=by
 rintro y s - ⟨hj,hj0⟩ Z hs;refine Bh ?_;show A6 zP 415 ([]++[eI y]++[.rp [Ux w us L],.rp (LZ a p)]) Z _;refine sw kZ ?_
 conv=>whnf
 repeat'((first|clear U K|apply st|(apply zk;intro K U)|refine zY ?_|refine rk ?_ ?_|exact fun s e=>by cases e;rfl|refine Pure.use (Ox a p y hp) ?_|fail)<;>conv=>whnf)
 refine(Lq w us hj (a:=a) (p:=p++[y]) (by simp;omega)).use (rest:=[]) (by simpa using qV hs) ?_;clear hs;rintro r post' Z ⟨es4,e4,got,rfl,rfl⟩ hs;have hek4:=got.k;obtain⟨new,he4,hnew⟩:=got.ext;have hinv:=got.inv;obtain⟨pre4,post4,he5⟩:=List.append_of_mem got.mem;rw[I4,he5]at hs;replace hs:=HY (X:=[]) hs;refine zz ?_;(repeat clear U K);repeat intro K U
 refine AU ⟨by rw[hek4],s++new,⟨?_,fun x hx=>?_⟩,?_⟩
 .rw[he4]at hinv
  simpa using hinv
 .rcases FC.1 hx with hx|hx
  .exact hj0 x hx
  .exact hnew x hx
 .have h2:=ER (X:=[]) (e:=e4) (e':=e4) rfl rfl rfl hs
  rw[<-he5,he4]at h2;refine xV ?_;simpa using h2
def oC (w:AH) (us:List Nat) {kf:Int->List Int->Kn} (hr:JY w kf) {L:Nat} {es:List C0} (h:Dv kf es) {a:Int} {p:List Int} (hp:p.length<=2) :
    Be zP 414 [Ux w us L,Ea a p] (B9 L es) fun r post=>r= .ret (.b (PU kf a p))/\PR kf L es post:=by
 intro Z hs;have hM:=Mx;refine sx kZ ?_;refine zz ?_;(repeat clear U K);repeat intro K U
 refine(Lq w us h (a:=a) (p:=p) hp).use (rest:=[]) (by simpa using hs) ?_;clear hs;rintro r post Z ⟨es4,e4,got,rfl,rfl⟩ hs;have hek:=got.k;obtain⟨pre,post,rfl⟩:=List.append_of_mem got.mem;rw[I4]at hs;replace hs:=HY (X:=[]) hs;have hsl:=(hr.ok a p).2.2.2;have hsh:=hr.short a p;rw[<-hek]at hsl hsh
 have hst:p.length<2\/e4.k.AG= []:=by
  rcases Nat.lt_or_ge p.length 2 with h'|h'
  .exact .inl h'
  .exact .inr (hsh h')
 have hE:PU kf a p=e4.k.AG.all fun y=> !(kf a (p++[y])).A0:=by rw[PU,hek]
 refine zz ?_;(repeat clear U K);repeat intro K U
 have hall:Be zP 330 [e4.vs,.f (.func 415) [] [.rp [Ux w us L],.rp (LZ a p)]] (.own e4.vs 1 (iL e4.k.AG)::Hx L pre post e4 []) fun r post'=>r= .ret (.b (e4.k.AG.all fun y=> !(kf a (p++[y])).A0))/\ ∃s',(Dv kf (pre++e4::(post++s'))/\ ∀x∈s',x.k=k0)/\post'= .own e4.vs 1 (iL e4.k.AG)::Hx L pre post e4 s':=by
  rcases hst with h'|h'
  .exact av 415 [] [.rp [Ux w us L],.rp (LZ a p)] (Hx L pre post e4) _ _ _ (oB w us h') (fun _ _=>trivial) (by omega) [] ⟨by simpa using got.inv,by simp⟩
  .exact av 415 [] [.rp [Ux w us L],.rp (LZ a p)] (Hx L pre post e4) _ _ (fun _=>False) (fun y s hf=>hf.elim) (fun x hx=>by rw[h']at hx;cases hx) (by omega) [] ⟨by simpa using got.inv,by simp⟩
 refine hall.use (rest:=[]) (by
  have h2:=xV (L:=L) (pre:=pre) (post:=post) (e:=e4) (s:=[]) (by simpa using ER (X:=[]) (e:=e4) (e':=e4) rfl rfl rfl hs)
  simpa using h2) ?_
 clear hs;rintro r post' Z ⟨rfl,s',⟨hi,hn⟩,rfl⟩ hs;refine zz ?_;(repeat clear U K);repeat intro K U
 refine AU ⟨_,⟨by rw[hE],pre++e4::(post++s'),got.ext.trans ⟨s',by simp,hn⟩,hi,rfl⟩,qV (by simpa using hs)⟩
def kq {m u:Nat} (hm:m<18446744073709551616):(PI m u=0)↔RP m u=true:=by
 rw[Pp (by simpa using hm)];constructor
 .intro h b hb
  have hlt:b<64:=by
   rcases Nat.lt_or_ge b 64 with h'|h'
   .exact h'
   .rw[Nat.testBit_lt_two_pow (Nat.lt_of_lt_of_le hm (by simpa using Nat.pow_le_pow_right (n:=2) (by decide) h'))]at hb;cases hb
  have:=QG (a:=m) (b:=u) hlt;rw[h,Nat.zero_testBit,hb]at this;simpa using this
 .intro h
  refine Nat.eq_of_testBit_eq fun i=>?_
  rw[Nat.zero_testBit];rcases Nat.lt_or_ge i 64 with hlt|hge
  .rw[QG hlt]
   cases hb:m.testBit i with
   | false=>rfl
   | true=>rw[h i hb];rfl
  .exact Nat.testBit_lt_two_pow (Nat.lt_of_lt_of_le (UY _ _) (by simpa using Nat.pow_le_pow_right (n:=2) (by decide) hge))
def V0 (w:AH) (us:List Nat) {kf:Int->List Int->Kn} (hr:JY w kf) {L:Nat} {es:List C0} (h:Dv kf es) {a:Int} {p:List Int} (hp:p.length<=2) (c:Nat) (hc:c<64) :
    Be zP 413 [Ux w us L,Ea a p,eI c] (B9 L es) fun r post=>r= .ret (.b (IA kf a p c))/\PR kf L es post:=by
 intro Z hs;refine sy kZ ?_;refine zz ?_;(repeat clear U K);repeat intro K U
 refine(Lq w us h (a:=a) (p:=p) hp).use (rest:=[]) (by simpa using hs) ?_;clear hs;rintro r post Z ⟨es4,e4,got,rfl,rfl⟩ hs;have hek:=got.k;obtain⟨pre,post,rfl⟩:=List.append_of_mem got.mem;rw[I4]at hs;replace hs:=HY (X:=[]) hs;have hok:=hr.ok a p;rw[<-hek]at hok;have hu:1|||2 ^ c<18446744073709551616:=Lk (by decide) (Kt hc)
 have hb1:bits .andNot .u64 (e4.k.B5:Int) ((1|||2 ^ c:Nat):Int)=((PI e4.k.B5 (1|||2 ^ c):Nat):Int):=S6;have hb2:bits .and .u64 (e4.k.Gq:Int) ((1|||2 ^ c:Nat):Int)=((e4.k.Gq&&&(1|||2 ^ c):Nat):Int):=MW hok.2.1 hu;have hb3:=kq (u:=1|||2 ^ c) hok.1;have hP:IA kf a p c=(RP e4.k.B5 (1|||2 ^ c)&&(e4.k.Gq&&&(1|||2 ^ c)==0&&PU kf a p)):=by rw[IA,hek]
 conv=>whnf
 repeat'((first|clear U K|apply st|(apply zk;intro K U)|refine zY ?_|refine Pure.use (ZY 1 c (by decide) hc) ?_|refine za (fun hc=>?_) fun hc=>?_|fail)<;>conv=>whnf)
 .have h1:RP e4.k.B5 (1|||2 ^ c)=true:=hb3.1 (by omega)
  have h2:(e4.k.Gq&&&(1|||2 ^ c)==0)=true:=by rw[EZ];omega
  refine(oC w us hr got.inv hp).use (rest:=[]) (by simpa using ER (X:=[]) (e:=e4) (e':=e4) rfl rfl rfl hs) ?_;clear hs;rintro r post' Z ⟨rfl,es5,hx,hi,rfl⟩ hs;refine zz ?_;(repeat clear U K);repeat intro K U
  exact AU ⟨_,⟨by rw[hP,h1,h2];rfl,es5,got.ext.trans hx,hi,rfl⟩,by simpa using hs⟩
 .have h2:(e4.k.Gq&&&(1|||2 ^ c)==0)=false:=by rw[beq_eq_false_iff_ne];omega
  exact AU ⟨_,⟨by rw[hP,h2];simp,_,got.ext,got.inv,rfl⟩,by simpa using ER (X:=[]) (e:=e4) (e':=e4) rfl rfl rfl hs⟩
 .have h1:RP e4.k.B5 (1|||2 ^ c)=false:=by
   rw[<-Bool.not_eq_true,<-hb3];omega
  exact AU ⟨_,⟨by rw[hP,h1];simp,_,got.ext,got.inv,rfl⟩,by simpa using ER (X:=[]) (e:=e4) (e':=e4) rfl rfl rfl hs⟩
def Qj (w:AH) (us:List Nat) {kf:Int->List Int->Kn} (hr:JY w kf) {L:Nat} {es:List C0} (h:Dv kf es) {a:Int} {p:List Int} (hp:p.length<=2) :
    Be zP 410 [Ux w us L,Ea a p] (B9 L es) fun r post=>r= .ret (.t [eI (Kv (kf a p)),.b (TW kf a p)])/\PR kf L es post:=by
 intro Z hs;have hM:=Mx;refine s7 kZ ?_;refine zz ?_;(repeat clear U K);repeat intro K U
 refine(Lq w us h (a:=a) (p:=p) hp).use (rest:=[]) (by simpa using hs) ?_;clear hs;rintro r post Z ⟨es4,e4,got,rfl,rfl⟩ hs;have hek:=got.k;obtain⟨pre,post,rfl⟩:=List.append_of_mem got.mem;rw[I4]at hs;replace hs:=HY (X:=[]) hs;have hok:=hr.ok a p;have hlo:=hr.low a p;rw[<-hek]at hok hlo;have hno:=hok.2.2.1;have hle:=aI e4.k.no e4.k.low;have hL:Kv (kf a p)=HQ e4.k.no (from_ e4.k.no e4.k.low) e4.k.low:=by rw[Kv,<-hek];exact az hle (I3 _)
 refine zz ?_;(repeat clear U K);repeat intro K U
 refine DF (fun n:Int=>from_ e4.k.no n) (fun n=>[(7,eI n)]) (fun _=> .box e4.b [eI e4.k.low,eI e4.k.high,e4.vn,eU e4.k.B5,eU e4.k.Gq,.b e4.k.whole,.b e4.k.A0,e4.vs]:: .own e4.vn 1 (iL e4.k.no):: .own e4.vs 1 (iL e4.k.AG)::([]++HW L (pre++e4::post) pre post)) (fun n=> -1000000000<=n/\n+from_ e4.k.no n<=1000001000/\Kv (kf a p)=HQ e4.k.no (from_ e4.k.no n) n) e4.k.low rfl ⟨by omega,by omega,hL⟩ hs ?_;clear hs hL hle;rintro n Z ⟨hn0,hn1,hL⟩ hs;have hct2:=fun b=>Dt e4.k.no b n
 cases hcB:e4.k.no.contains n<;>rw[hcB]at hct2
 .have hout:n∉e4.k.no:=by simpa using hcB
  rw[oj hout]at hL;have hI:TW kf a p=(decide (n<=e4.k.high)&&IA kf a p 1):=by rw[TW,hL,hek]
  conv=>whnf
  repeat'((first|clear U K|apply st|(apply zk;intro K U)|refine zY ?_|refine Pure.bZ (hct2 false) (.cons (hs.HP 1 rfl) (.cons (.refl _) .nil)) rfl ?_|refine za (fun hc=>?_) fun hc=>?_|fail)<;>conv=>whnf)
  all_goals
   have hsc:Sat Z (B9 L (pre++e4::post)):=by simpa using ER (X:=[]) (e:=e4) (e':=e4) rfl rfl rfl hs
  .refine(V0 w us hr got.inv hp 1 (by decide)).use (rest:=[]) (by simpa using hsc) ?_
   clear hs hsc;rintro r post' Z ⟨rfl,es5,hx,hi,rfl⟩ hs;refine zz ?_;(repeat clear U K);repeat intro K U
   exact AU ⟨_,⟨by rw[hL,hI,decide_eq_true (by assumption)];rfl,es5,got.ext.trans hx,hi,rfl⟩,by simpa using hs⟩
  .exact AU ⟨_,⟨by rw[hL,hI,decide_eq_false (by omega)];rfl,_,got.ext,got.inv,rfl⟩,hsc⟩
 .have hin:n∈e4.k.no:=by simpa using hcB
  have hlt:=UQ hin;have hwr:IntKind.i64.wrap (n+1)=n+1:=wrap64 (by omega) (by omega);obtain⟨m,hm⟩: ∃m,from_ e4.k.no n=m+1:=⟨from_ e4.k.no n - 1,by omega⟩
  have hL2:Kv (kf a p)=HQ e4.k.no (from_ e4.k.no (n+1)) (n+1):=by rw[hL,hm,wk hin];exact az (by omega) (I3 _)
  conv=>whnf
  repeat'((first|clear U K|apply st|(apply zk;intro K U)|refine zY ?_|refine Pure.bZ (hct2 false) (.cons (hs.HP 1 rfl) (.cons (.refl _) .nil)) rfl ?_|fail)<;>conv=>whnf)
  exact⟨n+1,hlt,by rw[hwr];rfl,⟨by omega,by omega,hL2⟩,hs⟩
def Zz (w:AH) (us:List Nat) {kf:Int->List Int->Kn} (hr:JY w kf) {L:Nat} {es:List C0} (h:Dv kf es) {a:Int} {p:List Int} (hp:p.length<=2) :
    Be zP 411 [Ux w us L,Ea a p] (B9 L es) fun r post=>r= .ret (.b (Ll kf a p))/\PR kf L es post:=by
 intro Z hs;refine s6 kZ ?_;refine zz ?_;(repeat clear U K);repeat intro K U
 refine(Lq w us h (a:=a) (p:=p) hp).use (rest:=[]) (by simpa using hs) ?_;clear hs;rintro r post Z ⟨es4,e4,got,rfl,rfl⟩ hs;have hek:=got.k;obtain⟨pre,post,rfl⟩:=List.append_of_mem got.mem;rw[I4]at hs;have hsc:=hs;replace hs:=HY (X:=[]) hs;have hN:Ll kf a p=(!e4.k.whole&&IA kf a p 2):=by rw[Ll,hek]
 cases hw:e4.k.whole<;>rw[hw]at hs hN
 .refine zz ?_;(repeat clear U K);repeat intro K U
  refine(V0 w us hr got.inv hp 2 (by decide)).use (rest:=[]) (by simpa using hsc) ?_;clear hs hsc;rintro r post' Z ⟨rfl,es5,hx,hi,rfl⟩ hs;refine zz ?_;(repeat clear U K);repeat intro K U
  exact AU ⟨_,⟨by rw[hN];rfl,es5,got.ext.trans hx,hi,rfl⟩,by simpa using hs⟩
 .refine zz ?_;(repeat clear U K);repeat intro K U
  exact AU ⟨_,⟨by rw[hN];rfl,_,got.ext,got.inv,rfl⟩,hsc⟩
end Go.Gl
