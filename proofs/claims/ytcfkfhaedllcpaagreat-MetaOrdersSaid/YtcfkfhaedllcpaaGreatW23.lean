import Derived.Test.YtcfkfhaedllcpaaGreatW13
import Derived.Test.YtcfkfhaedllcpaaGreatW14
import Derived.Test.YtcfkfhaedllcpaaGreatW21
import Derived.Test.YtcfkfhaedllcpaaGreatW22
set_option linter.all false
set_option linter.defProp false
set_option maxHeartbeats 8000000
noncomputable section
namespace Go.Gl
open Go.Proofs
attribute [local irreducible] A3 Aq Af AR AJ Ad AQ AT AK Ac AM AN Ax A5 Sat AX A4 Ah W
abbrev Uh (w:AI) (us:List Nat) (L:Nat):V:= .rp [.rp (wC w us),.m L]
def Q5 (es es':List Cx):Prop:= ∃new:List Cx,es'=es++new/\ ∀x∈new,x.k=k0
def Q5.refl (es:List Cx):Q5 es es:=⟨[],by simp,by simp⟩
def Q5.trans {a b c:List Cx} (h1:Q5 a b) (h2:Q5 b c):Q5 a c:=by
 obtain⟨x,rfl,hx⟩:=h1;obtain⟨y,rfl,hy⟩:=h2;refine⟨x++y,by simp,fun z hz=>?_⟩;rcases E4.1 hz with h|h
 .exact hx z h
 .exact hy z h
def Q5.mem {a b:List Cx} (h:Q5 a b) {e:Cx} (he:e∈a):e∈b:=by
 obtain⟨x,rfl,_⟩:=h;exact RU _ he
structure p9 (kf:Int->List Int->Kn) (es es':List Cx) (a:Int) (p:List Int) (e:Cx):Prop where
 inv:Dr kf es'
 ext:Q5 es es'
 mem:e∈es'
 is:e.is a p=true
def p9.k {kf:Int->List Int->Kn} {es es':List Cx} {a:Int} {p:List Int} {e:Cx} (h:p9 kf es es' a p e):e.k=kf a p:=by
 have:=h.inv.val e h.mem;obtain⟨h1,h2⟩:=Kc.1 h.is;rw[this,h1,h2]
def TX {Z:AE} {l:List At} (h:Sat Z l) (i:Nat) {n:Nat} {kvs:List (V×V)} {ks:KS} {z vk:V} {ok:Bool} {o:Option V} (hi:l[i]? =some (.map n kvs)) (hk:BN ks vk=true) (hks: ∀kv∈kvs,BN ks kv.1=true) (hf:CZ vk kvs=o) {K:V->Prop} (h':K (found z ok o)) :
    AM Z ks z ok (.m n) vk K:=Jc h i hi hk hks (hf ▸ h')
def LZ (w:AI) (us:List Nat) {kf:Int->List Int->Kn} {L:Nat} {es:List Cx} (h:Dr kf es) {a:Int} {p:List Int} (hp:p.length<=2) :
    Bc zP 407 [Uh w us L,EV a p] (B8 L es) fun r post=> ∃es' e,p9 kf es es' a p e/\r= .ret (.p e.b 0)/\post=B8 L es':=by
 intro Z hs;refine nK kZ ?_;unfold B8 at hs;rcases oN a p es with hn|⟨pre,e,post,rfl,he,hpre⟩
 .have hf:=Vo hp h.len hn
  conv=>whnf
  repeat'((first|clear U K|apply st|(apply zk;intro K U)|refine zY ?_|refine TX hs 0 rfl rfl (Pj _) hf ?_|refine Jb hs 1 rfl rfl (Pj _) fun Z hs=>?_|refine zo fun nn hnn Z hs=>?_|fail)<;>conv=>whnf)
  simp only[List.set_cons_succ,List.set_cons_zero]at hs;change Sat Z (_:: .map L (DV (EV a p) (.p nn 0) (Wy es))::_)at hs;rw[fW hp nn (.l [] true) (.l [] true) k0 h.len hn]at hs;have hs2:=Cf (Cf hs 1) 1;refine AU ⟨_,⟨es++[⟨a,p,nn,.l [] true,.l [] true,k0⟩],⟨a,p,nn,.l [] true,.l [] true,k0⟩,⟨h.add hp hn _ _ _,⟨_,rfl,by simp⟩,by simp,by simp[Cx.is]⟩,rfl,rfl⟩,?_⟩;unfold B8;rw[List.flatMap_append,List.flatMap_cons,List.flatMap_nil,Ip];refine hs2.perm ((List.perm_middle (l₁:=[_,_,_])).trans (.cons _ (RP.trans (List.Perm.append_left _ (List.reverse_perm _).symm))))
 .have hf:=Vn hp he h.len hpre
  conv=>whnf
  repeat'((first|clear U K|apply st|(apply zk;intro K U)|refine zY ?_|refine TX hs 0 rfl rfl (Pj _) hf ?_|fail)<;>conv=>whnf)
  exact AU ⟨_,⟨_,e,⟨h,.refl _,by simp,he⟩,rfl,rfl⟩,hs⟩
def Oh (a:Int) (p:List Int) (s:Int) (hp:p.length<2):Pure zP 408 [EV a p,eI s] (EV a (p++[s])):=by
 refine r5 kZ ?_;have hs:=Sn
 match p,hp with
 | [],_=>
   exact zW
 | [x],_=>
   exact zW
def vH {b:Nat} {vn vs:V} {k:Kn} (f:Fact) (c:Bool) (hl:f.op=2\/f.op=3\/f.op=4) (hc:f.op=2->0<=f.cls/\f.cls<64) (hm:k.B3<18446744073709551616) (hn:k.GV<18446744073709551616) (hno:k.no.length<1000000) (hN: -1000000000<=f.n/\f.n<=1000000000) :
    Bc zP 409 [.p b 0,.a (xF f++[.b c])] (px b vn vs k) fun r post=>r= .ret (.t [])/\ ∃vn',post=px b vn' vs (Ck k f c):=by
 intro Z hs;have hM:=Mx;refine rz kZ ?_;rw[show xF f++[V.b c]= [eI f.op,eI f.arg,.l (iL f.path) false,eI f.cls,eI f.n,.l (f.kids.map GB) false,.b c] from rfl];have hw:IntKind.i64.wrap (f.n - 1)=f.n - 1:=wrap64 (by omega) (by omega);cases c<;>rcases hl with h2|h3|h4
 .have hE:Ck k f false= {k with B3:=k.B3|||2 ^ f.cls.toNat}:=by rw[Ck,if_pos h2,if_neg Bool.false_ne_true]
  rw[hE]
  conv=>whnf
  repeat'((first|clear U K|apply st|(apply zk;intro K U)|refine zY ?_|refine zs fun Z hs=>?_|refine Pure.use (HM _ _ hm (by omega) (by omega)) ?_|(refine zb (fun hc=>?_) (fun hc=>?_)<;>try exact⟨⟩)|fail)<;>conv=>whnf)
  exact AU ⟨_,⟨rfl,vn,rfl⟩,hs⟩
 .have hE:Ck k f false= {k with high:=if f.n - 1<k.high then f.n - 1 else k.high,whole:=true}:=by rw[Ck,if_neg (by omega),if_pos h3,if_neg Bool.false_ne_true]
  rw[hE]
  conv=>whnf
  repeat'((first|clear U K|apply st|(apply zk;intro K U)|refine zY ?_|refine zs fun Z hs=>?_|(refine zb (fun hc=>?_) (fun hc=>?_)<;>try exact⟨⟩)|fail)<;>conv=>whnf)
  rw[hw]at hs;exact AU ⟨_,⟨rfl,vn,rfl⟩,hs⟩
 .have hE:Ck k f false= {k with low:=if f.n > k.low then f.n else k.low,high:=if f.n<k.high then f.n else k.high,whole:=true}:=by rw[Ck,if_neg (by omega),if_neg (by omega),if_neg Bool.false_ne_true]
  rw[hE]
  conv=>whnf
  repeat'((first|clear U K|apply st|(apply zk;intro K U)|refine zY ?_|refine rk ?_ ?_|exact fun s e=>by cases e;rfl|refine zs fun Z hs=>?_|(refine zb (fun hc=>?_) (fun hc=>?_)<;>try exact⟨⟩)|fail)<;>conv=>whnf)
  exact AU ⟨_,⟨rfl,vn,rfl⟩,hs⟩
 .have hE:Ck k f true= {k with GV:=k.GV|||2 ^ f.cls.toNat}:=by rw[Ck,if_pos h2,if_pos rfl]
  rw[hE]
  conv=>whnf
  repeat'((first|clear U K|apply st|(apply zk;intro K U)|refine zY ?_|refine zs fun Z hs=>?_|refine Pure.use (HM _ _ hn (by omega) (by omega)) ?_|(refine zb (fun hc=>?_) (fun hc=>?_)<;>try exact⟨⟩)|fail)<;>conv=>whnf)
  exact AU ⟨_,⟨rfl,vn,rfl⟩,hs⟩
 .have hE:Ck k f true= {k with low:=if f.n > k.low then f.n else k.low}:=by rw[Ck,if_neg (by omega),if_pos h3,if_pos rfl]
  rw[hE]
  conv=>whnf
  repeat'((first|clear U K|apply st|(apply zk;intro K U)|refine zY ?_|refine zs fun Z hs=>?_|(refine zb (fun hc=>?_) (fun hc=>?_)<;>try exact⟨⟩)|fail)<;>conv=>whnf)
  exact AU ⟨_,⟨rfl,vn,rfl⟩,hs⟩
 .have hE:Ck k f true= {k with no:=k.no++[f.n]}:=by rw[Ck,if_neg (by omega),if_neg (by omega),if_pos rfl]
  rw[hE]
  conv=>whnf
  repeat'((first|clear U K|apply st|(apply zk;intro K U)|refine zY ?_|refine zs fun Z hs=>?_|refine aq fun v Z hs hsl=>?_|(refine zb (fun hc=>?_) (fun hc=>?_)<;>try exact⟨⟩)|fail)<;>conv=>whnf)
  exact AU ⟨_,⟨rfl,_,rfl⟩,hs⟩
end Go.Gl
namespace Go.Gl
open Go.Proofs
def eL {Z:AE} {α:Type} {enc:α->List V} {xs:List α} {f:Bool} {sz:Nat} {ki:IntKind} {j:Int} {K:V->AE->Prop} (h:K (.l ((xs.drop j.toNat).map enc) f) Z) (h0:0<=j) (h1:j<=xs.length) (hs: ∀x,(enc x).length=sz) :
    AQ Z sz (.l (xs.map enc) f) (some (.i ki j)) none none K:=by
 unfold AQ;refine⟨fun e he=>?_,?_⟩
 .obtain⟨x,_,rfl⟩:=Mg.1 he
  exact hs x
 .simp only[OL,BU]
  refine⟨by omega,by omega,by omega,?_⟩;rw[List.take_of_length_le (by simp)];simpa[List.map_drop]using h
attribute [local irreducible] A3 Aq Af AR AJ Ad AQ AT AK Ac AM AN Ax A5 Sat AX A4 Ah W
abbrev vU (T:List (List Bool)):V:= .l (T.map fun r=>[.l (bL r) false]) false
def DY (T:List (List Bool)) (m n:Int):Bool:=(T.getD m.toNat []).getD n.toNat false
structure Jy (T:List (List Bool)) (l:List Int):Prop where
 len:T.length<=16
 sq: ∀r∈T,r.length=T.length
 ins: ∀x∈l,0<=x/\x<(T.length:Int)
 many:l.length<=16
def oJ {T:List (List Bool)} {l:List Int} (h:Jy T l) {m n:Int} (hm:0<=m/\m<(T.length:Int)) (hn:0<=n/\n<(T.length:Int)): ∃r,T[m.toNat]? =some r/\r[n.toNat]? =some (DY T m n):=by
 have h1:m.toNat<T.length:=by omega
 refine⟨T[m.toNat],Cy h1,?_⟩;have h2:=h.sq T[m.toNat] (List.getElem_mem h1);have h3:n.toNat<T[m.toNat].length:=by omega
 rw[Cy h3];simp only[DY,DH,Cy h1,Option.getD_some,Cy h3]
def P7 (l:List Int) (f:Bool) (i:Nat) (ha:i<l.length) (hl:l.length<=16):Pure zP 190 [.l (iL l) f,eI (i:Int)] (.l (iL (l.eraseIdx i)) false):=by
 have hM:=Mx;refine uX kZ ?_;have hs:=Sn
 conv=>whnf
 repeat'((first|clear U K|apply st|(apply zk;intro K U)|refine zY ?_|(rw[wrap64 (by omega) (by omega)];refine eL ?_ (by omega) (by omega) fun _=>rfl)|fail)<;>conv=>whnf)
 replace hs:=El hs 1;refine F9 hs 0 (xs:=[]) (ys:=l.take (i:Int).toNat) rfl (by simp;omega) BZ fun v Z hs=>?_
 refine zz ?_;(repeat clear U K);repeat intro K U
 refine F9 hs 0 (xs:=[]++l.take (i:Int).toNat) (ys:=l.drop ((i:Int)+1).toNat) rfl (by simp;omega) BZ fun v Z hs=>?_
 refine zz ?_;(repeat clear U K);repeat intro K U
 have e: []++l.take (i:Int).toNat++l.drop ((i:Int)+1).toNat=l.eraseIdx i:=by
  rw[List.eraseIdx_eq_take_drop_succ,List.nil_append,JP,show((i:Int)+1).toNat=i+1 by omega]
 rw[e]at hs;exact Ap (hs.GW 0 rfl)
def Gm (A:Int->Int->Bool) (l:List Int) (i k:Nat):Bool:=(List.range k).all fun j=>j==i||A (l.getD i 0) (l.getD j 0)
def D3 (A:Int->Int->Bool) (l:List Int):Option Nat:=(List.range l.length).find? fun i=>Gm A l i l.length
def M0 (A:Int->Int->Bool) (l:List Int):Int:=match D3 A l with|some i=>i|none=> -1
def Rr (A:Int->Int->Bool) (l:List Int) (i k:Nat):Gm A l i (k+1)=(Gm A l i k&&(k==i||A (l.getD i 0) (l.getD k 0))):=by
 rw[Gm,List.range_succ,List.all_append,Gm];simp
def B4 {l:List Int} {k:Nat} {x:Int} (h:l[k]? =some x):l.getD k 0=x:=by rw[DH,h];rfl
def Sc {A:Int->Int->Bool} {l:List Int} {i:Nat} (h:D3 A l=some i):i<l.length:=by
 have:=List.mem_of_find?_eq_some h;simpa using this
def jC {A:Int->Int->Bool} {l:List Int} {i:Nat} (hi:i<l.length) (h:Gm A l i l.length=true) (hn: ∀j,j<i->Gm A l j l.length=false):M0 A l=i:=by
 have:D3 A l=some i:=by
  rw[D3,List.find?_range_eq_some];exact⟨h,List.mem_range.2 hi,fun j hj=>by rw[hn j hj];rfl⟩
 rw[M0,this]
def YN {A:Int->Int->Bool} {l:List Int} (hn: ∀j,j<l.length->Gm A l j l.length=false):M0 A l= -1:=by
 have:D3 A l=none:=by
  rw[D3,List.find?_range_eq_none];exact fun j hj=>by rw[hn j hj];rfl
 rw[M0,this]
def jD (T : List (List Bool)) (l:List Int) (f:Bool) (h:Jy T l):Pure zP 189 [vU T,.l (iL l) f] (eI (M0 (DY T) l)):=by
 have hM:=Mx;have hm:=h.many;have hT:=h.len;refine uY kZ ?_;have hs:=Sn;refine zz ?_;(repeat clear U K);repeat intro K U
 refine B0 l.length (fun i (_:Unit)=>[(5,eI (A8 i))]) (fun _ _=>[]) (fun i _=> ∀j,j<i->Gm (DY T) l j l.length=false) () rfl (fun j hj=>by omega) hs ?_;clear hs;rintro i - Z hi hn hs;rcases BC l hi with⟨x,hx,hlt⟩|hie
 .have hxi:=h.ins x (B1 hx)
  refine zz ?_;(repeat clear U K);repeat intro K U
  refine B0 l.length (fun k (b:Bool)=>[(6,.b b),(7,eI (A8 k))]) (fun _ _=>[]) (fun k b=>b=Gm (DY T) l i k) true rfl rfl hs ?_;clear hs;rintro k b Z hk hb hs;rcases BC l hk with⟨y,hy,hklt⟩|hke
  .have hyi:=h.ins y (B1 hy)
   obtain⟨r,hr,hry⟩:=oJ h hxi hyi;have hsu:=Rr (DY T) l i k;rw[B4 hx,B4 hy,<-hb]at hsu;have hci:A8 i=i:=AO (by omega);have hck:A8 k=k:=AO (by omega);have hrl:=h.sq r (B1 hr);cases b
   .refine zz ?_;(repeat clear U K);repeat intro K U
    exact⟨hklt,false,rfl,(hsu.trans (by simp)).symm,hs⟩
   .by_cases hki:k=i
    .conv=>whnf
     repeat'((first|clear U K|apply st|(apply zk;intro K U)|refine zY ?_|(refine zb (fun hc=>?_) (fun hc=>?_)<;>try exact⟨⟩)|fail)<;>conv=>whnf)
     exact⟨hklt,true,rfl,(hsu.trans (by simp[hki])).symm,hs⟩
    .conv=>whnf
     repeat'((first|clear U K|apply st|(apply zk;intro K U)|refine zY ?_|(refine zb (fun hc=>?_) (fun hc=>?_)<;>try exact⟨⟩)|fail)<;>conv=>whnf)
     exact⟨hklt,DY T x y,rfl,(hsu.trans (by simp[hki])).symm,hs⟩
  .conv=>whnf
   repeat'((first|clear U K|apply st|(apply zk;intro K U)|refine zY ?_|refine za (fun hc=>?_) fun hc=>?_|fail)<;>conv=>whnf)
   .exact AF (by rw[jC hlt (by rw[<-hke,<-hb,hc]) hn,AO (by omega)])
   .refine⟨hlt,(),rfl,fun j hj=>?_,hs⟩
    rcases Nat.lt_or_ge j i with h'|h'
    .exact hn j h'
    .rw[show j=i by omega,<-hke,<-hb,hc]
 .refine zz ?_;(repeat clear U K);repeat intro K U
  exact AF (by rw[YN fun j hj=>hn j (by omega)])
def BQ (A:Int->Int->Bool):Nat->List Int->List Int×Bool
 | 0,_=>([],false)
 | k+1,l=>match D3 A l with
   | none=>([],!l.isEmpty)
   | some i=>(l.getD i 0::(BQ A k (l.eraseIdx i)).1,(BQ A k (l.eraseIdx i)).2)
def Jy.less {T:List (List Bool)} {l:List Int} (h:Jy T l) (i:Nat):Jy T (l.eraseIdx i):=
 ⟨h.len,h.sq,fun x hx=>h.ins x (List.mem_of_mem_eraseIdx hx),Nat.le_trans (List.length_eraseIdx_le _ _) h.many⟩
def V9 (T:List (List Bool)) (l:List Int) (f:Bool) (h:Jy T l):Pure zP 134 [vU T,.l (iL l) f] (.t [.l (iL (BQ (DY T) l.length l).1) false,.b (BQ (DY T) l.length l).2]):=by
 have hM:=Mx;refine uv kZ ?_;have hs:=Sn;refine zz ?_;(repeat clear U K);repeat intro K U
 refine Dz (fun(x:List Int×Bool×V×List Int)=>x.1.length) (fun x=>[(1,.l (iL x.1) x.2.1),(6,x.2.2.1)]) (fun x=>[.own x.2.2.1 1 (iL x.2.2.2)])
  (fun x=>Jy T x.1/\x.2.2.2.length+x.1.length<=16/\BQ (DY T) l.length l=(x.2.2.2++(BQ (DY T) x.1.length x.1).1,(BQ (DY T) x.1.length x.1).2)) (l,f,.l [] true,[]) rfl ⟨h,by simpa using h.many,by simp⟩ (El hs 1) ?_
 clear hs;rintro⟨l',f',v,out⟩ Z ⟨ho,hlen,hm⟩ hs;dsimp only at ho hlen hm hs;dsimp only;have c1:=jD T l' f' ho;have hll:out.length<AY/\(out.length+1)*8<=140737488355328:=by omega
 by_cases hz:l'.length=0
 .conv=>whnf
  repeat'((first|clear U K|apply st|(apply zk;intro K U)|refine zY ?_|(refine zb (fun hc=>?_) (fun hc=>?_)<;>try exact⟨⟩)|fail)<;>conv=>whnf)
  rw[hz]at hm;simp only[BQ,Ip]at hm;rw[hm];exact Ap (.t (.cons (hs.GW 0 rfl) (.cons (.refl _) .nil)))
 .rw[M0]at c1
  obtain⟨n,hn⟩: ∃n,l'.length=n+1:=⟨l'.length - 1,by omega⟩
  have hne:l'.isEmpty=false:=by cases l' with
   | nil=>simp at hz
   | cons=>rfl
  rw[hn,BQ]at hm;cases hfo:D3 (DY T) l' with
  | none=>
    rw[hfo]at c1 hm;dsimp only at c1 hm
    conv=>whnf
    repeat'((first|clear U K|apply st|(apply zk;intro K U)|refine zY ?_|refine zC ?_|(refine zb (fun hc=>?_) (fun hc=>?_)<;>try exact⟨⟩)|fail)<;>conv=>whnf)
    rw[hm,hne,Ip];exact Ap (.t (.cons (hs.GW 0 rfl) (.cons (.refl _) .nil)))
  | some i=>
    rw[hfo]at c1 hm;dsimp only at c1 hm;have hi:=Sc hfo;have c2:=P7 l' f' i hi ho.many;obtain⟨x,hx⟩: ∃x,l'[i]? =some x:=⟨_,Cy hi⟩
    have hel:=List.length_eraseIdx_of_lt hi;rw[B4 hx]at hm
    conv=>whnf
    repeat'((first|clear U K|apply st|(apply zk;intro K U)|refine zY ?_|refine aq fun v Z hs hsl=>?_|refine zC ?_|(refine zb (fun hc=>?_) (fun hc=>?_)<;>try exact⟨⟩)|fail)<;>conv=>whnf)
    refine⟨(l'.eraseIdx i,false,v,out++[x]),by dsimp only;omega,rfl,⟨ho.less i,by simp;omega,?_⟩,hs⟩;dsimp only;rw[hm,hel,show l'.length - 1=n by omega];simp
end Go.Gl
namespace Go.Gl
open Go.Proofs
attribute [local irreducible] A3 Aq Af AR AJ Ad AQ AT AK Ac AM AN Ax A5 Sat AX A4 Ah W
abbrev Ob:=Int×List (Int×Int)
abbrev eOb (o:Ob):List V:=[eI o.1,.l (pP o.2) false]
end Go.Gl
namespace Go.Gl
open Go.Proofs
section
variable {H:Type} {enc:TypeId×Value->H} {W:World}
end
structure XA where
 ord:Int
 pick:Int
 fold:Int
deriving DecidableEq
structure x7 where
 of:Int
 rd:Int
 wr:Int
 xy:Int
deriving DecidableEq
structure W4 where
 EY:List XA
 DI:List x7
 cls:List Int
abbrev Ho (c:XA):List V:=[eI c.ord,eI c.pick,eI c.fold]
abbrev kS (m:x7):List V:=[eI m.of,eI m.rd,eI m.wr,eI m.xy]
abbrev Mp (q:W4):List V:=[.l (q.EY.map Ho) false,.l (q.DI.map kS) false,.l (iL q.cls) false]
instance :RC Ho:=⟨fun _=>rfl⟩
instance :RC kS:=⟨fun _=>rfl⟩
def Vu:Em Ho 3:=fun x=>⟨rfl,fun v hv=>by
 simp only[Ho,Fm,List.not_mem_nil,or_false]at hv
 rcases hv with rfl|rfl|rfl<;>rfl⟩
def Gt (q:W4):Bool:=decide (q.EY.length<=60)&&(decide (q.DI.length<=60)&&decide (q.cls.length<=60))
def NI {q:W4} (h:Gt q=true):q.EY.length<=60/\q.DI.length<=60/\q.cls.length<=60:=by
 simpa[Gt]using h
def JZ (f:Int):Bool:=decide (1<=f)&&decide (f<=6)
def TH (c:XA):Bool:=(decide (1<=c.ord)&&decide (c.ord<=2))&&(JZ c.fold&&(decide (0<=c.pick)&&decide (c.pick<=16)))
def Nu (p:Prog) (g k:Int):Bool:=(g== -1)||(dy p g&&p.Br.getD g.toNat 0==k)
def wM (p:Prog) (i:Int) (m:x7):Bool:=(decide (-1<=m.of)&&decide (m.of<i))&&(Nu p m.rd 2&&(Nu p m.wr 2&&Nu p m.xy 1))
def Nr (p:Prog):Nat->List x7->Bool
 | _,[]=>true
 | i,m::r=>wM p i m&&Nr p (i+1) r
def ny (n:Nat) (c:Int):Bool:=decide (-1<=c)&&decide (c<(n:Int))
def Yx (p:Prog) (q:W4):Bool:=decide (q.EY.length=p.Br.length)&&(decide (q.DI.length<=4)&&decide (q.cls.length=p.AH.length))
def ON (p:Prog) (q:W4):Bool:=Yx p q&&(q.EY.all TH&&(Nr p 0 q.DI&&q.cls.all (ny q.DI.length)))
def Kg (p:Prog) (q:W4):Bool:=(BK p).isSome&&ON p q
def ew (p:Prog):W4:=⟨List.replicate p.Br.length ⟨1,0,1⟩,[],List.replicate p.AH.length (-1)⟩
def Vs {p:Prog} {q:W4} (h:ON p q=true):q.EY.length=p.Br.length/\q.DI.length<=4/\q.cls.length=p.AH.length:=by
 rw[ON,BD]at h;have:=h.1;simpa[Yx]using this
section
variable {H:Type} {enc:TypeId×Value->H} {W:World}
end
end Go.Gl
