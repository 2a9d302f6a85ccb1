import Derived.Test.YtcfkfhaedllcpaaGreatV13
import Derived.Test.YtcfkfhaedllcpaaGreatV14
import Derived.Test.YtcfkfhaedllcpaaGreatV22
import Derived.Test.YtcfkfhaedllcpaaGreatV23
set_option linter.all false
set_option linter.defProp false
set_option maxHeartbeats 8000000
noncomputable section
namespace Go.Gl
open Go.Proofs
attribute [local irreducible] A6 Ar Ah AR AI Ae AQ AT AK Ad AN AO Ay A7 Sat AY A5 Ai W
abbrev Ux (w:AH) (us:List Nat) (L:Nat):V:= .rp [.rp (wC w us),.m L]
def RU (es es':List C0):Prop:= ∃new:List C0,es'=es++new/\ ∀x∈new,x.k=k0
def RU.refl (es:List C0):RU es es:=⟨[],by simp,by simp⟩
def RU.trans {a b c:List C0} (h1:RU a b) (h2:RU b c):RU a c:=by
 obtain⟨x,rfl,hx⟩:=h1;obtain⟨y,rfl,hy⟩:=h2;refine⟨x++y,by simp,fun z hz=>?_⟩;rcases FC.1 hz with h|h
 .exact hx z h
 .exact hy z h
def RU.mem {a b:List C0} (h:RU a b) {e:C0} (he:e∈a):e∈b:=by
 obtain⟨x,rfl,_⟩:=h;exact Q9 _ he
structure qp (kf:Int->List Int->Kn) (es es':List C0) (a:Int) (p:List Int) (e:C0):Prop where
 inv:Dv kf es'
 ext:RU es es'
 mem:e∈es'
 is:e.is a p=true
def qp.k {kf:Int->List Int->Kn} {es es':List C0} {a:Int} {p:List Int} {e:C0} (h:qp kf es es' a p e):e.k=kf a p:=by
 have:=h.inv.val e h.mem;obtain⟨h1,h2⟩:=Ky.1 h.is;rw[this,h1,h2]
def Tp {Z:AE} {l:List At} (h:Sat Z l) (i:Nat) {n:Nat} {kvs:List (V×V)} {ks:KS} {z vk:V} {ok:Bool} {o:Option V} (hi:l[i]? =some (.map n kvs)) (hk:BO ks vk=true) (hks: ∀kv∈kvs,BO ks kv.1=true) (hf:Ca vk kvs=o) {K:V->Prop} (h':K (found z ok o)) :
    AN Z ks z ok (.m n) vk K:=Jt h i hi hk hks (hf ▸ h')
def Lq (w:AH) (us:List Nat) {kf:Int->List Int->Kn} {L:Nat} {es:List C0} (h:Dv kf es) {a:Int} {p:List Int} (hp:p.length<=2) :
    Be zP 407 [Ux w us L,Ea a p] (B9 L es) fun r post=> ∃es' e,qp kf es es' a p e/\r= .ret (.p e.b 0)/\post=B9 L es':=by
 intro Z hs;refine oP kZ ?_;unfold B9 at hs;rcases pJ a p es with hn|⟨pre,e,post,rfl,he,hpre⟩
 .have hf:=WB hp h.len hn
  conv=>whnf
  repeat'((first|clear U K|apply st|(apply zk;intro K U)|refine zY ?_|refine Tp hs 0 rfl rfl (Px _) hf ?_|refine Js hs 1 rfl rfl (Px _) fun Z hs=>?_|refine zo fun nn hnn Z hs=>?_|fail)<;>conv=>whnf)
  simp only[List.set_cons_succ,List.set_cons_zero]at hs;change Sat Z (_:: .map L (Da (Ea a p) (.p nn 0) (XP es))::_)at hs;rw[gQ hp nn (.l [] true) (.l [] true) k0 h.len hn]at hs;have hs2:=Ci (Ci hs 1) 1;refine AU ⟨_,⟨es++[⟨a,p,nn,.l [] true,.l [] true,k0⟩],⟨a,p,nn,.l [] true,.l [] true,k0⟩,⟨h.add hp hn _ _ _,⟨_,rfl,by simp⟩,by simp,by simp[C0.is]⟩,rfl,rfl⟩,?_⟩;unfold B9;rw[List.flatMap_append,List.flatMap_cons,List.flatMap_nil,I4];refine hs2.perm ((List.perm_middle (l₁:=[_,_,_])).trans (.cons _ (Rn.trans (List.Perm.append_left _ (List.reverse_perm _).symm))))
 .have hf:=WA hp he h.len hpre
  conv=>whnf
  repeat'((first|clear U K|apply st|(apply zk;intro K U)|refine zY ?_|refine Tp hs 0 rfl rfl (Px _) hf ?_|fail)<;>conv=>whnf)
  exact AU ⟨_,⟨_,e,⟨h,.refl _,by simp,he⟩,rfl,rfl⟩,hs⟩
def Ox (a:Int) (p:List Int) (s:Int) (hp:p.length<2):Pure zP 408 [Ea a p,eI s] (Ea a (p++[s])):=by
 refine s9 kZ ?_;have hs:=Sn
 match p,hp with
 | [],_=>
   exact zW
 | [x],_=>
   exact zW
def wg {b:Nat} {vn vs:V} {k:Kn} (f:Fact) (c:Bool) (hl:f.op=2\/f.op=3\/f.op=4) (hc:f.op=2->0<=f.cls/\f.cls<64) (hm:k.B5<18446744073709551616) (hn:k.Gq<18446744073709551616) (hno:k.no.length<1000000) (hN: -1000000000<=f.n/\f.n<=1000000000) :
    Be zP 409 [.p b 0,.a (xF f++[.b c])] (qh b vn vs k) fun r post=>r= .ret (.t [])/\ ∃vn',post=qh b vn' vs (Cn k f c):=by
 intro Z hs;have hM:=Mx;refine s8 kZ ?_;rw[show xF f++[V.b c]= [eI f.op,eI f.arg,.l (iL f.path) false,eI f.cls,eI f.n,.l (f.kids.map GR) false,.b c] from rfl];have hw:IntKind.i64.wrap (f.n - 1)=f.n - 1:=wrap64 (by omega) (by omega);cases c<;>rcases hl with h2|h3|h4
 .have hE:Cn k f false= {k with B5:=k.B5|||2 ^ f.cls.toNat}:=by rw[Cn,if_pos h2,if_neg Bool.false_ne_true]
  rw[hE]
  conv=>whnf
  repeat'((first|clear U K|apply st|(apply zk;intro K U)|refine zY ?_|refine zs fun Z hs=>?_|refine Pure.use (He _ _ hm (by omega) (by omega)) ?_|(refine zb (fun hc=>?_) (fun hc=>?_)<;>try exact⟨⟩)|fail)<;>conv=>whnf)
  exact AU ⟨_,⟨rfl,vn,rfl⟩,hs⟩
 .have hE:Cn k f false= {k with high:=if f.n - 1<k.high then f.n - 1 else k.high,whole:=true}:=by rw[Cn,if_neg (by omega),if_pos h3,if_neg Bool.false_ne_true]
  rw[hE]
  conv=>whnf
  repeat'((first|clear U K|apply st|(apply zk;intro K U)|refine zY ?_|refine zs fun Z hs=>?_|(refine zb (fun hc=>?_) (fun hc=>?_)<;>try exact⟨⟩)|fail)<;>conv=>whnf)
  rw[hw]at hs;exact AU ⟨_,⟨rfl,vn,rfl⟩,hs⟩
 .have hE:Cn k f false= {k with low:=if f.n > k.low then f.n else k.low,high:=if f.n<k.high then f.n else k.high,whole:=true}:=by rw[Cn,if_neg (by omega),if_neg (by omega),if_neg Bool.false_ne_true]
  rw[hE]
  conv=>whnf
  repeat'((first|clear U K|apply st|(apply zk;intro K U)|refine zY ?_|refine rk ?_ ?_|exact fun s e=>by cases e;rfl|refine zs fun Z hs=>?_|(refine zb (fun hc=>?_) (fun hc=>?_)<;>try exact⟨⟩)|fail)<;>conv=>whnf)
  exact AU ⟨_,⟨rfl,vn,rfl⟩,hs⟩
 .have hE:Cn k f true= {k with Gq:=k.Gq|||2 ^ f.cls.toNat}:=by rw[Cn,if_pos h2,if_pos rfl]
  rw[hE]
  conv=>whnf
  repeat'((first|clear U K|apply st|(apply zk;intro K U)|refine zY ?_|refine zs fun Z hs=>?_|refine Pure.use (He _ _ hn (by omega) (by omega)) ?_|(refine zb (fun hc=>?_) (fun hc=>?_)<;>try exact⟨⟩)|fail)<;>conv=>whnf)
  exact AU ⟨_,⟨rfl,vn,rfl⟩,hs⟩
 .have hE:Cn k f true= {k with low:=if f.n > k.low then f.n else k.low}:=by rw[Cn,if_neg (by omega),if_pos h3,if_pos rfl]
  rw[hE]
  conv=>whnf
  repeat'((first|clear U K|apply st|(apply zk;intro K U)|refine zY ?_|refine zs fun Z hs=>?_|(refine zb (fun hc=>?_) (fun hc=>?_)<;>try exact⟨⟩)|fail)<;>conv=>whnf)
  exact AU ⟨_,⟨rfl,vn,rfl⟩,hs⟩
 .have hE:Cn k f true= {k with no:=k.no++[f.n]}:=by rw[Cn,if_neg (by omega),if_neg (by omega),if_pos rfl]
  rw[hE]
  conv=>whnf
  repeat'((first|clear U K|apply st|(apply zk;intro K U)|refine zY ?_|refine zs fun Z hs=>?_|refine aq fun v Z hs hsl=>?_|(refine zb (fun hc=>?_) (fun hc=>?_)<;>try exact⟨⟩)|fail)<;>conv=>whnf)
  exact AU ⟨_,⟨rfl,_,rfl⟩,hs⟩
end Go.Gl
namespace Go.Gl
open Go.Proofs
def fL {Z:AE} {α:Type} {enc:α->List V} {xs:List α} {f:Bool} {sz:Nat} {ki:IntKind} {j:Int} {K:V->AE->Prop} (h:K (.l ((xs.drop j.toNat).map enc) f) Z) (h0:0<=j) (h1:j<=xs.length) (hs: ∀x,(enc x).length=sz) :
    AQ Z sz (.l (xs.map enc) f) (some (.i ki j)) none none K:=by
 unfold AQ;refine⟨fun e he=>?_,?_⟩
 .obtain⟨x,_,rfl⟩:=Mt.1 he
  exact hs x
 .simp only[N2,BL]
  refine⟨by omega,by omega,by omega,?_⟩;rw[List.take_of_length_le (by simp)];simpa[List.map_drop]using h
attribute [local irreducible] A6 Ar Ah AR AI Ae AQ AT AK Ad AN AO Ay A7 Sat AY A5 Ai W
abbrev xA (T:List (List Bool)):V:= .l (T.map fun r=>[.l (bL r) false]) false
def Dd (T:List (List Bool)) (m n:Int):Bool:=(T.getD m.toNat []).getD n.toNat false
structure KG (T:List (List Bool)) (l:List Int):Prop where
 len:T.length<=16
 sq: ∀r∈T,r.length=T.length
 ins: ∀x∈l,0<=x/\x<(T.length:Int)
 many:l.length<=16
def pD {T:List (List Bool)} {l:List Int} (h:KG T l) {m n:Int} (hm:0<=m/\m<(T.length:Int)) (hn:0<=n/\n<(T.length:Int)): ∃r,T[m.toNat]? =some r/\r[n.toNat]? =some (Dd T m n):=by
 have h1:m.toNat<T.length:=by omega
 refine⟨T[m.toNat],Cw h1,?_⟩;have h2:=h.sq T[m.toNat] (List.getElem_mem h1);have h3:n.toNat<T[m.toNat].length:=by omega
 rw[Cw h3];simp only[Dd,DL,Cw h1,Option.getD_some,Cw h3]
def QM (l:List Int) (f:Bool) (i:Nat) (ha:i<l.length) (hl:l.length<=16):Pure zP 190 [.l (iL l) f,eI (i:Int)] (.l (iL (l.eraseIdx i)) false):=by
 have hM:=Mx;refine vX kZ ?_;have hs:=Sn
 conv=>whnf
 repeat'((first|clear U K|apply st|(apply zk;intro K U)|refine zY ?_|(rw[wrap64 (by omega) (by omega)];refine fL ?_ (by omega) (by omega) fun _=>rfl)|fail)<;>conv=>whnf)
 replace hs:=FA hs 1;refine GP hs 0 (xs:=[]) (ys:=l.take (i:Int).toNat) rfl (by simp;omega) Bc fun v Z hs=>?_
 refine zz ?_;(repeat clear U K);repeat intro K U
 refine GP hs 0 (xs:=[]++l.take (i:Int).toNat) (ys:=l.drop ((i:Int)+1).toNat) rfl (by simp;omega) Bc fun v Z hs=>?_
 refine zz ?_;(repeat clear U K);repeat intro K U
 have e: []++l.take (i:Int).toNat++l.drop ((i:Int)+1).toNat=l.eraseIdx i:=by
  rw[List.eraseIdx_eq_take_drop_succ,List.nil_append,JC,show((i:Int)+1).toNat=i+1 by omega]
 rw[e]at hs;exact Ab (hs.HP 0 rfl)
def G6 (A:Int->Int->Bool) (l:List Int) (i k:Nat):Bool:=(List.range k).all fun j=>j==i||A (l.getD i 0) (l.getD j 0)
def D7 (A:Int->Int->Bool) (l:List Int):Option Nat:=(List.range l.length).find? fun i=>G6 A l i l.length
def NG (A:Int->Int->Bool) (l:List Int):Int:=match D7 A l with|some i=>i|none=> -1
def SA (A:Int->Int->Bool) (l:List Int) (i k:Nat):G6 A l i (k+1)=(G6 A l i k&&(k==i||A (l.getD i 0) (l.getD k 0))):=by
 rw[G6,List.range_succ,List.all_append,G6];simp
def B6 {l:List Int} {k:Nat} {x:Int} (h:l[k]? =some x):l.getD k 0=x:=by rw[DL,h];rfl
def Sv {A:Int->Int->Bool} {l:List Int} {i:Nat} (h:D7 A l=some i):i<l.length:=by
 have:=List.mem_of_find?_eq_some h;simpa using this
def jt {A:Int->Int->Bool} {l:List Int} {i:Nat} (hi:i<l.length) (h:G6 A l i l.length=true) (hn: ∀j,j<i->G6 A l j l.length=false):NG A l=i:=by
 have:D7 A l=some i:=by
  rw[D7,List.find?_range_eq_some];exact⟨h,List.mem_range.2 hi,fun j hj=>by rw[hn j hj];rfl⟩
 rw[NG,this]
def Yl {A:Int->Int->Bool} {l:List Int} (hn: ∀j,j<l.length->G6 A l j l.length=false):NG A l= -1:=by
 have:D7 A l=none:=by
  rw[D7,List.find?_range_eq_none];exact fun j hj=>by rw[hn j hj];rfl
 rw[NG,this]
def ju (T : List (List Bool)) (l:List Int) (f:Bool) (h:KG T l):Pure zP 189 [xA T,.l (iL l) f] (eI (NG (Dd T) l)):=by
 have hM:=Mx;have hm:=h.many;have hT:=h.len;refine vY kZ ?_;have hs:=Sn;refine zz ?_;(repeat clear U K);repeat intro K U
 refine By l.length (fun i (_:Unit)=>[(5,eI (A9 i))]) (fun _ _=>[]) (fun i _=> ∀j,j<i->G6 (Dd T) l j l.length=false) () rfl (fun j hj=>by omega) hs ?_;clear hs;rintro i - Z hi hn hs;rcases A3 l hi with⟨x,hx,hlt⟩|hie
 .have hxi:=h.ins x (Bz hx)
  refine zz ?_;(repeat clear U K);repeat intro K U
  refine By l.length (fun k (b:Bool)=>[(6,.b b),(7,eI (A9 k))]) (fun _ _=>[]) (fun k b=>b=G6 (Dd T) l i k) true rfl rfl hs ?_;clear hs;rintro k b Z hk hb hs;rcases A3 l hk with⟨y,hy,hklt⟩|hke
  .have hyi:=h.ins y (Bz hy)
   obtain⟨r,hr,hry⟩:=pD h hxi hyi;have hsu:=SA (Dd T) l i k;rw[B6 hx,B6 hy,<-hb]at hsu;have hci:A9 i=i:=AM (by omega);have hck:A9 k=k:=AM (by omega);have hrl:=h.sq r (Bz hr);cases b
   .refine zz ?_;(repeat clear U K);repeat intro K U
    exact⟨hklt,false,rfl,(hsu.trans (by simp)).symm,hs⟩
   .by_cases hki:k=i
    .conv=>whnf
     repeat'((first|clear U K|apply st|(apply zk;intro K U)|refine zY ?_|(refine zb (fun hc=>?_) (fun hc=>?_)<;>try exact⟨⟩)|fail)<;>conv=>whnf)
     exact⟨hklt,true,rfl,(hsu.trans (by simp[hki])).symm,hs⟩
    .conv=>whnf
     repeat'((first|clear U K|apply st|(apply zk;intro K U)|refine zY ?_|(refine zb (fun hc=>?_) (fun hc=>?_)<;>try exact⟨⟩)|fail)<;>conv=>whnf)
     exact⟨hklt,Dd T x y,rfl,(hsu.trans (by simp[hki])).symm,hs⟩
  .conv=>whnf
   repeat'((first|clear U K|apply st|(apply zk;intro K U)|refine zY ?_|refine za (fun hc=>?_) fun hc=>?_|fail)<;>conv=>whnf)
   .exact AF (by rw[jt hlt (by rw[<-hke,<-hb,hc]) hn,AM (by omega)])
   .refine⟨hlt,(),rfl,fun j hj=>?_,hs⟩
    rcases Nat.lt_or_ge j i with h'|h'
    .exact hn j h'
    .rw[show j=i by omega,<-hke,<-hb,hc]
 .refine zz ?_;(repeat clear U K);repeat intro K U
  exact AF (by rw[Yl fun j hj=>hn j (by omega)])
def BR (A:Int->Int->Bool):Nat->List Int->List Int×Bool
 | 0,_=>([],false)
 | k+1,l=>match D7 A l with
   | none=>([],!l.isEmpty)
   | some i=>(l.getD i 0::(BR A k (l.eraseIdx i)).1,(BR A k (l.eraseIdx i)).2)
def KG.less {T:List (List Bool)} {l:List Int} (h:KG T l) (i:Nat):KG T (l.eraseIdx i):=
 ⟨h.len,h.sq,fun x hx=>h.ins x (List.mem_of_mem_eraseIdx hx),Nat.le_trans (List.length_eraseIdx_le _ _) h.many⟩
def Wa (T:List (List Bool)) (l:List Int) (f:Bool) (h:KG T l):Pure zP 134 [xA T,.l (iL l) f] (.t [.l (iL (BR (Dd T) l.length l).1) false,.b (BR (Dd T) l.length l).2]):=by
 have hM:=Mx;refine wI kZ ?_;have hs:=Sn;refine zz ?_;(repeat clear U K);repeat intro K U
 refine DF (fun(x:List Int×Bool×V×List Int)=>x.1.length) (fun x=>[(1,.l (iL x.1) x.2.1),(6,x.2.2.1)]) (fun x=>[.own x.2.2.1 1 (iL x.2.2.2)])
  (fun x=>KG T x.1/\x.2.2.2.length+x.1.length<=16/\BR (Dd T) l.length l=(x.2.2.2++(BR (Dd T) x.1.length x.1).1,(BR (Dd T) x.1.length x.1).2)) (l,f,.l [] true,[]) rfl ⟨h,by simpa using h.many,by simp⟩ (FA hs 1) ?_
 clear hs;rintro⟨l',f',v,out⟩ Z ⟨ho,hlen,hm⟩ hs;dsimp only at ho hlen hm hs;dsimp only;have c1:=ju T l' f' ho;have hll:out.length<AX/\(out.length+1)*8<=140737488355328:=by omega
 by_cases hz:l'.length=0
 .conv=>whnf
  repeat'((first|clear U K|apply st|(apply zk;intro K U)|refine zY ?_|(refine zb (fun hc=>?_) (fun hc=>?_)<;>try exact⟨⟩)|fail)<;>conv=>whnf)
  rw[hz]at hm;simp only[BR,I4]at hm;rw[hm];exact Ab (.t (.cons (hs.HP 0 rfl) (.cons (.refl _) .nil)))
 .rw[NG]at c1
  obtain⟨n,hn⟩: ∃n,l'.length=n+1:=⟨l'.length - 1,by omega⟩
  have hne:l'.isEmpty=false:=by cases l' with
   | nil=>simp at hz
   | cons=>rfl
  rw[hn,BR]at hm;cases hfo:D7 (Dd T) l' with
  | none=>
    rw[hfo]at c1 hm;dsimp only at c1 hm
    conv=>whnf
    repeat'((first|clear U K|apply st|(apply zk;intro K U)|refine zY ?_|refine zC ?_|(refine zb (fun hc=>?_) (fun hc=>?_)<;>try exact⟨⟩)|fail)<;>conv=>whnf)
    rw[hm,hne,I4];exact Ab (.t (.cons (hs.HP 0 rfl) (.cons (.refl _) .nil)))
  | some i=>
    rw[hfo]at c1 hm;dsimp only at c1 hm;have hi:=Sv hfo;have c2:=QM l' f' i hi ho.many;obtain⟨x,hx⟩: ∃x,l'[i]? =some x:=⟨_,Cw hi⟩
    have hel:=List.length_eraseIdx_of_lt hi;rw[B6 hx]at hm
    conv=>whnf
    repeat'((first|clear U K|apply st|(apply zk;intro K U)|refine zY ?_|refine aq fun v Z hs hsl=>?_|refine zC ?_|(refine zb (fun hc=>?_) (fun hc=>?_)<;>try exact⟨⟩)|fail)<;>conv=>whnf)
    refine⟨(l'.eraseIdx i,false,v,out++[x]),by dsimp only;omega,rfl,⟨ho.less i,by simp;omega,?_⟩,hs⟩;dsimp only;rw[hm,hel,show l'.length - 1=n by omega];simp
end Go.Gl
namespace Go.Gl
open Go.Proofs
attribute [local irreducible] A6 Ar Ah AR AI Ae AQ AT AK Ad AN AO Ay A7 Sat AY A5 Ai W
def I5 (objs:Int) (v:Int×Int):Bool:=
 if v.1=1 then decide (-1000000000<=v.2)&&decide (v.2<=1000000000)else if v.1=2 then v.2==0 else if v.1=3 then decide (0<=v.2)&&decide (v.2<objs)else false
def xx (v:Int×Int) (n:Int):Pure zP 106 [.a (pI v),eI n] (.b (I5 n v)):=by
 obtain⟨k,x⟩:=v;refine wQ kZ ?_;have hs:=Sn
 conv=>whnf
 repeat'((first|clear U K|apply st|(apply zk;intro K U)|refine zY ?_|(refine zd (fun hc=>?_) (fun hc=>?_)<;>try exact⟨⟩)|fail)<;>conv=>whnf)
 all_goals exact AF (by simp[I5, *]<;>omega)
def qu (l:List (Int×Int)) (f:Bool) (n:Int):Pure zP 60 [.l (pP l) f,eI n] (.b (l.all (I5 n))):=by
 refine Pure.fit (by kernel_rfl) fun hf=>?_
 have hl:l.length<=AX:=by
  have:=hf.1;simp only[Ex,BL]at this;exact this.1
 have hM:=Mx;refine yl kZ ?_;have hs:=Sn;refine zz ?_;(repeat clear U K);repeat intro K U
 refine By l.length (fun k (_:Unit)=>[(9,eI (A9 k))]) (fun _ _=>[]) (fun k _=>l.all (I5 n)=(l.drop k).all (I5 n)) () rfl rfl hs ?_;clear hs;rintro k - Z hk hn hs;rcases A3 l hk with⟨x,hx,hlt⟩|hke
 .have c1:=xx x n
  rw[drop_cons hx,KK]at hn;cases hv:I5 n x<;>rw[hv]at c1 hn
  .conv=>whnf
   repeat'((first|clear U K|apply st|(apply zk;intro K U)|refine zY ?_|refine zs fun Z hs=>?_|refine zC ?_|refine zo fun nn hnn Z hs=>?_|fail)<;>conv=>whnf)
   exact AF (by rw[hn];rfl)
  .conv=>whnf
   repeat'((first|clear U K|apply st|(apply zk;intro K U)|refine zY ?_|refine zs fun Z hs=>?_|refine zC ?_|refine zo fun nn hnn Z hs=>?_|fail)<;>conv=>whnf)
   exact⟨hlt,(),rfl,hn,hs.less (Jm _)⟩
 .refine zz ?_;(repeat clear U K);repeat intro K U
  exact AF (by rw[hn,Al hke];rfl)
abbrev Ob:=Int×List (Int×Int)
abbrev eOb (o:Ob):List V:=[eI o.1,.l (pP o.2) false]
end Go.Gl
namespace Go.Gl
open Go.Proofs
section
variable {H:Type} {enc:TypeId×Value->H} {W:World}
def x8:O9 enc Tryz.prog W 41 pI:=fun n=>
 Fc (Dz Tryz.underlying41
  (fun n=>A4 (c:=1) rfl (by kernel_rfl) (fun _=>rfl) (Ks Tryz.underlying39 n) (A4 (c:=1) rfl (by kernel_rfl) (fun _=>rfl) (JH n) Fe)) (fun _=>(show _=2 from rfl).trans (by kernel_rfl)) n) (fun x=>(x.1,x.2.1)) fun _=>rfl
def rF:O9 enc Tryz.prog W 33 fun l:List (Int×Int)=>[V.l (pP l) false]:=Fq (sz:=2) Tryz.underlying33 (by kernel_rfl) (by decide) (b8 (by kernel_rfl)) (fun _=>rfl) x8
end
structure ec where
 ord:Int
 pick:Int
 fold:Int
deriving DecidableEq
structure xU where
 of:Int
 rd:Int
 wr:Int
 xG:Int
deriving DecidableEq
structure RN where
 Cf:List ec
 Bv:List xU
 cls:List Int
abbrev Ta (c:ec):List V:=[eI c.ord,eI c.pick,eI c.fold]
abbrev VB (m:xU):List V:=[eI m.of,eI m.rd,eI m.wr,eI m.xG]
abbrev JK (q:RN):List V:=[.l (q.Cf.map Ta) false,.l (q.Bv.map VB) false,.l (iL q.cls) false]
instance :Rc Ta:=⟨fun _=>rfl⟩
instance :Rc VB:=⟨fun _=>rfl⟩
def Ew (q:RN):Bool:=decide (q.Cf.length<=60)&&(decide (q.Bv.length<=60)&&decide (q.cls.length<=60))
def GD {q:RN} (h:Ew q=true):q.Cf.length<=60/\q.Bv.length<=60/\q.cls.length<=60:=by
 simpa[Ew]using h
def C1 (f:Int):Bool:=decide (1<=f)&&decide (f<=6)
def RX (c:ec):Bool:=(decide (1<=c.ord)&&decide (c.ord<=2))&&(C1 c.fold&&(decide (0<=c.pick)&&decide (c.pick<=16)))
def Ha (p:Prog) (g k:Int):Bool:=(g== -1)||(TZ p g&&p.CW.getD g.toNat 0==k)
def qX (p:Prog) (i:Int) (m:xU):Bool:=(decide (-1<=m.of)&&decide (m.of<i))&&(Ha p m.rd 2&&(Ha p m.wr 2&&Ha p m.xG 1))
def JQ (p:Prog):Nat->List xU->Bool
 | _,[]=>true
 | i,m::r=>qX p i m&&JQ p (i+1) r
def eN (n:Nat) (c:Int):Bool:=decide (-1<=c)&&decide (c<(n:Int))
def fW (p:Prog) (q:RN):Bool:=decide (q.Cf.length=p.CW.length)&&(decide (q.Bv.length<=4)&&decide (q.cls.length=p.AJ.length))
def Kj (p:Prog) (q:RN):Bool:=fW p q&&(q.Cf.all RX&&(JQ p 0 q.Bv&&q.cls.all (eN q.Bv.length)))
def Jb (p:Prog) (q:RN):Bool:=(BW p).isSome&&Kj p q
def P1 {p:Prog} {q:RN} (h:Kj p q=true):q.Cf.length=p.CW.length/\q.Bv.length<=4/\q.cls.length=p.AJ.length:=by
 rw[Kj,BD]at h;have:=h.1;simpa[fW]using this
section
variable {H:Type} {enc:TypeId×Value->H} {W:World}
def yB:O9 enc Tryz.prog W 66 Ta:=fun n=>
 Fc (Dz Tryz.underlying66
  (fun n=>A4 (c:=1) rfl (by kernel_rfl) (fun _=>rfl) (Ks Tryz.underlying63 n) (A4 (c:=1) rfl (by kernel_rfl) (fun _=>rfl) (JH n)
   (A4 (c:=1) rfl (by kernel_rfl) (fun _=>rfl) (Ks Tryz.underlying32 n) Fe))) (fun _=>(show _=3 from rfl).trans (by kernel_rfl)) n) (fun x=>⟨x.1,x.2.1,x.2.2.1⟩) fun _=>rfl
def rM:O9 enc Tryz.prog W 28 fun l:List ec=>[V.l (l.map Ta) false]:=Fq (sz:=3) Tryz.underlying28 (by kernel_rfl) (by decide) (b8 (by kernel_rfl)) (fun _=>rfl) yB
def yA:O9 enc Tryz.prog W 90 VB:=fun n=>
 Fc (Dz Tryz.underlying90
  (fun n=>A4 (c:=1) rfl (by kernel_rfl) (fun _=>rfl) (JH n) (A4 (c:=1) rfl (by kernel_rfl) (fun _=>rfl) (JH n)
   (A4 (c:=1) rfl (by kernel_rfl) (fun _=>rfl) (JH n) (A4 (c:=1) rfl (by kernel_rfl) (fun _=>rfl) (JH n) Fe)))) (fun _=>(show _=4 from rfl).trans (by kernel_rfl)) n) (fun x=>⟨x.1,x.2.1,x.2.2.1,x.2.2.2.1⟩) fun _=>rfl
def rJ:O9 enc Tryz.prog W 29 fun l:List xU=>[V.l (l.map VB) false]:=Fq (sz:=4) Tryz.underlying29 (by kernel_rfl) (by decide) (b8 (by kernel_rfl)) (fun _=>rfl) yA
def x9:O9 enc Tryz.prog W 31 JK:=fun n=>
 Fc (Dz Tryz.underlying31
  (fun n=>A4 (c:=1) rfl (by kernel_rfl) (fun _=>rfl) (rM n) (A4 (c:=1) rfl (by kernel_rfl) (fun _=>rfl) (rJ n)
   (A4 (c:=1) rfl (by kernel_rfl) (fun _=>rfl) (PL n) Fe))) (fun _=>(show _=3 from rfl).trans (by kernel_rfl)) n) (fun x=>⟨x.1,x.2.1,x.2.2.1⟩) fun _=>rfl
end
end Go.Gl
