import Derived.Test.YtcfkfhaedllcpaaGreatW14
import Derived.Test.YtcfkfhaedllcpaaGreatW19
set_option linter.all false
set_option linter.defProp false
set_option maxHeartbeats 8000000
noncomputable section
namespace Go.Gl
open Go.Proofs
attribute [local irreducible] A3 Aq Af AR AJ Ad AQ AT AK Ac AM AN Ax A5 Sat AX A4 Ah W
def Gk (a:Int) (p:List Int) (l:Fact):Bool:=(Av l).1.arg==a&&(Av l).1.path==p
def GG {w:AI} {ls:List Fact} {a:Int} {p:List Int} {c:Bool} (h:E0 (.a (GY w ls a p c))):ls.length<=AY/\p.length<=AY/\w.owner.length<=AY/\w.parents.length<=AY:=by
 simp only[GY,Gy,DQ,Gx,BU]at h;exact⟨h.2.2.1.1,h.2.2.2.2.1.1,h.2.1.1,h.1.1⟩
def eQ (w:AI) (ls:List Fact) (a:Int) (p:List Int) (c:Bool) (hok: ∀l∈ls,F8 l) (hln:ls.length<=1000000):Pure zP 354 [.a (GY w ls a p c)] (.l (facts (ls.filter (Gk a p))) false):=by
 refine Pure.fit (by kernel_rfl) fun hf=>?_
 have⟨h1,h2,h3,h4⟩:=GG hf.1;have hM:=Mx;refine so kZ ?_;have hs:=Sn;refine zv ?_;(repeat clear U K);repeat intro K U
 refine B0 ls.length (fun k v=>[(3,v),(11,eI (A8 k))]) (fun k v=>[.own v 6 (facts ((ls.take k).filter (Gk a p)))]) (fun _ _=>True) (.l [] true) rfl trivial (El hs 6) ?_;clear hs;rintro k v Z hk - hs;have hfl:=Qs (Gk a p) (ls.take k)
 conv=>whnf
 repeat'((first|clear U K|apply st|(apply zk;intro K U)|refine zX ?_|refine zr fun Z hs=>?_|refine apF fun v Z hs hsl=>?_|(refine fc (fun x hx hlt hc=>?_) (fun hk hc=>?_)<;>(try rw[hc])<;>clear hc)|refine Pure.use (HP _ (hok _ (B1 (by assumption)))) ?_|refine Pure.use (Ks _ _ _ _) ?_|refine za (fun hc=>?_) fun hc=>?_|refine zp fun nn hnn Z hs=>?_|fail)<;>conv=>whnf)
 .exact⟨hlt,_,rfl,trivial,by rw[AL hx,List.filter_append];simpa[Gk, *]using hs.take 1⟩
 .exact⟨hlt,_,rfl,trivial,by rw[AL hx,List.filter_append];simpa[Gk, *]using hs.take 1⟩
 .exact⟨hlt,_,rfl,trivial,by rw[AL hx,List.filter_append];simpa[Gk, *]using hs.take 1⟩
 .exact EC hs 0 rfl (by rw[Au hk])
def D9 (ls:List Fact) (a:Int) (p:List Int):Bool:=ls.all fun l=>(Av l).2|| !((Av l).1.arg==a&&Bp (Av l).1.path p)
def aB (w:AI) (ls:List Fact) (a:Int) (p:List Int) (c:Bool) (hok: ∀l∈ls,F8 l):Pure zP 359 [.a (GY w ls a p c)] (.b (D9 ls a p)):=by
 refine Pure.fit (by kernel_rfl) fun hf=>?_
 have⟨h1,h2,h3,h4⟩:=GG hf.1;have hM:=Mx;refine sf kZ ?_;have hs:=Sn;refine zv ?_;(repeat clear U K);repeat intro K U
 refine B0 ls.length (fun k (_:Unit)=>[(10,eI (A8 k))]) (fun k _=>[]) (fun k _=>D9 ls a p=(ls.drop k).all fun l=>(Av l).2|| !((Av l).1.arg==a&&Bp (Av l).1.path p)) () rfl rfl hs ?_;clear hs;rintro k - Z hk hn hs
 conv=>whnf
 repeat'((first|clear U K|apply st|(apply zk;intro K U)|refine zX ?_|refine zr fun Z hs=>?_|(refine fc (fun x hx hlt hc=>?_) (fun hk hc=>?_)<;>(try rw[hc])<;>clear hc)|refine Pure.use (HP _ (hok _ (B1 (by assumption)))) ?_|refine Pure.use (Sr _ _ _ _) ?_|refine za (fun hc=>?_) fun hc=>?_|refine zp fun nn hnn Z hs=>?_|fail)<;>conv=>whnf)
 .exact AF (by rw[hn,drop_cons hx,LC];simp[*])
 .exact⟨hlt,(),rfl,by rw[hn,drop_cons hx,LC];simp[*],hs.take 0⟩
 .exact⟨hlt,(),rfl,by rw[hn,drop_cons hx,LC];simp[*],hs.take 0⟩
 .exact⟨hlt,(),rfl,by rw[hn,drop_cons hx,LC];simp[*],hs.take 0⟩
 .exact AF (by rw[hn,Ao hk];rfl)
def Cn (n:Nat):List Int:=(List.range n).map Int.ofNat
def N5 (n:Nat):Cn (n+1)=Cn n++[(n:Int)]:=by simp[Cn,List.range_succ]
def IA (n:Nat):(Cn n).length=n:=by simp[Cn]
def Yj (a:Int) (p:List Int) (s:Int) (l:Fact):Bool:=(Av l).1.arg==a&&Bp (Av l).1.path (p++[s])
def Bg (n:Nat) (ls:List Fact) (a:Int) (p:List Int):List Int:=(Cn n).filter fun s=>ls.any (Yj a p s)
def VX (w:AI) (ls:List Fact) (a:Int) (p:List Int) (c:Bool) (hok: ∀l∈ls,F8 l) (hp:p.length<100) :
    Pure zP 357 [.a (GY w ls a p c)] (.l (iL (Bg w.owner.length ls a p)) false):=by
 refine Pure.fit (by kernel_rfl) fun hf=>?_
 have⟨h1,h2,h3,h4⟩:=GG hf.1;have hM:=Mx;refine sh kZ ?_;have hs:=Sn;refine zv ?_;(repeat clear U K);repeat intro K U
 refine B0 w.owner.length (fun k v=>[(3,v),(14,eI (A8 k))]) (fun k v=>[.own v 1 (iL (Bg k ls a p))]) (fun _ _=>True) (.l [] true) rfl trivial (El hs 1) ?_;clear hs;rintro k v Z hk - hs;have hck:A8 k=k:=AO (by omega);have hfl:=Qs (fun s=>ls.any (Yj a p s)) (Cn k);rw[IA]at hfl;have hfl2:(Bg k ls a p).length<=k:=hfl
 conv=>whnf
 repeat'((first|clear U K|apply st|(apply zk;intro K U)|refine zX ?_|(refine fc (fun x hx hlt hc=>?_) (fun hk hc=>?_)<;>(try rw[hc])<;>clear hc)|fail)<;>conv=>whnf)
 .refine B0 ls.length (fun j b=>[(5,.b b),(20,eI (A8 j))]) (fun j _=>[.own v 1 (iL (Bg k ls a p))]) (fun j b=>b=(ls.take j).any (Yj a p (A8 k))) false rfl (by simp) hs ?_
  clear hs;rintro j b Z hj hb hs;subst hb
  conv=>whnf
  repeat'((first|clear U K|apply st|(apply zk;intro K U)|refine zX ?_|refine rk ?_ ?_|exact fun s e=>by cases e;rfl|refine zr fun Z hs=>?_|refine aq fun v Z hs hsl=>?_|(refine fc (fun x hx hlt hc=>?_) (fun hk hc=>?_)<;>(try rw[hc])<;>clear hc)|refine Pure.use (HP _ (hok _ (B1 (by assumption)))) ?_|refine Pure.use (Sr _ _ _ _) ?_|refine Pure.use (JY _ _ _ _ _ _ (by omega)) ?_|(refine zd (fun hc=>?_) (fun hc=>?_)<;>try exact⟨⟩)|refine zp fun nn hnn Z hs=>?_|fail)<;>conv=>whnf)
  .exact⟨hlt,_,rfl,by rw[AL hx,List.any_append];simp[Yj, *],hs.take 1⟩
  .exact⟨hlt,_,rfl,by rw[AL hx,List.any_append];simp[Yj, *],hs.take 1⟩
  .exact⟨hlt,true,rfl,by rw[AL hx,List.any_append];simp[*],hs.take 1⟩
  .refine⟨by assumption,_,rfl,trivial,?_⟩
   rw[Au hk]at hc;rw[Bg,N5,List.filter_append];simp only[Bg]at hs;simpa[hc,hck]using hs
  .refine⟨by assumption,_,rfl,trivial,?_⟩
   rw[Au hk]at hc;rw[Bg,N5,List.filter_append];simp only[Bg]at hs;simpa[hc,hck]using hs
 .exact EC hs 0 rfl (by rw[hk])
def E9 (n:Nat) (ls:List Fact) (a:Int) (p:List Int):Bool:=(Bg n ls a p).all fun s=>D9 ls a (p++[s])
def Zw (w:AI) (ls:List Fact) (a:Int) (p:List Int) (c:Bool) (hok: ∀l∈ls,F8 l) (hp:p.length<50):Pure zP 356 [.a (GY w ls a p c)] (.b (E9 w.owner.length ls a p)):=by
 refine Pure.fit (by kernel_rfl) fun hf=>?_
 have⟨h1,h2,h3,h4⟩:=GG hf.1;have hM:=Mx;refine sj kZ ?_;have hs:=Sn;have hfl:=Qs (fun s=>ls.any (Yj a p s)) (Cn w.owner.length);rw[IA]at hfl;have hfl2:(Bg w.owner.length ls a p).length<=w.owner.length:=hfl
 conv=>whnf
 repeat'((first|clear U K|apply st|(apply zk;intro K U)|refine zX ?_|refine Pure.use (VX _ _ _ _ _ hok (by omega)) ?_|fail)<;>conv=>whnf)
 refine B0 (Bg w.owner.length ls a p).length (fun k (_:Unit)=>[(8,eI (A8 k))]) (fun k _=>[]) (fun k _=>E9 w.owner.length ls a p=((Bg w.owner.length ls a p).drop k).all fun s=>D9 ls a (p++[s])) () rfl rfl hs ?_;clear hs;rintro k - Z hk hn hs
 conv=>whnf
 repeat'((first|clear U K|apply st|(apply zk;intro K U)|refine zX ?_|(refine fc (fun x hx hlt hc=>?_) (fun hk hc=>?_)<;>(try rw[hc])<;>clear hc)|refine Pure.use (JY _ _ _ _ _ _ (by omega)) ?_|refine Pure.use (aB _ _ _ _ _ hok) ?_|refine za (fun hc=>?_) fun hc=>?_|fail)<;>conv=>whnf)
 .exact AF (by rw[hn,drop_cons hx,LC];simp[*])
 .exact⟨hlt,(),rfl,by rw[hn,drop_cons hx,LC];simp[*],hs⟩
 .exact AF (by rw[hn,Ao hk];rfl)
def KW (ls:List Fact):Prop:= ∀l∈ls,-1000000000<=(Av l).1.n/\(Av l).1.n<=1000000000
def HD (x:Fact×Bool) (t:Int×Int×List Int):Option (Int×Int×List Int):=
 if x.1.op=2 then if decide (x.1.cls > 1) != x.2 then none else some t
 else if x.1.op=3 then(if x.2 then some (if x.1.n > t.1 then x.1.n else t.1,t.2.1,t.2.2)else some (t.1,if x.1.n - 1<t.2.1 then x.1.n - 1 else t.2.1,t.2.2))
 else if x.2 then some (t.1,t.2.1,t.2.2++[x.1.n])else some (if x.1.n > t.1 then x.1.n else t.1,if x.1.n<t.2.1 then x.1.n else t.2.1,t.2.2)
def foldI:List Fact->Int×Int×List Int->Option (Int×Int×List Int)
 | [],t=>some t
 | x::r,t=>(HD (Av x) t).bind (foldI r)
def Na: ∀(xs ys:List Fact) (t:Int×Int×List Int),foldI (xs++ys) t=(foldI xs t).bind (foldI ys)
 | [],_,_=>rfl
 | x::r,ys,t=>by
   simp only[List.cons_append,foldI];cases HD (Av x) t with
   | none=>rfl
   | some u=>exact Na r ys u
def GL {os:List Fact} {k:Nat} {x:Fact} (hx:os[k]? =some x) (t:Int×Int×List Int):foldI (os.take (k+1)) t=(foldI (os.take k) t).bind (HD (Av x)):=by
 rw[AL hx,Na];congr 1;funext u;simp only[foldI];cases HD (Av x) u<;>rfl
def YM {os:List Fact} (k:Nat) {t:Int×Int×List Int} (h:foldI (os.take k) t=none):foldI os t=none:=by
 rw[<-List.take_append_drop k os,Na,h];rfl
def S7 (no:List Int):Nat->Int->Option Int
 | 0,_=>none
 | k+1,n=>if no.all (· != n)then some n else S7 no k (n+1)
def O9 (t:Int×Int×List Int):Option Int:=S7 t.2.2 (t.2.1+1 - t.1).toNat t.1
def t0:Int×Int×List Int:=(-1000000000,1000000000,[])
def It (ls:List Fact) (a:Int) (p:List Int):Option Int:=(foldI (ls.filter (Gk a p)) t0).bind O9
def au (n:Nat) (ls:List Fact) (a:Int) (p:List Int):V:=match It ls a p with
 | some x=> .t [eI x,.b (E9 n ls a p)]
 | none=> .t [eI 0,.b false]
def QV (w : AI) (ls:List Fact) (a:Int) (p:List Int) (c:Bool) (hokL: ∀l∈ls,F8 l) (hln:ls.length<=1000000) (hp:p.length<50) (hsm:KW ls):Pure zP 321 [.a (GY w ls a p c)] (au w.owner.length ls a p):=by
 refine Pure.fit (by kernel_rfl) fun hf=>?_
 have⟨h1,h2,h3,h4⟩:=GG hf.1;have hM:=Mx;refine tD kZ ?_;have hs:=Sn;have hfl:=Qs (Gk a p) ls;have hok2: ∀l∈ls.filter (Gk a p),F8 l:=fun l hl=>hokL l ((LH.1 hl).1)
 have hsm2:KW (ls.filter (Gk a p)):=fun l hl=>hsm l ((LH.1 hl).1)
 conv=>whnf
 repeat'((first|clear U K|apply st|(apply zk;intro K U)|refine zX ?_|refine Pure.use (eQ _ _ _ _ _ hokL hln) ?_|fail)<;>conv=>whnf)
 generalize hos:ls.filter (Gk a p)=os at *;have hV:It ls a p=(foldI os t0).bind O9:=by rw[It,hos]
 refine B0 os.length (fun k (x:Int×Int×List Int×V)=>[(4,eI x.1),(5,eI x.2.1),(6,x.2.2.2),(18,eI (A8 k))]) (fun k x=>[.own x.2.2.2 1 (iL x.2.2.1)]) (fun k x=>foldI (os.take k) t0=some (x.1,x.2.1,x.2.2.1)/\ -1000000000<=x.1/\x.1<=1000000000/\ -1000000001<=x.2.1/\x.2.1<=1000000000/\x.2.2.1.length<=k) (-1000000000,1000000000,[],.l [] true) rfl ⟨rfl,by simp⟩ (El hs 1) ?_;clear hs;rintro k ⟨low,high,no,v⟩ Z hk ⟨hno,hb1,hb2,hb3,hb4,hb5⟩ hs;simp only at hb1 hb2 hb3 hb4 hb5 hno;have hok:=hok2
 conv=>whnf
 repeat'((first|clear U K|apply st|(apply zk;intro K U)|refine zX ?_|refine zr fun Z hs=>?_|refine aq fun v Z hs hsl=>?_|(refine fc (fun x hx hlt hc=>?_) (fun hk hc=>?_)<;>(try rw[hc])<;>clear hc)|refine Pure.use (HP _ (hok _ (B1 (by assumption)))) ?_|(refine zb (fun hc=>?_) (fun hc=>?_)<;>try exact⟨⟩)|refine zp fun nn hnn Z hs=>?_|fail)<;>conv=>whnf)
 all_goals first
  | (have hb:=hsm2 _ (B1 hx)
     first
      | (refine⟨hlt,(_,_,_,_),rfl,⟨?_,?_⟩,hs.take 1⟩
         .rw[GL hx,hno]
          have hw:IntKind.i64.wrap ((Av ‹Fact›).1.n - 1)=(Av ‹Fact›).1.n - 1:=wrap64 (by omega) (by omega);simp[HD, *]
          done
         .have hw:IntKind.i64.wrap ((Av ‹Fact›).1.n - 1)=(Av ‹Fact›).1.n - 1:=wrap64 (by omega) (by omega)
          simp only[RQ,List.length_singleton,hw]
          refine⟨?_,?_,?_,?_,?_⟩<;>(try split)<;>omega)
      | (refine AF ?_
         have:foldI os t0=none:=YM (k+1) (by rw[GL hx,hno];simp[HD, *]);rw[this]at hV;simp only[au,hV]
         rfl))
  | skip
 .have hb:=hsm2 _ (B1 hx)
  refine⟨hlt,(if(Av x).1.n > low then(Av x).1.n else low,high,no,v),rfl,⟨?_,?_⟩,hs.take 1⟩
  .rw[GL hx,hno]
   simp[HD, *]
  .dsimp only
   refine⟨?_,?_,?_,?_,?_⟩<;>(try split)<;>omega
 .have hb:=hsm2 _ (B1 hx)
  have hw:IntKind.i64.wrap ((Av x).1.n - 1)=(Av x).1.n - 1:=wrap64 (by omega) (by omega);rw[hw];refine⟨hlt,(low,if(Av x).1.n - 1<high then(Av x).1.n - 1 else high,no,v),rfl,⟨?_,?_⟩,hs.take 1⟩
  .rw[GL hx,hno]
   simp[HD, *]
  .dsimp only
   refine⟨?_,?_,?_,?_,?_⟩<;>(try split)<;>omega
 .have hb:=hsm2 _ (B1 hx)
  refine⟨hlt,(if(Av x).1.n > low then(Av x).1.n else low,if(Av x).1.n<high then(Av x).1.n else high,no,v),rfl,⟨?_,?_⟩,hs.take 1⟩
  .rw[GL hx,hno]
   simp[HD, *]
  .dsimp only
   refine⟨?_,?_,?_,?_,?_⟩<;>(try split)<;>omega
 rw[Au (by assumption)]at hno;have hV2:It ls a p=O9 (low,high,no):=by rw[hV,hno];rfl
 dsimp only;refine Dz (fun n:Int=>(high+1 - n).toNat) (fun n=>[(11,eI n)]) (fun _=>[.own v 1 (iL no)]) (fun n=>low<=n/\n<=1000000001/\It ls a p=S7 no (high+1 - n).toNat n) low rfl ⟨by omega,by omega,hV2⟩ hs ?_;clear hs;rintro n Z ⟨hn1,hn2,hn⟩ hs;have hnl:no.length<=AY:=by omega
 conv=>whnf
 repeat'((first|clear U K|apply st|(apply zk;intro K U)|refine zX ?_|refine za (fun hc=>?_) fun hc=>?_|fail)<;>conv=>whnf)
 .refine B0 no.length (fun j b=>[(12,.b b),(80,eI (A8 j))]) (fun j _=>[.own v 1 (iL no)]) (fun j b=>b=(no.take j).all (· != n)) true rfl (by simp) hs ?_
  clear hs;rintro j b Z hj hb hs;subst hb
  conv=>whnf
  repeat'((first|clear U K|apply st|(apply zk;intro K U)|refine zX ?_|(refine fc (fun x hx hlt hc=>?_) (fun hk hc=>?_)<;>(try rw[hc])<;>clear hc)|refine Pure.use (Zw _ _ _ _ _ hokL (by omega)) ?_|refine za (fun hc=>?_) fun hc=>?_|fail)<;>conv=>whnf)
  .exact⟨hlt,_,rfl,by rw[AL hx,List.all_append,hc];simp,hs⟩
  .exact⟨hlt,false,rfl,by rw[AL hx,List.all_append,hc];simp,hs⟩
  .refine AF ?_
   rw[Au hk]at hc;rw[show(high+1 - n).toNat=(high - n).toNat+1 by omega,S7,if_pos hc]at hn;simp only[au,hn]
  .rw[Au hk]at hc
   rw[show(high+1 - n).toNat=(high+1 - (n+1)).toNat+1 by omega,S7,if_neg (by simp[hc])]at hn;rw[wrap64 (by omega) (by omega)];exact⟨n+1,by omega,rfl,⟨by omega,by omega,hn⟩,hs⟩
 .refine AF ?_
  have:(high+1 - n).toNat=0:=by omega
  rw[this,S7]at hn;simp only[au,hn]
def IT (x:Fact×Bool):Bool:=((x.1.op==2&&(x.1.cls==0||x.1.cls==2))==x.2)
def HI (n:Nat) (ls:List Fact) (a:Int) (p:List Int):Bool:=(ls.filter (Gk a p)).all (fun l=> !IT (Av l))&&E9 n ls a p
def ZZ (w:AI) (ls:List Fact) (a:Int) (p:List Int) (c:Bool) (hokL: ∀l∈ls,F8 l) (hln:ls.length<=1000000) (hp:p.length<50):Pure zP 322 [.a (GY w ls a p c)] (.b (HI w.owner.length ls a p)):=by
 refine Pure.fit (by kernel_rfl) fun hf=>?_
 have⟨h1,h2,h3,h4⟩:=GG hf.1;have hM:=Mx;refine tC kZ ?_;have hs:=Sn;have hfl:=Qs (Gk a p) ls;have hok: ∀l∈ls.filter (Gk a p),F8 l:=fun l hl=>hokL l (LH.1 hl).1
 conv=>whnf
 repeat'((first|clear U K|apply st|(apply zk;intro K U)|refine zX ?_|refine Pure.use (eQ _ _ _ _ _ hokL hln) ?_|fail)<;>conv=>whnf)
 generalize hos:ls.filter (Gk a p)=os at *;have hV:HI w.owner.length ls a p=(os.all (fun l=> !IT (Av l))&&E9 w.owner.length ls a p):=by rw[HI,hos]
 refine B0 os.length (fun k (_:Unit)=>[(11,eI (A8 k))]) (fun k _=>[]) (fun k _=>HI w.owner.length ls a p=((os.drop k).all (fun l=> !IT (Av l))&&E9 w.owner.length ls a p)) () rfl hV hs ?_;clear hs;rintro k - Z hk hn hs
 conv=>whnf
 repeat'((first|clear U K|apply st|(apply zk;intro K U)|refine zX ?_|refine zr fun Z hs=>?_|(refine fc (fun x hx hlt hc=>?_) (fun hk hc=>?_)<;>(try rw[hc])<;>clear hc)|refine Pure.use (HP _ (hok _ (B1 (by assumption)))) ?_|refine Pure.use (Zw _ _ _ _ _ hokL (by omega)) ?_|refine za (fun hc=>?_) fun hc=>?_|refine zp fun nn hnn Z hs=>?_|fail)<;>conv=>whnf)
 all_goals first
  | (have hst:IT (Av x)=true:=by clear hV hn;cases hz:(Av x).2<;>cases hy:((Av x).1.cls==2)<;>simp_all [IT]
     exact AF (by rw[hn,drop_cons hx,LC,hst];simp))
  | (have hst:IT (Av x)=false:=by clear hV hn;cases hz:(Av x).2<;>cases hy:((Av x).1.cls==2)<;>simp_all [IT]
     exact⟨hlt,(),rfl,by rw[hn,drop_cons hx,LC,hst];simp,hs.take 0⟩)
  | exact AF (by rw[hn,Ao (by assumption)];simp)
abbrev BB:=List Bool×List Bool
def F7 (x:Fact×Bool) (t:BB):Option BB:=
 if x.1.op≠2\/x.1.cls=1\/x.1.cls=2 then(if x.2 then some t else none)else
 if x.2 then some (t.1,t.2.set x.1.cls.toNat true)else some (t.1.set x.1.cls.toNat true,t.2)
def Dy:List Fact->BB->Option BB
 | [],t=>some t
 | x::r,t=>(F7 (Av x) t).bind (Dy r)
def IS (w:AI) (ls:List Fact) (a:Int) (p:List Int) (can:Int->Bool) (s:Int) (t:BB):Option BB:=
 if !D9 ls a (p++[s])&& !can s then none else some (if D9 ls a (p++[s])then t.1 else t.1.set (Cm w s).toNat true,if can s then t.2 else t.2.set (Cm w s).toNat true)
def De (w:AI) (ls:List Fact) (a:Int) (p:List Int) (can:Int->Bool):List Int->BB->Option BB
 | [],t=>some t
 | s::r,t=>(IS w ls a p can s t).bind (De w ls a p can r)
def Hj (ps:List (List Int)) (c:Nat) (bs:List Bool):List Bool:=if bs.getD c false then(par ps c).foldl (fun b q=>b.set q.toNat true) bs else bs
def Bx (ps:List (List Int)) (n:Nat):Nat->List Bool->List Bool
 | 0,bs=>bs
 | k+1,bs=>Hj ps (n - 1 - k) (Bx ps n k bs)
def G4: ∀(l:List Int) (bs:List Bool),(l.foldl (fun b q=>b.set q.toNat true) bs).length=bs.length
 | [],_=>rfl
 | q::r,bs=>by rw[List.foldl_cons,G4 r,List.length_set]
def ES (ps:List (List Int)) (n:Nat): ∀(k:Nat) (bs:List Bool),(Bx ps n k bs).length=bs.length
 | 0,_=>rfl
 | k+1,bs=>by
   rw[Bx,Hj];split
   .rw[G4,ES ps n k bs]
   .exact ES ps n k bs
def Us (w:AI) (t:BB):Option (List Bool):=
 if t.2.getD 0 false then none else
 if(List.range (3+w.parents.length)).any (fun c=>(Bx w.parents (3+w.parents.length) w.parents.length (t.1.set 0 false)).getD c false&&t.2.getD c false)then none else some (Bx w.parents (3+w.parents.length) w.parents.length (t.1.set 0 false))
def tO (w:AI):BB:=(List.replicate (3+w.parents.length) false,List.replicate (3+w.parents.length) false)
def KK (w:AI) (ls:List Fact) (a:Int) (p:List Int) (can:Int->Bool):Option (List Bool):=
 ((Dy (ls.filter (Gk a p)) (tO w)).bind (De w ls a p can (Bg w.owner.length ls a p))).bind (Us w)
def wL (o:Option (List Bool)):V:=match o with
 | some m=> .t [.l (bL m) false,.b true]
 | none=> .t [.l [] true,.b false]
def NZ: ∀(xs ys:List Fact) (t:BB),Dy (xs++ys) t=(Dy xs t).bind (Dy ys)
 | [],_,_=>rfl
 | x::r,ys,t=>by
   simp only[List.cons_append,Dy];cases F7 (Av x) t with
   | none=>rfl
   | some u=>exact NZ r ys u
def IG {os:List Fact} {k:Nat} {x:Fact} (hx:os[k]? =some x) (t:BB):Dy (os.take (k+1)) t=(Dy (os.take k) t).bind (F7 (Av x)):=by
 rw[AL hx,NZ];congr 1;funext u;simp only[Dy];cases F7 (Av x) u<;>rfl
def YL {os:List Fact} (k:Nat) {t:BB} (h:Dy (os.take k) t=none):Dy os t=none:=by
 rw[<-List.take_append_drop k os,NZ,h];rfl
def NY {w:AI} {ls:List Fact} {a:Int} {p:List Int} {can:Int->Bool}: ∀(xs ys:List Int) (t:BB),De w ls a p can (xs++ys) t=(De w ls a p can xs t).bind (De w ls a p can ys)
 | [],_,_=>rfl
 | x::r,ys,t=>by
   simp only[List.cons_append,De];cases IS w ls a p can x t with
   | none=>rfl
   | some u=>exact NY r ys u
def IF {w:AI} {ls:List Fact} {a:Int} {p:List Int} {can:Int->Bool} {os:List Int} {k:Nat} {x:Int} (hx:os[k]? =some x) (t:BB):De w ls a p can (os.take (k+1)) t=(De w ls a p can (os.take k) t).bind (IS w ls a p can x):=by
 rw[AL hx,NY];congr 1;funext u;simp only[De];cases IS w ls a p can x u<;>rfl
def YK {w:AI} {ls:List Fact} {a:Int} {p:List Int} {can:Int->Bool} {os:List Int} (k:Nat) {t:BB} (h:De w ls a p can (os.take k) t=none):De w ls a p can os t=none:=by
 rw[<-List.take_append_drop k os,NY,h];rfl
def Jo {n:Nat} {ls:List Fact} {a:Int} {p:List Int} {s:Int} (h:s∈Bg n ls a p):0<=s/\s<n:=by
 have:=(LH.1 h).1;simp only[Cn,Mg,List.mem_range]at this;obtain⟨m,hm,rfl⟩:=this;exact⟨Int.natCast_nonneg m,by simpa using hm⟩
def VI (w:AI) (ls:List Fact):Prop:= ∀l∈ls,(Av l).1.op=2->0<=(Av l).1.cls/\(Av l).1.cls<3+w.parents.length
def SD (w : AI) (ls:List Fact) (a:Int) (p:List Int) (c:Bool) (can:Int->Bool) (hokL: ∀l∈ls,F8 l) (hln:ls.length<=1000000) (hp:p.length<50) (hw:UZ w) (hcl:VI w ls) (hcan: ∀s∈Bg w.owner.length ls a p,Pure zP 293 [.a (GY w ls a (p++[s]) c)] (.b (can s))) :
    Pure zP 324 [.a (GY w ls a p c)] (wL (KK w ls a p can)):=by
 refine Pure.fit (by kernel_rfl) fun hf=>?_
 have⟨h1,h2,h3,h4⟩:=GG hf.1;have hM:=Mx;have hwl:=hw.len;have hwo:=hw.yb;refine tB kZ ?_;have hs:=Sn;have hfl:=Qs (Gk a p) ls;have hok: ∀l∈ls.filter (Gk a p),F8 l:=fun l hl=>hokL l (LH.1 hl).1
 have hcl2:VI w (ls.filter (Gk a p)):=fun l hl=>hcl l (LH.1 hl).1
 have hfl2:(Bg w.owner.length ls a p).length<=w.owner.length:=by
  have:=Qs (fun s=>ls.any (Yj a p s)) (Cn w.owner.length);rw[IA]at this;exact this
 refine zv ?_;(repeat clear U K);repeat intro K U
 rw[show IntKind.i64.wrap (3+((Ee w.parents).length:Nat))=((3+w.parents.length:Nat):Int) by rw[BU,wrap64 (by omega) (by omega)];omega];refine yM hs (by omega) fun v1 Z hs hv=>?_
 obtain⟨id1,rfl⟩:=hv;refine zv ?_;(repeat clear U K);repeat intro K U
 rw[show IntKind.i64.wrap (3+((Ee w.parents).length:Nat))=((3+w.parents.length:Nat):Int) by rw[BU,wrap64 (by omega) (by omega)];omega];refine yM hs (by omega) fun v2 Z hs hv=>?_
 obtain⟨id2,rfl⟩:=hv
 conv=>whnf
 repeat'((first|clear U K|apply st|(apply zk;intro K U)|refine zX ?_|refine Pure.use (eQ _ _ _ _ _ hokL hln) ?_|fail)<;>conv=>whnf)
 generalize hos:ls.filter (Gk a p)=os at *;have hV:KK w ls a p can=((Dy os (tO w)).bind (De w ls a p can (Bg w.owner.length ls a p))).bind (Us w):=by rw[KK,hos]
 refine B0 os.length (fun k (_:BB)=>[(34,eI (A8 k))]) (fun k t=>[.own (.sl id1 (3+w.parents.length) (3+w.parents.length)) 1 (bL t.1),.own (.sl id2 (3+w.parents.length) (3+w.parents.length)) 1 (bL t.2)]) (fun k t=>Dy (os.take k) (tO w)=some t/\t.1.length=3+w.parents.length/\t.2.length=3+w.parents.length) (tO w) rfl ⟨rfl,by simp[tO],by simp[tO]⟩ (by simpa[tO,bL]using hs) ?_;clear hs;rintro k ⟨B3,no⟩ Z hk ⟨hno,hl1,hl2⟩ hs;simp only at hl1 hl2;dsimp only at hs
 conv=>whnf
 repeat'((first|clear U K|apply st|(apply zk;intro K U)|refine zX ?_|refine zr fun Z hs=>?_|(refine fc (fun x hx hlt hc=>?_) (fun hk hc=>?_)<;>(try rw[hc])<;>clear hc)|refine Pure.use (HP _ (hok _ (B1 (by assumption)))) ?_|refine Pure.use (VX _ _ _ _ _ hokL (by omega)) ?_|refine za (fun hc=>?_) fun hc=>?_|refine zp fun nn hnn Z hs=>?_|fail)<;>conv=>whnf)
 all_goals try
  (have hcx:=hcl2 _ (B1 hx) (by assumption)
   conv=>whnf
   repeat'((first|clear U K|apply st|(apply zk;intro K U)|refine zX ?_|refine zr fun Z hs=>?_|fail)<;>conv=>whnf)
  )
 all_goals first
  | (refine AF ?_
     have:Dy os (tO w)=none:=YL (k+1) (by rw[IG hx,hno];simp[F7, *]);rw[hV,this]
     rfl)
  | exact⟨hlt,(B3,no),rfl,⟨by rw[IG hx,hno];simp[F7, *],hl1,hl2⟩,hs.take 2⟩
  | exact⟨hlt,(B3.set (Av x).1.cls.toNat true,no),rfl,⟨by rw[IG hx,hno];simp[F7, *],by simpa using hl1,hl2⟩,hs.take 2⟩
  | exact⟨hlt,(B3,no.set (Av x).1.cls.toNat true),rfl,⟨by rw[IG hx,hno];simp[F7, *],hl1,by simpa using hl2⟩,hs.take 2⟩
  | skip
 rw[Au (by assumption)]at hno;have hV2:KK w ls a p can=(De w ls a p can (Bg w.owner.length ls a p) (B3,no)).bind (Us w):=by rw[hV,hno];rfl
 clear hno;generalize hsl:Bg w.owner.length ls a p=sl at *;have hsi: ∀s∈sl,0<=s/\s<w.owner.length:=fun s h=>Jo (by rw[hsl];exact h)
 refine B0 sl.length (fun k (_:BB)=>[(73,eI (A8 k))]) (fun k t=>[.own (.sl id1 (3+w.parents.length) (3+w.parents.length)) 1 (bL t.1),.own (.sl id2 (3+w.parents.length) (3+w.parents.length)) 1 (bL t.2)]) (fun k t=>De w ls a p can (sl.take k) (B3,no)=some t/\t.1.length=3+w.parents.length/\t.2.length=3+w.parents.length) (B3,no) rfl ⟨rfl,hl1,hl2⟩ hs ?_;clear hs hl1 hl2;rintro k ⟨m1,n1⟩ Z hk ⟨hno,hl1,hl2⟩ hs;simp only at hl1 hl2;dsimp only at hs;rcases BC sl hk with⟨x,hx,hlt⟩|hke
 .have hxm:=B1 hx
  obtain⟨hx0,hx1⟩:=hsi x hxm
  have hox:w.owner[x.toNat]? =some (Cm w x):=by
   rw[Cm,DH,Cy (by omega)];rfl
  have ho:=hw.own _ (B1 hox);have hcx:=hcan x hxm;have hbx:=aB w ls a (p++[x]) c hokL;cases hB:D9 ls a (p++[x])<;>cases hC:can x<;>rw[hB]at hbx<;>rw[hC]at hcx
  .conv=>whnf
   repeat'((first|clear U K|apply st|(apply zk;intro K U)|refine zX ?_|refine rk ?_ ?_|exact fun s e=>by cases e;rfl|refine zr fun Z hs=>?_|refine Pure.use (JY _ _ _ _ _ _ (by omega)) ?_|refine Pure.use (by assumption) ?_|refine zp fun nn hnn Z hs=>?_|fail)<;>conv=>whnf)
   refine AF ?_;have:De w ls a p can sl (B3,no)=none:=YK (k+1) (by rw[IF hx,hno];simp[IS, *]);rw[hV2,this];rfl
  .conv=>whnf
   repeat'((first|clear U K|apply st|(apply zk;intro K U)|refine zX ?_|refine rk ?_ ?_|exact fun s e=>by cases e;rfl|refine zr fun Z hs=>?_|refine Pure.use (JY _ _ _ _ _ _ (by omega)) ?_|refine Pure.use (by assumption) ?_|refine zp fun nn hnn Z hs=>?_|fail)<;>conv=>whnf)
   exact⟨hlt,(m1.set (Cm w x).toNat true,n1),rfl,⟨by rw[IF hx,hno];simp[IS, *],by simpa using hl1,hl2⟩,hs.take 2⟩
  .conv=>whnf
   repeat'((first|clear U K|apply st|(apply zk;intro K U)|refine zX ?_|refine rk ?_ ?_|exact fun s e=>by cases e;rfl|refine zr fun Z hs=>?_|refine Pure.use (JY _ _ _ _ _ _ (by omega)) ?_|refine Pure.use (by assumption) ?_|refine zp fun nn hnn Z hs=>?_|fail)<;>conv=>whnf)
   exact⟨hlt,(m1,n1.set (Cm w x).toNat true),rfl,⟨by rw[IF hx,hno];simp[IS, *],hl1,by simpa using hl2⟩,hs.take 2⟩
  .conv=>whnf
   repeat'((first|clear U K|apply st|(apply zk;intro K U)|refine zX ?_|refine rk ?_ ?_|exact fun s e=>by cases e;rfl|refine zr fun Z hs=>?_|refine Pure.use (JY _ _ _ _ _ _ (by omega)) ?_|refine Pure.use (by assumption) ?_|refine zp fun nn hnn Z hs=>?_|fail)<;>conv=>whnf)
   exact⟨hlt,(m1,n1),rfl,⟨by rw[IF hx,hno];simp[IS, *],hl1,hl2⟩,hs.take 2⟩
 .rw [Au hke]at hno
  have hV3:KK w ls a p can=Us w (m1,n1):=by rw[hV2,hno];rfl
  have hrow: ∀l∈w.parents,l.length<=AY:=(TZ (g:=false) (by have:=hf.1;simp only[GY,Gy,DQ]at this;exact this.1)).2
  have hen:KK w ls a p can=if n1.getD 0 false then none else
   if(List.range (3+w.parents.length)).any (fun c=>(Bx w.parents (3+w.parents.length) w.parents.length (m1.set 0 false)).getD c false&&n1.getD c false)then none else some (Bx w.parents (3+w.parents.length) w.parents.length (m1.set 0 false)):=hV3.trans rfl
  clear hcan hcl hV hV2 hV3 hno hos hsl hcl2 hok;obtain⟨n0,hn0⟩: ∃b,n1[0]? =some b:=⟨_,Cy (by omega)⟩
  have hn0':n1[Int.toNat 0]? =some n0:=hn0;have hng:n1.getD 0 false=n0:=by rw[DH,hn0];rfl
  rw[hng]at hen;cases n0
  .generalize hms:m1.set 0 false=ms at *
   have hl3:ms.length=3+w.parents.length:=by rw[<-hms,List.length_set];exact hl1
   conv=>whnf
   repeat'((first|clear U K|apply st|(apply zk;intro K U)|refine zX ?_|refine zr fun Z hs=>?_|fail)<;>conv=>whnf)
   replace hs:Sat Z [.own (.sl id1 (3+w.parents.length) (3+w.parents.length)) 1 (bL ms),.own (.sl id2 (3+w.parents.length) (3+w.parents.length)) 1 (bL n1)]:=by rw[<-hms];exact hs
   rw[show IntKind.i64.wrap (((bL (m1.set (Int.toNat 0) false)).length:Nat) - 1)=((2+w.parents.length:Nat):Int) by rw[BU,List.length_set,hl1,wrap64 (by omega) (by omega)];omega];refine B0 w.parents.length (fun k (_:Unit)=>[(15,eI (OQ ((2+w.parents.length:Nat):Int) k))]) (fun k _=>[.own (.sl id1 (3+w.parents.length) (3+w.parents.length)) 1 (bL (Bx w.parents (3+w.parents.length) k ms)),.own (.sl id2 (3+w.parents.length) (3+w.parents.length)) 1 (bL n1)]) (fun k _=>True) () rfl trivial hs ?_;clear hs;rintro k - Z hk - hs;have hd:OQ ((2+w.parents.length:Nat):Int) k=((2+w.parents.length:Nat):Int) - k:=UC (by omega) (by omega);have hcl:=ES w.parents (3+w.parents.length) k ms;rcases Nat.lt_or_ge k w.parents.length with hlt|hge
   .have hpw:w.parents[(IntKind.i64.wrap (OQ ((2+w.parents.length:Nat):Int) k - 3)).toNat]? =some (par w.parents (3+w.parents.length - 1 - k)):=by
     rw[hd,wrap64 (by omega) (by omega),show(((2+w.parents.length:Nat):Int) - k - 3).toNat=(3+w.parents.length - 1 - k) - 3 by omega];exact fF (by omega) (by omega)
    have hwi:0<=IntKind.i64.wrap (OQ ((2+w.parents.length:Nat):Int) k - 3):=by rw[hd,wrap64 (by omega) (by omega)];omega
    have hpl:=hrow _ (B1 hpw);have hpr:=fun q=>hw.ord (3+w.parents.length - 1 - k) q
    generalize hpe:par w.parents (3+w.parents.length - 1 - k)=pr at *;generalize hce:Bx w.parents (3+w.parents.length) k ms=ce at *;have hcs:Bx w.parents (3+w.parents.length) (k+1) ms=if ce.getD (3+w.parents.length - 1 - k) false then pr.foldl (fun b q=>b.set q.toNat true) ce else ce:=by rw[Bx,Hj,hce,hpe]
    conv=>whnf
    repeat'((first|clear U K|apply st|(apply zk;intro K U)|refine zX ?_|refine ze fun x hx=>?_|(refine zb (fun hc=>?_) (fun hc=>?_)<;>try exact⟨⟩)|fail)<;>conv=>whnf)
    .rw[show(OQ ((2+w.parents.length:Nat):Int) k).toNat=3+w.parents.length - 1 - k by rw[hd];omega]at hx
     rw[DH,hx,hc]at hcs;simp only[Option.getD_some,if_true]at hcs;refine B0 pr.length (fun j (_:Unit)=>[(135,eI (A8 j))]) (fun j _=>[.own (.sl id1 (3+w.parents.length) (3+w.parents.length)) 1 (bL ((pr.take j).foldl (fun b q=>b.set q.toNat true) ce)),.own (.sl id2 (3+w.parents.length) (3+w.parents.length)) 1 (bL n1)]) (fun _ _=>True) () rfl trivial hs ?_;clear hs hx;rintro j - Z hj - hs;have hfl:=G4 (pr.take j) ce;rcases BC pr hj with⟨q,hq,hjlt⟩|hje
     .have hqr:=hpr q (B1 hq)
      conv=>whnf
      repeat'((first|clear U K|apply st|(apply zk;intro K U)|refine zX ?_|refine zr fun Z hs=>?_|fail)<;>conv=>whnf)
      exact⟨hjlt,(),rfl,trivial,by rw[AL hq,List.foldl_append];exact hs⟩
     .refine zv ?_;(repeat clear U K);repeat intro K U
      rw[Au hje]at hs;exact⟨hlt,(),rfl,trivial,by rw[hcs];exact hs⟩
    .rw[show(OQ ((2+w.parents.length:Nat):Int) k).toNat=3+w.parents.length - 1 - k by rw[hd];omega]at hx
     rw[DH,hx,hc]at hcs;simp only[Option.getD_some,LG,if_false]at hcs;exact⟨hlt,(),rfl,trivial,by rw[hcs];exact hs⟩
   .have hke2:k=w.parents.length:=by omega
    rw[hke2]at hs hcl;generalize hme:Bx w.parents (3+w.parents.length) w.parents.length ms=me at *
    conv=>whnf
    repeat'((first|clear U K|apply st|(apply zk;intro K U)|refine zX ?_|(refine zb (fun hc=>?_) (fun hc=>?_)<;>try exact⟨⟩)|fail)<;>conv=>whnf)
    refine B0 me.length (fun j (_:Unit)=>[(145,eI (A8 j))]) (fun _ _=>[.own (.sl id1 (3+w.parents.length) (3+w.parents.length)) 1 (bL me),.own (.sl id2 (3+w.parents.length) (3+w.parents.length)) 1 (bL n1)]) (fun j _=>KK w ls a p can=if((List.range (3+w.parents.length)).drop j).any (fun c=>me.getD c false&&n1.getD c false)then none else some me) () rfl hen hs ?_;clear hs hen;rintro j - Z hj hn hs;rcases BC me hj with⟨x,hx,hjlt⟩|hje
    .obtain⟨y,hy⟩: ∃y,n1[j]? =some y:=⟨_,Cy (by omega)⟩
     have hrg:(List.range (3+w.parents.length))[j]? =some j:=by rw[List.getElem?_range (by omega)]
     rw[drop_cons hrg,Q1,DH,DH,hx,hy]at hn;cases x<;>cases y<;>simp only[Option.getD_some,Bool.and_true,Bool.and_false,Bool.false_or,Bool.true_or,if_true]at hn
     .refine zv ?_;(repeat clear U K);repeat intro K U
      exact⟨hjlt,(),rfl,hn,hs⟩
     .refine zv ?_;(repeat clear U K);repeat intro K U
      exact⟨hjlt,(),rfl,hn,hs⟩
     .refine zv ?_;(repeat clear U K);repeat intro K U
      exact⟨hjlt,(),rfl,hn,hs⟩
     .refine zv ?_;(repeat clear U K);repeat intro K U
      exact AF (by rw[hn];rfl)
    .rw[List.drop_of_length_le (by rw[List.length_range];omega)]at hn
     simp only[List.any_nil,LG,if_false]at hn;refine zv ?_;(repeat clear U K);repeat intro K U
     rw[hn];exact Ap (.t (.cons (hs.GW 0 rfl) (.cons (.refl _) .nil)))
  .conv=>whnf
   repeat'((first|clear U K|apply st|(apply zk;intro K U)|refine zX ?_|refine zr fun Z hs=>?_|fail)<;>conv=>whnf)
   exact AF (by rw[hen];rfl)
def LQ (w:AI) (ls:List Fact) (a:Int):Nat->List Int->Bool
 | 0,p=>((It ls a p).isSome&&E9 w.owner.length ls a p)||(HI w.owner.length ls a p||(KK w ls a p fun _=>false).isSome)
 | d+1,p=>((It ls a p).isSome&&E9 w.owner.length ls a p)||(HI w.owner.length ls a p||(KK w ls a p fun s=>LQ w ls a d (p++[s])).isSome)
def TL (ls:List Fact) (n:Nat):Prop:= ∀l∈ls,(Av l).1.path.length<=n
def NJ {n m:Nat} {ls:List Fact} {a:Int} {p:List Int} (h:TL ls m) (hp:m<=p.length):Bg n ls a p= []:=by
 rw[Bg,List.filter_eq_nil_iff];intro s _ hs;rw[J0]at hs;obtain⟨l,hl,hg⟩:=hs;have:=h l hl;simp only[Yj,Bp,BD,CN,RQ,List.length_singleton]at hg;omega
def Zh {n:Nat} {ls:List Fact} {a:Int} {p:List Int}:au n ls a p= .t [eI ((It ls a p).getD 0),.b ((It ls a p).isSome&&E9 n ls a p)]:=by
 unfold au;cases It ls a p<;>rfl
def ZV (o:Option (List Bool)):wL o= .t [.l (bL (o.getD [])) o.isNone,.b o.isSome]:=by
 cases o<;>rfl
def vE (w:AI) (ls:List Fact) (a:Int) (hokL: ∀l∈ls,F8 l) (hln:ls.length<=1000000) (hw:UZ w) (hcl:VI w ls) (hsm:KW ls) (hsh:TL ls 2): ∀(d:Nat) (p:List Int),p.length+d=2->Pure zP 293 [.a (GY w ls a p false)] (.b (LQ w ls a d p)):=by
 intro d
 induction d with
 | zero=>
   intro p hp;have hI:=QV w ls a p false hokL hln (by omega) hsm;rw[Zh]at hI;have hN:=ZZ w ls a p false hokL hln (by omega);have hO:=SD w ls a p false (fun _=>false) hokL hln (by omega) hw hcl (by rw[NJ hsh (by omega)];intro s hs;cases hs);rw[ZV]at hO;refine fq kZ ?_;have hs:=Sn;rw[LQ];cases hA:(It ls a p).isSome&&E9 w.owner.length ls a p<;>cases hB:HI w.owner.length ls a p<;>rw[hA]at hI<;>rw[hB]at hN
   all_goals
    conv=>whnf
    repeat'((first|clear U K|apply st|(apply zk;intro K U)|refine zX ?_|refine hI.use ?_|refine hN.use ?_|refine hO.use ?_|fail)<;>conv=>whnf)
   all_goals exact AF (by simp)
 | succ d ih=>
   intro p hp;have hI:=QV w ls a p false hokL hln (by omega) hsm;rw[Zh]at hI;have hN:=ZZ w ls a p false hokL hln (by omega);have hO:=SD w ls a p false (fun s=>LQ w ls a d (p++[s])) hokL hln (by omega) hw hcl (fun s hs=>ih (p++[s]) (by simp;omega));rw[ZV]at hO;refine fq kZ ?_;have hs:=Sn;rw[LQ];cases hA:(It ls a p).isSome&&E9 w.owner.length ls a p<;>cases hB:HI w.owner.length ls a p<;>rw[hA]at hI<;>rw[hB]at hN
   all_goals
    conv=>whnf
    repeat'((first|clear U K|apply st|(apply zk;intro K U)|refine zX ?_|refine hI.use ?_|refine hN.use ?_|refine hO.use ?_|fail)<;>conv=>whnf)
   all_goals exact AF (by simp)
def Gn (w:AI) (ls:List Fact):Bool:=(Cn 3).all fun a=>LQ w ls a 2 []
def WQ (w:AI) (ls:List Fact) (hokL: ∀l∈ls,F8 l) (hln:ls.length<=1000000) (hw:UZ w) (hcl:VI w ls) (hsm:KW ls) (hsh:TL ls 2):Pure zP 257 [.a (A1 w),.l (facts ls) false] (.b (Gn w ls)):=by
 have hM:=Mx;refine tl kZ ?_;have hs:=Sn;refine zv ?_;(repeat clear U K);repeat intro K U
 refine B0 3 (fun k (_:Unit)=>[(5,eI (A8 k))]) (fun _ _=>[]) (fun k _=>Gn w ls=((Cn 3).drop k).all fun a=>LQ w ls a 2 []) () rfl rfl hs ?_;clear hs;rintro k - Z hk hn hs;have hck:A8 k=k:=AO (by omega);rcases Nat.lt_or_ge k 3 with hlt|hge
 .have hrk:(Cn 3)[k]? =some (A8 k):=by
   rw[hck];rcases k with _|_|_|k
   .rfl
   .rfl
   .rfl
   .omega
  rw[drop_cons hrk,LC]at hn
  conv=>whnf
  repeat'((first|clear U K|apply st|(apply zk;intro K U)|refine zX ?_|refine zr fun Z hs=>?_|refine Pure.an (vE w ls (A8 k) hokL hln hw hcl hsm hsh 2 [] rfl) (.cons (.a (.cons (.refl _) (.cons (.refl _) (.cons (.refl _) (.cons (.refl _) (.cons H2 (.cons (.refl _) .nil))))))) .nil) rfl ?_|(refine zb (fun hc=>?_) (fun hc=>?_)<;>try exact⟨⟩)|refine zp fun nn hnn Z hs=>?_|fail)<;>conv=>whnf)
  .exact AF (by rw[hn,hck,hc];rfl)
  .exact⟨hlt,(),rfl,by rw[hn,hck,hc];rfl,hs.take 0⟩
 .rw[List.drop_of_length_le (by rw[IA];omega)]at hn
  conv=>whnf
  repeat'((first|clear U K|apply st|(apply zk;intro K U)|refine zX ?_|(refine zb (fun hc=>?_) (fun hc=>?_)<;>try exact⟨⟩)|fail)<;>conv=>whnf)
  exact AF (by rw[hn];rfl)
def T6 {b:Nat} {Z:AE} {l:List At} (h:Sat Z l) (i j:Nat) {v u:V} {sz:Nat} {es ys:List (List V)} {K:V->AE->Prop} (hi:l[i]? =some (.own v sz es)) (hj:l[j]? =some (.own u sz ys)) (hl:es.length+ys.length<=AY/\(es.length+ys.length)*b<=140737488355328) (hys: ∀e∈ys,e.length=sz) (ho: ∀e∈ys,∀v∈e,CC v=true)
    (hk: ∀v' Z',Sat Z' (l.set i (.own v' sz (es++ys)))->K v' Z'):AJ b Z sz v u K:=by
 have hA:AJ b Z sz v (.l ys true) K:=hAppend h i hi hl hys ho hk;rcases h.get hj with⟨rfl,hel⟩|⟨n,cap,rfl,hn⟩
 .exact hA
 .unfold AJ at hA ⊢
  simp only[rowsOf]at hA ⊢;rw[hn];refine⟨rfl,Io _,?_⟩;rw[List.take_length];exact hA.2
def CL (a:List Fact):List Fact->List Fact
 | []=>a
 | x::r=>CL (if a.any (FW x)then a else a++[x]) r
def QT (a:List Fact): ∀(b:List Fact) (x:Fact),CL a (b++[x])=if(CL a b).any (FW x)then CL a b else CL a b++[x]:=by
 intro b
 induction b generalizing a with
 | nil=>intro x;rfl
 | cons y r ih=>intro x;simp only[List.cons_append,CL];exact ih _ x
def NV (a:List Fact): ∀(b:List Fact),(CL a b).length<=a.length+b.length:=by
 intro b
 induction b generalizing a with
 | nil=>simp[CL]
 | cons y r ih=>
   simp only[CL,LF];refine Nat.le_trans (ih _) ?_;split
   .omega
   .simp;omega
def SP (a:List Fact): ∀(b:List Fact) (x:Fact),x∈CL a b->x∈a\/x∈b:=by
 intro b
 induction b generalizing a with
 | nil=>intro x hx;exact .inl hx
 | cons y r ih=>
   intro x hx;simp only[CL]at hx;rcases ih _ x hx with h|h
   .split at h
    .exact .inl h
    .rcases E4.1 h with h|h
     .exact .inl h
     .rw[LD.1 h];exact .inr (.head _)
   .exact .inr (.tail _ h)
def bz (a b:List Fact) (f g:Bool) (hl:a.length+b.length<1000000):Pure zP 292 [.l (facts a) f,.l (facts b) g] (.l (facts (CL a b)) false):=by
 have hM:=Mx;refine tU kZ ?_;have hs:=Sn
 conv=>whnf
 repeat'((first|clear U K|apply st|(apply zk;intro K U)|fail)<;>conv=>whnf)
 replace hs:=El hs 6;refine F9 hs 0 (xs:=[]) (ys:=a) rfl (by simp;omega) Ke fun v Z hs=>?_
 refine zv ?_;(repeat clear U K);repeat intro K U
 refine B0 b.length (fun k v=>[(5,v),(15,eI (A8 k))]) (fun k v=>[.own v 6 (facts (CL a (b.take k)))]) (fun _ _=>True) v rfl trivial hs ?_;clear hs;rintro k v Z hk - hs;have hml:=NV a (b.take k);rw[Mf]at hml;rcases BC b hk with⟨x,hx,hlt⟩|hke
 .have hsn:=QT a (b.take k) x
  rw[<-AL hx]at hsn;generalize CL a (b.take k)=m at *
  conv=>whnf
  repeat'((first|clear U K|apply st|(apply zk;intro K U)|refine zX ?_|refine zr fun Z hs=>?_|refine zp fun nn hnn Z hs=>?_|fail)<;>conv=>whnf)
  refine B0 m.length (fun j t=>[(8,.b t),(21,eI (A8 j))]) (fun j t=>[.own v 6 (facts m),.obj nn (.cs (xF x))]) (fun j t=>t=(m.take j).any (FW x)) false rfl (by simp) hs ?_;clear hs;rintro j t Z hj ht hs;rcases BC m hj with⟨y,hy,hjlt⟩|hje
  .cases t
   .conv=>whnf
    repeat'((first|clear U K|apply st|(apply zk;intro K U)|refine zX ?_|refine zr fun Z hs=>?_|refine Pure.use (lD _ _) ?_|refine zp fun nn hnn Z hs=>?_|fail)<;>conv=>whnf)
    exact⟨hjlt,_,rfl,by rw[AL hy,List.any_append,<-ht];simp,hs.take 2⟩
   .conv=>whnf
    repeat'((first|clear U K|apply st|(apply zk;intro K U)|refine zX ?_|refine zr fun Z hs=>?_|refine zp fun nn hnn Z hs=>?_|fail)<;>conv=>whnf)
    exact⟨hjlt,true,rfl,by rw[AL hy,List.any_append,<-ht];simp,hs.take 2⟩
  .rw[Au hje]at ht
   subst ht
   conv=>whnf
   repeat'((first|clear U K|apply st|(apply zk;intro K U)|refine zX ?_|refine apF fun v Z hs hsl=>?_|refine za (fun hc=>?_) fun hc=>?_|fail)<;>conv=>whnf)
   .rw[hc]at hsn
    exact⟨hlt,_,rfl,trivial,by rw[hsn];exact hs.take 1⟩
   .rw[hc]at hsn
    exact⟨hlt,_,rfl,trivial,by rw[hsn];exact hs.take 1⟩
 .refine zv ?_;(repeat clear U K);repeat intro K U
  exact EC hs 0 rfl (by rw[Au hke])
end Go.Gl
