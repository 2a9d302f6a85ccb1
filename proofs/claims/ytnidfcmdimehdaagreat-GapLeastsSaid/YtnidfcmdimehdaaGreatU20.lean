import Derived.Test.YtnidfcmdimehdaaGreatU14
import Derived.Test.YtnidfcmdimehdaaGreatU19
set_option linter.all false
set_option linter.defProp false
set_option maxHeartbeats 8000000
noncomputable section
namespace Go.Gl
open Go.Proofs
attribute [local irreducible] As Af AV AQ AI AU AP AR AJ AT AM AN Ag Ar Sat AS Ap AX W
def Fq (a:Int) (p:List Int) (l:Fact):Bool:=(Ac l).1.arg==a&&(Ac l).1.path==p
def F2 {w:AE} {ls:List Fact} {a:Int} {p:List Int} {c:Bool} (h:Fb (.a (FI w ls a p c))):ls.length<=AZ/\p.length<=AZ/\w.owner.length<=AZ/\w.parents.length<=AZ:=by
 simp only[FI,Hk,Dg,Hj,Bh]at h;exact⟨h.2.2.1.1,h.2.2.2.2.1.1,h.2.1.1,h.1.1⟩
def ZQ (w:AE) (ls:List Fact) (a:Int) (p:List Int) (c:Bool) (hok: ∀l∈ls,E0 l) (hln:ls.length<=1000000):Pure zP 318 [.a (FI w ls a p c)] (.l (facts (ls.filter (Fq a p))) false):=by
 refine Pure.fit (by kernel_rfl) fun hf=>?_
 have⟨h1,h2,h3,h4⟩:=F2 hf.1;have hM:=Mx;refine tL kZ ?_;have hs:=Sn;refine zv ?_;(repeat clear U K);repeat intro K U
 refine Ba ls.length (fun k v=>[(3,v),(11,eI (Au k))]) (fun k v=>[.own v 6 (facts ((ls.take k).filter (Fq a p)))]) (fun _ _=>True) (.l [] true) rfl trivial (Ce hs 6) ?_;clear hs;rintro k v Z hk - hs;have hfl:=NI (Fq a p) (ls.take k)
 conv=>whnf
 repeat'((first|clear U K|apply st|(apply zk;intro K U)|refine zX ?_|refine zr fun Z hs=>?_|refine oz fun v Z hs hsl=>?_|(refine fc (fun x hx hlt hc=>?_) (fun hk hc=>?_)<;>(try rw[hc])<;>clear hc)|refine Pure.use (Gk _ (hok _ (BY (by assumption)))) ?_|refine Pure.use (Ep _ _ _ _) ?_|refine za (fun hc=>?_) fun hc=>?_|refine zp fun nn hnn Z hs=>?_|fail)<;>conv=>whnf)
 .exact⟨hlt,_,rfl,trivial,by rw[AO hx,List.filter_append];simpa[Fq, *]using hs.take 1⟩
 .exact⟨hlt,_,rfl,trivial,by rw[AO hx,List.filter_append];simpa[Fq, *]using hs.take 1⟩
 .exact⟨hlt,_,rfl,trivial,by rw[AO hx,List.filter_append];simpa[Fq, *]using hs.take 1⟩
 .exact Ee hs 0 rfl (by rw[Ak hk])
def DB (ls:List Fact) (a:Int) (p:List Int):Bool:=ls.all fun l=>(Ac l).2|| !((Ac l).1.arg==a&&BV (Ac l).1.path p)
def Ur (w:AE) (ls:List Fact) (a:Int) (p:List Int) (c:Bool) (hok: ∀l∈ls,E0 l):Pure zP 323 [.a (FI w ls a p c)] (.b (DB ls a p)):=by
 refine Pure.fit (by kernel_rfl) fun hf=>?_
 have⟨h1,h2,h3,h4⟩:=F2 hf.1;have hM:=Mx;refine tG kZ ?_;have hs:=Sn;refine zv ?_;(repeat clear U K);repeat intro K U
 refine Ba ls.length (fun k (_:Unit)=>[(10,eI (Au k))]) (fun k _=>[]) (fun k _=>DB ls a p=(ls.drop k).all fun l=>(Ac l).2|| !((Ac l).1.arg==a&&BV (Ac l).1.path p)) () rfl rfl hs ?_;clear hs;rintro k - Z hk hn hs
 conv=>whnf
 repeat'((first|clear U K|apply st|(apply zk;intro K U)|refine zX ?_|refine zr fun Z hs=>?_|(refine fc (fun x hx hlt hc=>?_) (fun hk hc=>?_)<;>(try rw[hc])<;>clear hc)|refine Pure.use (Gk _ (hok _ (BY (by assumption)))) ?_|refine Pure.use (TO _ _ _ _) ?_|refine za (fun hc=>?_) fun hc=>?_|refine zp fun nn hnn Z hs=>?_|fail)<;>conv=>whnf)
 .exact AF (by rw[hn,drop_cons hx,Jd];simp[*])
 .exact⟨hlt,(),rfl,by rw[hn,drop_cons hx,Jd];simp[*],hs.take 0⟩
 .exact⟨hlt,(),rfl,by rw[hn,drop_cons hx,Jd];simp[*],hs.take 0⟩
 .exact⟨hlt,(),rfl,by rw[hn,drop_cons hx,Jd];simp[*],hs.take 0⟩
 .exact AF (by rw[hn,Ad hk];rfl)
def BE (n:Nat):List Int:=(List.range n).map Int.ofNat
def J8 (n:Nat):BE (n+1)=BE n++[(n:Int)]:=by simp[BE,List.range_succ]
def Cj (n:Nat):(BE n).length=n:=by simp[BE]
def Xo (a:Int) (p:List Int) (s:Int) (l:Fact):Bool:=(Ac l).1.arg==a&&BV (Ac l).1.path (p++[s])
def BM (n:Nat) (ls:List Fact) (a:Int) (p:List Int):List Int:=(BE n).filter fun s=>ls.any (Xo a p s)
def QD (w:AE) (ls:List Fact) (a:Int) (p:List Int) (c:Bool) (hok: ∀l∈ls,E0 l) (hp:p.length<100) :
    Pure zP 321 [.a (FI w ls a p c)] (.l (iL (BM w.owner.length ls a p)) false):=by
 refine Pure.fit (by kernel_rfl) fun hf=>?_
 have⟨h1,h2,h3,h4⟩:=F2 hf.1;have hM:=Mx;refine tI kZ ?_;have hs:=Sn;refine zv ?_;(repeat clear U K);repeat intro K U
 refine Ba w.owner.length (fun k v=>[(3,v),(14,eI (Au k))]) (fun k v=>[.own v 1 (iL (BM k ls a p))]) (fun _ _=>True) (.l [] true) rfl trivial (Ce hs 1) ?_;clear hs;rintro k v Z hk - hs;have hck:Au k=k:=AW (by omega);have hfl:=NI (fun s=>ls.any (Xo a p s)) (BE k);rw[Cj]at hfl;have hfl2:(BM k ls a p).length<=k:=hfl
 conv=>whnf
 repeat'((first|clear U K|apply st|(apply zk;intro K U)|refine zX ?_|(refine fc (fun x hx hlt hc=>?_) (fun hk hc=>?_)<;>(try rw[hc])<;>clear hc)|fail)<;>conv=>whnf)
 .refine Ba ls.length (fun j b=>[(5,.b b),(20,eI (Au j))]) (fun j _=>[.own v 1 (iL (BM k ls a p))]) (fun j b=>b=(ls.take j).any (Xo a p (Au k))) false rfl (by simp) hs ?_
  clear hs;rintro j b Z hj hb hs;subst hb
  conv=>whnf
  repeat'((first|clear U K|apply st|(apply zk;intro K U)|refine zX ?_|refine rk ?_ ?_|exact fun s e=>by cases e;rfl|refine zr fun Z hs=>?_|refine aq fun v Z hs hsl=>?_|(refine fc (fun x hx hlt hc=>?_) (fun hk hc=>?_)<;>(try rw[hc])<;>clear hc)|refine Pure.use (Gk _ (hok _ (BY (by assumption)))) ?_|refine Pure.use (TO _ _ _ _) ?_|refine Pure.use (Io _ _ _ _ _ _ (by omega)) ?_|(refine zd (fun hc=>?_) (fun hc=>?_)<;>try exact⟨⟩)|refine zp fun nn hnn Z hs=>?_|fail)<;>conv=>whnf)
  .exact⟨hlt,_,rfl,by rw[AO hx,List.any_append];simp[Xo, *],hs.take 1⟩
  .exact⟨hlt,_,rfl,by rw[AO hx,List.any_append];simp[Xo, *],hs.take 1⟩
  .exact⟨hlt,true,rfl,by rw[AO hx,List.any_append];simp[*],hs.take 1⟩
  .refine⟨by assumption,_,rfl,trivial,?_⟩
   rw[Ak hk]at hc;rw[BM,J8,List.filter_append];simp only[BM]at hs;simpa[hc,hck]using hs
  .refine⟨by assumption,_,rfl,trivial,?_⟩
   rw[Ak hk]at hc;rw[BM,J8,List.filter_append];simp only[BM]at hs;simpa[hc,hck]using hs
 .exact Ee hs 0 rfl (by rw[hk])
def DX (n:Nat) (ls:List Fact) (a:Int) (p:List Int):Bool:=(BM n ls a p).all fun s=>DB ls a (p++[s])
def an (w:AE) (ls:List Fact) (a:Int) (p:List Int) (c:Bool) (hok: ∀l∈ls,E0 l) (hp:p.length<50):Pure zP 320 [.a (FI w ls a p c)] (.b (DX w.owner.length ls a p)):=by
 refine Pure.fit (by kernel_rfl) fun hf=>?_
 have⟨h1,h2,h3,h4⟩:=F2 hf.1;have hM:=Mx;refine tJ kZ ?_;have hs:=Sn;have hfl:=NI (fun s=>ls.any (Xo a p s)) (BE w.owner.length);rw[Cj]at hfl;have hfl2:(BM w.owner.length ls a p).length<=w.owner.length:=hfl
 conv=>whnf
 repeat'((first|clear U K|apply st|(apply zk;intro K U)|refine zX ?_|refine Pure.use (QD _ _ _ _ _ hok (by omega)) ?_|fail)<;>conv=>whnf)
 refine Ba (BM w.owner.length ls a p).length (fun k (_:Unit)=>[(8,eI (Au k))]) (fun k _=>[]) (fun k _=>DX w.owner.length ls a p=((BM w.owner.length ls a p).drop k).all fun s=>DB ls a (p++[s])) () rfl rfl hs ?_;clear hs;rintro k - Z hk hn hs
 conv=>whnf
 repeat'((first|clear U K|apply st|(apply zk;intro K U)|refine zX ?_|(refine fc (fun x hx hlt hc=>?_) (fun hk hc=>?_)<;>(try rw[hc])<;>clear hc)|refine Pure.use (Io _ _ _ _ _ _ (by omega)) ?_|refine Pure.use (Ur _ _ _ _ _ hok) ?_|refine za (fun hc=>?_) fun hc=>?_|fail)<;>conv=>whnf)
 .exact AF (by rw[hn,drop_cons hx,Jd];simp[*])
 .exact⟨hlt,(),rfl,by rw[hn,drop_cons hx,Jd];simp[*],hs⟩
 .exact AF (by rw[hn,Ad hk];rfl)
def HZ (ls:List Fact):Prop:= ∀l∈ls,-1000000000<=(Ac l).1.n/\(Ac l).1.n<=1000000000
def H0 (x:Fact×Bool) (t:Int×Int×List Int):Option (Int×Int×List Int):=
 if x.1.op=2 then if decide (x.1.cls > 1) != x.2 then none else some t
 else if x.1.op=3 then(if x.2 then some (if x.1.n > t.1 then x.1.n else t.1,t.2.1,t.2.2)else some (t.1,if x.1.n - 1<t.2.1 then x.1.n - 1 else t.2.1,t.2.2))
 else if x.2 then some (t.1,t.2.1,t.2.2++[x.1.n])else some (if x.1.n > t.1 then x.1.n else t.1,if x.1.n<t.2.1 then x.1.n else t.2.1,t.2.2)
def foldI:List Fact->Int×Int×List Int->Option (Int×Int×List Int)
 | [],t=>some t
 | x::r,t=>(H0 (Ac x) t).bind (foldI r)
def N4: ∀(xs ys:List Fact) (t:Int×Int×List Int),foldI (xs++ys) t=(foldI xs t).bind (foldI ys)
 | [],_,_=>rfl
 | x::r,ys,t=>by
   simp only[List.cons_append,foldI];cases H0 (Ac x) t with
   | none=>rfl
   | some u=>exact N4 r ys u
def Gv {os:List Fact} {k:Nat} {x:Fact} (hx:os[k]? =some x) (t:Int×Int×List Int):foldI (os.take (k+1)) t=(foldI (os.take k) t).bind (H0 (Ac x)):=by
 rw[AO hx,N4];congr 1;funext u;simp only[foldI];cases H0 (Ac x) u<;>rfl
def Y2 {os:List Fact} (k:Nat) {t:Int×Int×List Int} (h:foldI (os.take k) t=none):foldI os t=none:=by
 rw[<-List.take_append_drop k os,N4,h];rfl
def Tk (no:List Int):Nat->Int->Option Int
 | 0,_=>none
 | k+1,n=>if no.all (· != n)then some n else Tk no k (n+1)
def Pm (t:Int×Int×List Int):Option Int:=Tk t.2.2 (t.2.1+1 - t.1).toNat t.1
def t0:Int×Int×List Int:=(-1000000000,1000000000,[])
def F9 (ls:List Fact) (a:Int) (p:List Int):Option Int:=(foldI (ls.filter (Fq a p)) t0).bind Pm
def bf (n:Nat) (ls:List Fact) (a:Int) (p:List Int):V:=match F9 ls a p with
 | some x=> .t [eI x,.b (DX n ls a p)]
 | none=> .t [eI 0,.b false]
def I2 (w : AE) (ls:List Fact) (a:Int) (p:List Int) (c:Bool) (hokL: ∀l∈ls,E0 l) (hln:ls.length<=1000000) (hp:p.length<50) (hsm:HZ ls):Pure zP 305 [.a (FI w ls a p c)] (bf w.owner.length ls a p):=by
 refine Pure.fit (by kernel_rfl) fun hf=>?_
 have⟨h1,h2,h3,h4⟩:=F2 hf.1;have hM:=Mx;refine tU kZ ?_;have hs:=Sn;have hfl:=NI (Fq a p) ls;have hok2: ∀l∈ls.filter (Fq a p),E0 l:=fun l hl=>hokL l ((Ia.1 hl).1)
 have hsm2:HZ (ls.filter (Fq a p)):=fun l hl=>hsm l ((Ia.1 hl).1)
 conv=>whnf
 repeat'((first|clear U K|apply st|(apply zk;intro K U)|refine zX ?_|refine Pure.use (ZQ _ _ _ _ _ hokL hln) ?_|fail)<;>conv=>whnf)
 generalize hos:ls.filter (Fq a p)=os at *;have hV:F9 ls a p=(foldI os t0).bind Pm:=by rw[F9,hos]
 refine Ba os.length (fun k (x:Int×Int×List Int×V)=>[(4,eI x.1),(5,eI x.2.1),(6,x.2.2.2),(18,eI (Au k))]) (fun k x=>[.own x.2.2.2 1 (iL x.2.2.1)]) (fun k x=>foldI (os.take k) t0=some (x.1,x.2.1,x.2.2.1)/\ -1000000000<=x.1/\x.1<=1000000000/\ -1000000001<=x.2.1/\x.2.1<=1000000000/\x.2.2.1.length<=k) (-1000000000,1000000000,[],.l [] true) rfl ⟨rfl,by simp⟩ (Ce hs 1) ?_;clear hs;rintro k ⟨low,high,no,v⟩ Z hk ⟨hno,hb1,hb2,hb3,hb4,hb5⟩ hs;simp only at hb1 hb2 hb3 hb4 hb5 hno;have hok:=hok2
 conv=>whnf
 repeat'((first|clear U K|apply st|(apply zk;intro K U)|refine zX ?_|refine zr fun Z hs=>?_|refine aq fun v Z hs hsl=>?_|(refine fc (fun x hx hlt hc=>?_) (fun hk hc=>?_)<;>(try rw[hc])<;>clear hc)|refine Pure.use (Gk _ (hok _ (BY (by assumption)))) ?_|(refine zb (fun hc=>?_) (fun hc=>?_)<;>try exact⟨⟩)|refine zp fun nn hnn Z hs=>?_|fail)<;>conv=>whnf)
 all_goals first
  | (have hb:=hsm2 _ (BY hx)
     first
      | (refine⟨hlt,(_,_,_,_),rfl,⟨?_,?_⟩,hs.take 1⟩
         .rw[Gv hx,hno]
          have hw:IntKind.i64.wrap ((Ac ‹Fact›).1.n - 1)=(Ac ‹Fact›).1.n - 1:=wrap64 (by omega) (by omega);simp[H0, *]
          done
         .have hw:IntKind.i64.wrap ((Ac ‹Fact›).1.n - 1)=(Ac ‹Fact›).1.n - 1:=wrap64 (by omega) (by omega)
          simp only[Kt,List.length_singleton,hw]
          refine⟨?_,?_,?_,?_,?_⟩<;>(try split)<;>omega)
      | (refine AF ?_
         have:foldI os t0=none:=Y2 (k+1) (by rw[Gv hx,hno];simp[H0, *]);rw[this]at hV;simp only[bf,hV]
         rfl))
  | skip
 .have hb:=hsm2 _ (BY hx)
  refine⟨hlt,(if(Ac x).1.n > low then(Ac x).1.n else low,high,no,v),rfl,⟨?_,?_⟩,hs.take 1⟩
  .rw[Gv hx,hno]
   simp[H0, *]
  .dsimp only
   refine⟨?_,?_,?_,?_,?_⟩<;>(try split)<;>omega
 .have hb:=hsm2 _ (BY hx)
  have hw:IntKind.i64.wrap ((Ac x).1.n - 1)=(Ac x).1.n - 1:=wrap64 (by omega) (by omega);rw[hw];refine⟨hlt,(low,if(Ac x).1.n - 1<high then(Ac x).1.n - 1 else high,no,v),rfl,⟨?_,?_⟩,hs.take 1⟩
  .rw[Gv hx,hno]
   simp[H0, *]
  .dsimp only
   refine⟨?_,?_,?_,?_,?_⟩<;>(try split)<;>omega
 .have hb:=hsm2 _ (BY hx)
  refine⟨hlt,(if(Ac x).1.n > low then(Ac x).1.n else low,if(Ac x).1.n<high then(Ac x).1.n else high,no,v),rfl,⟨?_,?_⟩,hs.take 1⟩
  .rw[Gv hx,hno]
   simp[H0, *]
  .dsimp only
   refine⟨?_,?_,?_,?_,?_⟩<;>(try split)<;>omega
 rw[Ak (by assumption)]at hno;have hV2:F9 ls a p=Pm (low,high,no):=by rw[hV,hno];rfl
 dsimp only;refine DD (fun n:Int=>(high+1 - n).toNat) (fun n=>[(11,eI n)]) (fun _=>[.own v 1 (iL no)]) (fun n=>low<=n/\n<=1000000001/\F9 ls a p=Tk no (high+1 - n).toNat n) low rfl ⟨by omega,by omega,hV2⟩ hs ?_;clear hs;rintro n Z ⟨hn1,hn2,hn⟩ hs;have hnl:no.length<=AZ:=by omega
 conv=>whnf
 repeat'((first|clear U K|apply st|(apply zk;intro K U)|refine zX ?_|refine za (fun hc=>?_) fun hc=>?_|fail)<;>conv=>whnf)
 .refine Ba no.length (fun j b=>[(12,.b b),(80,eI (Au j))]) (fun j _=>[.own v 1 (iL no)]) (fun j b=>b=(no.take j).all (· != n)) true rfl (by simp) hs ?_
  clear hs;rintro j b Z hj hb hs;subst hb
  conv=>whnf
  repeat'((first|clear U K|apply st|(apply zk;intro K U)|refine zX ?_|(refine fc (fun x hx hlt hc=>?_) (fun hk hc=>?_)<;>(try rw[hc])<;>clear hc)|refine Pure.use (an _ _ _ _ _ hokL (by omega)) ?_|refine za (fun hc=>?_) fun hc=>?_|fail)<;>conv=>whnf)
  .exact⟨hlt,_,rfl,by rw[AO hx,List.all_append,hc];simp,hs⟩
  .exact⟨hlt,false,rfl,by rw[AO hx,List.all_append,hc];simp,hs⟩
  .refine AF ?_
   rw[Ak hk]at hc;rw[show(high+1 - n).toNat=(high - n).toNat+1 by omega,Tk,if_pos hc]at hn;simp only[bf,hn]
  .rw[Ak hk]at hc
   rw[show(high+1 - n).toNat=(high+1 - (n+1)).toNat+1 by omega,Tk,if_neg (by simp[hc])]at hn;rw[wrap64 (by omega) (by omega)];exact⟨n+1,by omega,rfl,⟨by omega,by omega,hn⟩,hs⟩
 .refine AF ?_
  have:(high+1 - n).toNat=0:=by omega
  rw[this,Tk]at hn;simp only[bf,hn]
def JD (x:Fact×Bool):Bool:=((x.1.op==2&&(x.1.cls==0||x.1.cls==2))==x.2)
def Ey (n:Nat) (ls:List Fact) (a:Int) (p:List Int):Bool:=(ls.filter (Fq a p)).all (fun l=> !JD (Ac l))&&DX n ls a p
def PD (w:AE) (ls:List Fact) (a:Int) (p:List Int) (c:Bool) (hokL: ∀l∈ls,E0 l) (hln:ls.length<=1000000) (hp:p.length<50):Pure zP 306 [.a (FI w ls a p c)] (.b (Ey w.owner.length ls a p)):=by
 refine Pure.fit (by kernel_rfl) fun hf=>?_
 have⟨h1,h2,h3,h4⟩:=F2 hf.1;have hM:=Mx;refine tT kZ ?_;have hs:=Sn;have hfl:=NI (Fq a p) ls;have hok: ∀l∈ls.filter (Fq a p),E0 l:=fun l hl=>hokL l (Ia.1 hl).1
 conv=>whnf
 repeat'((first|clear U K|apply st|(apply zk;intro K U)|refine zX ?_|refine Pure.use (ZQ _ _ _ _ _ hokL hln) ?_|fail)<;>conv=>whnf)
 generalize hos:ls.filter (Fq a p)=os at *;have hV:Ey w.owner.length ls a p=(os.all (fun l=> !JD (Ac l))&&DX w.owner.length ls a p):=by rw[Ey,hos]
 refine Ba os.length (fun k (_:Unit)=>[(11,eI (Au k))]) (fun k _=>[]) (fun k _=>Ey w.owner.length ls a p=((os.drop k).all (fun l=> !JD (Ac l))&&DX w.owner.length ls a p)) () rfl hV hs ?_;clear hs;rintro k - Z hk hn hs
 conv=>whnf
 repeat'((first|clear U K|apply st|(apply zk;intro K U)|refine zX ?_|refine zr fun Z hs=>?_|(refine fc (fun x hx hlt hc=>?_) (fun hk hc=>?_)<;>(try rw[hc])<;>clear hc)|refine Pure.use (Gk _ (hok _ (BY (by assumption)))) ?_|refine Pure.use (an _ _ _ _ _ hokL (by omega)) ?_|refine za (fun hc=>?_) fun hc=>?_|refine zp fun nn hnn Z hs=>?_|fail)<;>conv=>whnf)
 all_goals first
  | (have hst:JD (Ac x)=true:=by clear hV hn;cases hz:(Ac x).2<;>cases hy:((Ac x).1.cls==2)<;>simp_all [JD]
     exact AF (by rw[hn,drop_cons hx,Jd,hst];simp))
  | (have hst:JD (Ac x)=false:=by clear hV hn;cases hz:(Ac x).2<;>cases hy:((Ac x).1.cls==2)<;>simp_all [JD]
     exact⟨hlt,(),rfl,by rw[hn,drop_cons hx,Jd,hst];simp,hs.take 0⟩)
  | exact AF (by rw[hn,Ad (by assumption)];simp)
abbrev BB:=List Bool×List Bool
def Ga (x:Fact×Bool) (t:BB):Option BB:=
 if x.1.op≠2\/x.1.cls=1\/x.1.cls=2 then(if x.2 then some t else none)else
 if x.2 then some (t.1,t.2.set x.1.cls.toNat true)else some (t.1.set x.1.cls.toNat true,t.2)
def EI:List Fact->BB->Option BB
 | [],t=>some t
 | x::r,t=>(Ga (Ac x) t).bind (EI r)
def JC (w:AE) (ls:List Fact) (a:Int) (p:List Int) (can:Int->Bool) (s:Int) (t:BB):Option BB:=
 if !DB ls a (p++[s])&& !can s then none else some (if DB ls a (p++[s])then t.1 else t.1.set (Bb w s).toNat true,if can s then t.2 else t.2.set (Bb w s).toNat true)
def D0 (w:AE) (ls:List Fact) (a:Int) (p:List Int) (can:Int->Bool):List Int->BB->Option BB
 | [],t=>some t
 | s::r,t=>(JC w ls a p can s t).bind (D0 w ls a p can r)
def IX (ps:List (List Int)) (c:Nat) (bs:List Bool):List Bool:=if bs.getD c false then(par ps c).foldl (fun b q=>b.set q.toNat true) bs else bs
def B4 (ps:List (List Int)) (n:Nat):Nat->List Bool->List Bool
 | 0,bs=>bs
 | k+1,bs=>IX ps (n - 1 - k) (B4 ps n k bs)
def Hm: ∀(l:List Int) (bs:List Bool),(l.foldl (fun b q=>b.set q.toNat true) bs).length=bs.length
 | [],_=>rfl
 | q::r,bs=>by rw[List.foldl_cons,Hm r,List.length_set]
def Ev (ps:List (List Int)) (n:Nat): ∀(k:Nat) (bs:List Bool),(B4 ps n k bs).length=bs.length
 | 0,_=>rfl
 | k+1,bs=>by
   rw[B4,IX];split
   .rw[Hm,Ev ps n k bs]
   .exact Ev ps n k bs
def VM (w:AE) (t:BB):Option (List Bool):=
 if t.2.getD 0 false then none else
 if(List.range (3+w.parents.length)).any (fun c=>(B4 w.parents (3+w.parents.length) w.parents.length (t.1.set 0 false)).getD c false&&t.2.getD c false)then none else some (B4 w.parents (3+w.parents.length) w.parents.length (t.1.set 0 false))
def tO (w:AE):BB:=(List.replicate (3+w.parents.length) false,List.replicate (3+w.parents.length) false)
def LL (w:AE) (ls:List Fact) (a:Int) (p:List Int) (can:Int->Bool):Option (List Bool):=
 ((EI (ls.filter (Fq a p)) (tO w)).bind (D0 w ls a p can (BM w.owner.length ls a p))).bind (VM w)
def xv (o:Option (List Bool)):V:=match o with
 | some m=> .t [.l (bL m) false,.b true]
 | none=> .t [.l [] true,.b false]
def N3: ∀(xs ys:List Fact) (t:BB),EI (xs++ys) t=(EI xs t).bind (EI ys)
 | [],_,_=>rfl
 | x::r,ys,t=>by
   simp only[List.cons_append,EI];cases Ga (Ac x) t with
   | none=>rfl
   | some u=>exact N3 r ys u
def I5 {os:List Fact} {k:Nat} {x:Fact} (hx:os[k]? =some x) (t:BB):EI (os.take (k+1)) t=(EI (os.take k) t).bind (Ga (Ac x)):=by
 rw[AO hx,N3];congr 1;funext u;simp only[EI];cases Ga (Ac x) u<;>rfl
def Y1 {os:List Fact} (k:Nat) {t:BB} (h:EI (os.take k) t=none):EI os t=none:=by
 rw[<-List.take_append_drop k os,N3,h];rfl
def N2 {w:AE} {ls:List Fact} {a:Int} {p:List Int} {can:Int->Bool}: ∀(xs ys:List Int) (t:BB),D0 w ls a p can (xs++ys) t=(D0 w ls a p can xs t).bind (D0 w ls a p can ys)
 | [],_,_=>rfl
 | x::r,ys,t=>by
   simp only[List.cons_append,D0];cases JC w ls a p can x t with
   | none=>rfl
   | some u=>exact N2 r ys u
def I4 {w:AE} {ls:List Fact} {a:Int} {p:List Int} {can:Int->Bool} {os:List Int} {k:Nat} {x:Int} (hx:os[k]? =some x) (t:BB):D0 w ls a p can (os.take (k+1)) t=(D0 w ls a p can (os.take k) t).bind (JC w ls a p can x):=by
 rw[AO hx,N2];congr 1;funext u;simp only[D0];cases JC w ls a p can x u<;>rfl
def Y0 {w:AE} {ls:List Fact} {a:Int} {p:List Int} {can:Int->Bool} {os:List Int} (k:Nat) {t:BB} (h:D0 w ls a p can (os.take k) t=none):D0 w ls a p can os t=none:=by
 rw[<-List.take_append_drop k os,N2,h];rfl
def Fi {n:Nat} {ls:List Fact} {a:Int} {p:List Int} {s:Int} (h:s∈BM n ls a p):0<=s/\s<n:=by
 have:=(Ia.1 h).1;simp only[BE,GL,List.mem_range]at this;obtain⟨m,hm,rfl⟩:=this;exact⟨Int.natCast_nonneg m,by simpa using hm⟩
def MC (w:AE) (ls:List Fact):Prop:= ∀l∈ls,(Ac l).1.op=2->0<=(Ac l).1.cls/\(Ac l).1.cls<3+w.parents.length
def Sv (w : AE) (ls:List Fact) (a:Int) (p:List Int) (c:Bool) (can:Int->Bool) (hokL: ∀l∈ls,E0 l) (hln:ls.length<=1000000) (hp:p.length<50) (hw:Ig w) (hcl:MC w ls) (hcan: ∀s∈BM w.owner.length ls a p,Pure zP 304 [.a (FI w ls a (p++[s]) c)] (.b (can s))) :
    Pure zP 317 [.a (FI w ls a p c)] (xv (LL w ls a p can)):=by
 refine Pure.fit (by kernel_rfl) fun hf=>?_
 have⟨h1,h2,h3,h4⟩:=F2 hf.1;have hM:=Mx;have hwl:=hw.len;have hwo:=hw.olen;refine tM kZ ?_;have hs:=Sn;have hfl:=NI (Fq a p) ls;have hok: ∀l∈ls.filter (Fq a p),E0 l:=fun l hl=>hokL l (Ia.1 hl).1
 have hcl2:MC w (ls.filter (Fq a p)):=fun l hl=>hcl l (Ia.1 hl).1
 have hfl2:(BM w.owner.length ls a p).length<=w.owner.length:=by
  have:=NI (fun s=>ls.any (Xo a p s)) (BE w.owner.length);rw[Cj]at this;exact this
 refine zv ?_;(repeat clear U K);repeat intro K U
 rw[show IntKind.i64.wrap (3+((EF w.parents).length:Nat))=((3+w.parents.length:Nat):Int) by rw[Bh,wrap64 (by omega) (by omega)];omega];refine hMk hs (by omega) fun v1 Z hs hv=>?_
 obtain⟨id1,rfl⟩:=hv;refine zv ?_;(repeat clear U K);repeat intro K U
 rw[show IntKind.i64.wrap (3+((EF w.parents).length:Nat))=((3+w.parents.length:Nat):Int) by rw[Bh,wrap64 (by omega) (by omega)];omega];refine hMk hs (by omega) fun v2 Z hs hv=>?_
 obtain⟨id2,rfl⟩:=hv
 conv=>whnf
 repeat'((first|clear U K|apply st|(apply zk;intro K U)|refine zX ?_|refine Pure.use (ZQ _ _ _ _ _ hokL hln) ?_|fail)<;>conv=>whnf)
 generalize hos:ls.filter (Fq a p)=os at *;have hV:LL w ls a p can=((EI os (tO w)).bind (D0 w ls a p can (BM w.owner.length ls a p))).bind (VM w):=by rw[LL,hos]
 refine Ba os.length (fun k (_:BB)=>[(34,eI (Au k))]) (fun k t=>[.own (.sl id1 (3+w.parents.length) (3+w.parents.length)) 1 (bL t.1),.own (.sl id2 (3+w.parents.length) (3+w.parents.length)) 1 (bL t.2)]) (fun k t=>EI (os.take k) (tO w)=some t/\t.1.length=3+w.parents.length/\t.2.length=3+w.parents.length) (tO w) rfl ⟨rfl,by simp[tO],by simp[tO]⟩ (by simpa[tO,bL]using hs) ?_;clear hs;rintro k ⟨BJ,no⟩ Z hk ⟨hno,hl1,hl2⟩ hs;simp only at hl1 hl2;dsimp only at hs
 conv=>whnf
 repeat'((first|clear U K|apply st|(apply zk;intro K U)|refine zX ?_|refine zr fun Z hs=>?_|(refine fc (fun x hx hlt hc=>?_) (fun hk hc=>?_)<;>(try rw[hc])<;>clear hc)|refine Pure.use (Gk _ (hok _ (BY (by assumption)))) ?_|refine Pure.use (QD _ _ _ _ _ hokL (by omega)) ?_|refine za (fun hc=>?_) fun hc=>?_|refine zp fun nn hnn Z hs=>?_|fail)<;>conv=>whnf)
 all_goals try
  (have hcx:=hcl2 _ (BY hx) (by assumption)
   conv=>whnf
   repeat'((first|clear U K|apply st|(apply zk;intro K U)|refine zX ?_|refine zr fun Z hs=>?_|fail)<;>conv=>whnf)
  )
 all_goals first
  | (refine AF ?_
     have:EI os (tO w)=none:=Y1 (k+1) (by rw[I5 hx,hno];simp[Ga, *]);rw[hV,this]
     rfl)
  | exact⟨hlt,(BJ,no),rfl,⟨by rw[I5 hx,hno];simp[Ga, *],hl1,hl2⟩,hs.take 2⟩
  | exact⟨hlt,(BJ.set (Ac x).1.cls.toNat true,no),rfl,⟨by rw[I5 hx,hno];simp[Ga, *],by simpa using hl1,hl2⟩,hs.take 2⟩
  | exact⟨hlt,(BJ,no.set (Ac x).1.cls.toNat true),rfl,⟨by rw[I5 hx,hno];simp[Ga, *],hl1,by simpa using hl2⟩,hs.take 2⟩
  | skip
 rw[Ak (by assumption)]at hno;have hV2:LL w ls a p can=(D0 w ls a p can (BM w.owner.length ls a p) (BJ,no)).bind (VM w):=by rw[hV,hno];rfl
 clear hno;generalize hsl:BM w.owner.length ls a p=sl at *;have hsi: ∀s∈sl,0<=s/\s<w.owner.length:=fun s h=>Fi (by rw[hsl];exact h)
 refine Ba sl.length (fun k (_:BB)=>[(73,eI (Au k))]) (fun k t=>[.own (.sl id1 (3+w.parents.length) (3+w.parents.length)) 1 (bL t.1),.own (.sl id2 (3+w.parents.length) (3+w.parents.length)) 1 (bL t.2)]) (fun k t=>D0 w ls a p can (sl.take k) (BJ,no)=some t/\t.1.length=3+w.parents.length/\t.2.length=3+w.parents.length) (BJ,no) rfl ⟨rfl,hl1,hl2⟩ hs ?_;clear hs hl1 hl2;rintro k ⟨m1,n1⟩ Z hk ⟨hno,hl1,hl2⟩ hs;simp only at hl1 hl2;dsimp only at hs;rcases Aw sl hk with⟨x,hx,hlt⟩|hke
 .have hxm:=BY hx
  obtain⟨hx0,hx1⟩:=hsi x hxm
  have hox:w.owner[x.toNat]? =some (Bb w x):=by
   rw[Bb,Co,CQ (by omega)];rfl
  have ho:=hw.own _ (BY hox);have hcx:=hcan x hxm;have hbx:=Ur w ls a (p++[x]) c hokL;cases hB:DB ls a (p++[x])<;>cases hC:can x<;>rw[hB]at hbx<;>rw[hC]at hcx
  .conv=>whnf
   repeat'((first|clear U K|apply st|(apply zk;intro K U)|refine zX ?_|refine rk ?_ ?_|exact fun s e=>by cases e;rfl|refine zr fun Z hs=>?_|refine Pure.use (Io _ _ _ _ _ _ (by omega)) ?_|refine Pure.use (by assumption) ?_|refine zp fun nn hnn Z hs=>?_|fail)<;>conv=>whnf)
   refine AF ?_;have:D0 w ls a p can sl (BJ,no)=none:=Y0 (k+1) (by rw[I4 hx,hno];simp[JC, *]);rw[hV2,this];rfl
  .conv=>whnf
   repeat'((first|clear U K|apply st|(apply zk;intro K U)|refine zX ?_|refine rk ?_ ?_|exact fun s e=>by cases e;rfl|refine zr fun Z hs=>?_|refine Pure.use (Io _ _ _ _ _ _ (by omega)) ?_|refine Pure.use (by assumption) ?_|refine zp fun nn hnn Z hs=>?_|fail)<;>conv=>whnf)
   exact⟨hlt,(m1.set (Bb w x).toNat true,n1),rfl,⟨by rw[I4 hx,hno];simp[JC, *],by simpa using hl1,hl2⟩,hs.take 2⟩
  .conv=>whnf
   repeat'((first|clear U K|apply st|(apply zk;intro K U)|refine zX ?_|refine rk ?_ ?_|exact fun s e=>by cases e;rfl|refine zr fun Z hs=>?_|refine Pure.use (Io _ _ _ _ _ _ (by omega)) ?_|refine Pure.use (by assumption) ?_|refine zp fun nn hnn Z hs=>?_|fail)<;>conv=>whnf)
   exact⟨hlt,(m1,n1.set (Bb w x).toNat true),rfl,⟨by rw[I4 hx,hno];simp[JC, *],hl1,by simpa using hl2⟩,hs.take 2⟩
  .conv=>whnf
   repeat'((first|clear U K|apply st|(apply zk;intro K U)|refine zX ?_|refine rk ?_ ?_|exact fun s e=>by cases e;rfl|refine zr fun Z hs=>?_|refine Pure.use (Io _ _ _ _ _ _ (by omega)) ?_|refine Pure.use (by assumption) ?_|refine zp fun nn hnn Z hs=>?_|fail)<;>conv=>whnf)
   exact⟨hlt,(m1,n1),rfl,⟨by rw[I4 hx,hno];simp[JC, *],hl1,hl2⟩,hs.take 2⟩
 .rw [Ak hke]at hno
  have hV3:LL w ls a p can=VM w (m1,n1):=by rw[hV2,hno];rfl
  have hrow: ∀l∈w.parents,l.length<=AZ:=(T9 (g:=false) (by have:=hf.1;simp only[FI,Hk,Dg]at this;exact this.1)).2
  have hen:LL w ls a p can=if n1.getD 0 false then none else
   if(List.range (3+w.parents.length)).any (fun c=>(B4 w.parents (3+w.parents.length) w.parents.length (m1.set 0 false)).getD c false&&n1.getD c false)then none else some (B4 w.parents (3+w.parents.length) w.parents.length (m1.set 0 false)):=hV3.trans rfl
  clear hcan hcl hV hV2 hV3 hno hos hsl hcl2 hok;obtain⟨n0,hn0⟩: ∃b,n1[0]? =some b:=⟨_,CQ (by omega)⟩
  have hn0':n1[Int.toNat 0]? =some n0:=hn0;have hng:n1.getD 0 false=n0:=by rw[Co,hn0];rfl
  rw[hng]at hen;cases n0
  .generalize hms:m1.set 0 false=ms at *
   have hl3:ms.length=3+w.parents.length:=by rw[<-hms,List.length_set];exact hl1
   conv=>whnf
   repeat'((first|clear U K|apply st|(apply zk;intro K U)|refine zX ?_|refine zr fun Z hs=>?_|fail)<;>conv=>whnf)
   replace hs:Sat Z [.own (.sl id1 (3+w.parents.length) (3+w.parents.length)) 1 (bL ms),.own (.sl id2 (3+w.parents.length) (3+w.parents.length)) 1 (bL n1)]:=by rw[<-hms];exact hs
   rw[show IntKind.i64.wrap (((bL (m1.set (Int.toNat 0) false)).length:Nat) - 1)=((2+w.parents.length:Nat):Int) by rw[Bh,List.length_set,hl1,wrap64 (by omega) (by omega)];omega];refine Ba w.parents.length (fun k (_:Unit)=>[(15,eI (Ou ((2+w.parents.length:Nat):Int) k))]) (fun k _=>[.own (.sl id1 (3+w.parents.length) (3+w.parents.length)) 1 (bL (B4 w.parents (3+w.parents.length) k ms)),.own (.sl id2 (3+w.parents.length) (3+w.parents.length)) 1 (bL n1)]) (fun k _=>True) () rfl trivial hs ?_;clear hs;rintro k - Z hk - hs;have hd:Ou ((2+w.parents.length:Nat):Int) k=((2+w.parents.length:Nat):Int) - k:=Uo (by omega) (by omega);have hcl:=Ev w.parents (3+w.parents.length) k ms;rcases Nat.lt_or_ge k w.parents.length with hlt|hge
   .have hpw:w.parents[(IntKind.i64.wrap (Ou ((2+w.parents.length:Nat):Int) k - 3)).toNat]? =some (par w.parents (3+w.parents.length - 1 - k)):=by
     rw[hd,wrap64 (by omega) (by omega),show(((2+w.parents.length:Nat):Int) - k - 3).toNat=(3+w.parents.length - 1 - k) - 3 by omega];exact fm (by omega) (by omega)
    have hwi:0<=IntKind.i64.wrap (Ou ((2+w.parents.length:Nat):Int) k - 3):=by rw[hd,wrap64 (by omega) (by omega)];omega
    have hpl:=hrow _ (BY hpw);have hpr:=fun q=>hw.ord (3+w.parents.length - 1 - k) q
    generalize hpe:par w.parents (3+w.parents.length - 1 - k)=pr at *;generalize hce:B4 w.parents (3+w.parents.length) k ms=ce at *;have hcs:B4 w.parents (3+w.parents.length) (k+1) ms=if ce.getD (3+w.parents.length - 1 - k) false then pr.foldl (fun b q=>b.set q.toNat true) ce else ce:=by rw[B4,IX,hce,hpe]
    conv=>whnf
    repeat'((first|clear U K|apply st|(apply zk;intro K U)|refine zX ?_|refine ze fun x hx=>?_|(refine zb (fun hc=>?_) (fun hc=>?_)<;>try exact⟨⟩)|fail)<;>conv=>whnf)
    .rw[show(Ou ((2+w.parents.length:Nat):Int) k).toNat=3+w.parents.length - 1 - k by rw[hd];omega]at hx
     rw[Co,hx,hc]at hcs;simp only[Option.getD_some,if_true]at hcs;refine Ba pr.length (fun j (_:Unit)=>[(135,eI (Au j))]) (fun j _=>[.own (.sl id1 (3+w.parents.length) (3+w.parents.length)) 1 (bL ((pr.take j).foldl (fun b q=>b.set q.toNat true) ce)),.own (.sl id2 (3+w.parents.length) (3+w.parents.length)) 1 (bL n1)]) (fun _ _=>True) () rfl trivial hs ?_;clear hs hx;rintro j - Z hj - hs;have hfl:=Hm (pr.take j) ce;rcases Aw pr hj with⟨q,hq,hjlt⟩|hje
     .have hqr:=hpr q (BY hq)
      conv=>whnf
      repeat'((first|clear U K|apply st|(apply zk;intro K U)|refine zX ?_|refine zr fun Z hs=>?_|fail)<;>conv=>whnf)
      exact⟨hjlt,(),rfl,trivial,by rw[AO hq,List.foldl_append];exact hs⟩
     .refine zv ?_;(repeat clear U K);repeat intro K U
      rw[Ak hje]at hs;exact⟨hlt,(),rfl,trivial,by rw[hcs];exact hs⟩
    .rw[show(Ou ((2+w.parents.length:Nat):Int) k).toNat=3+w.parents.length - 1 - k by rw[hd];omega]at hx
     rw[Co,hx,hc]at hcs;simp only[Option.getD_some,Jc,if_false]at hcs;exact⟨hlt,(),rfl,trivial,by rw[hcs];exact hs⟩
   .have hke2:k=w.parents.length:=by omega
    rw[hke2]at hs hcl;generalize hme:B4 w.parents (3+w.parents.length) w.parents.length ms=me at *
    conv=>whnf
    repeat'((first|clear U K|apply st|(apply zk;intro K U)|refine zX ?_|(refine zb (fun hc=>?_) (fun hc=>?_)<;>try exact⟨⟩)|fail)<;>conv=>whnf)
    refine Ba me.length (fun j (_:Unit)=>[(145,eI (Au j))]) (fun _ _=>[.own (.sl id1 (3+w.parents.length) (3+w.parents.length)) 1 (bL me),.own (.sl id2 (3+w.parents.length) (3+w.parents.length)) 1 (bL n1)]) (fun j _=>LL w ls a p can=if((List.range (3+w.parents.length)).drop j).any (fun c=>me.getD c false&&n1.getD c false)then none else some me) () rfl hen hs ?_;clear hs hen;rintro j - Z hj hn hs;rcases Aw me hj with⟨x,hx,hjlt⟩|hje
    .obtain⟨y,hy⟩: ∃y,n1[j]? =some y:=⟨_,CQ (by omega)⟩
     have hrg:(List.range (3+w.parents.length))[j]? =some j:=by rw[List.getElem?_range (by omega)]
     rw[drop_cons hrg,Oj,Co,Co,hx,hy]at hn;cases x<;>cases y<;>simp only[Option.getD_some,Bool.and_true,Bool.and_false,Bool.false_or,Bool.true_or,if_true]at hn
     .refine zv ?_;(repeat clear U K);repeat intro K U
      exact⟨hjlt,(),rfl,hn,hs⟩
     .refine zv ?_;(repeat clear U K);repeat intro K U
      exact⟨hjlt,(),rfl,hn,hs⟩
     .refine zv ?_;(repeat clear U K);repeat intro K U
      exact⟨hjlt,(),rfl,hn,hs⟩
     .refine zv ?_;(repeat clear U K);repeat intro K U
      exact AF (by rw[hn];rfl)
    .rw[List.drop_of_length_le (by rw[xc];omega)]at hn
     simp only[List.any_nil,Jc,if_false]at hn;refine zv ?_;(repeat clear U K);repeat intro K U
     rw[hn];exact AY (.t (.cons (hs.Ic 0 rfl) (.cons (.refl _) .nil)))
  .conv=>whnf
   repeat'((first|clear U K|apply st|(apply zk;intro K U)|refine zX ?_|refine zr fun Z hs=>?_|fail)<;>conv=>whnf)
   exact AF (by rw[hen];rfl)
def L2 (w:AE) (ls:List Fact) (a:Int):Nat->List Int->Bool
 | 0,p=>((F9 ls a p).isSome&&DX w.owner.length ls a p)||(Ey w.owner.length ls a p||(LL w ls a p fun _=>false).isSome)
 | d+1,p=>((F9 ls a p).isSome&&DX w.owner.length ls a p)||(Ey w.owner.length ls a p||(LL w ls a p fun s=>L2 w ls a d (p++[s])).isSome)
def NV (ls:List Fact) (n:Nat):Prop:= ∀l∈ls,(Ac l).1.path.length<=n
def IM {n m:Nat} {ls:List Fact} {a:Int} {p:List Int} (h:NV ls m) (hp:m<=p.length):BM n ls a p= []:=by
 rw[BM,List.filter_eq_nil_iff];intro s _ hs;rw[G1]at hs;obtain⟨l,hl,hg⟩:=hs;have:=h l hl;simp only[Xo,BV,A7,CF,Kt,List.length_singleton]at hg;omega
def PH {n:Nat} {ls:List Fact} {a:Int} {p:List Int}:bf n ls a p= .t [eI ((F9 ls a p).getD 0),.b ((F9 ls a p).isSome&&DX n ls a p)]:=by
 unfold bf;cases F9 ls a p<;>rfl
def Z9 (o:Option (List Bool)):xv o= .t [.l (bL (o.getD [])) o.isNone,.b o.isSome]:=by
 cases o<;>rfl
def wy (w:AE) (ls:List Fact) (a:Int) (hokL: ∀l∈ls,E0 l) (hln:ls.length<=1000000) (hw:Ig w) (hcl:MC w ls) (hsm:HZ ls) (hsh:NV ls 2): ∀(d:Nat) (p:List Int),p.length+d=2->Pure zP 304 [.a (FI w ls a p false)] (.b (L2 w ls a d p)):=by
 intro d
 induction d with
 | zero=>
   intro p hp;have hI:=I2 w ls a p false hokL hln (by omega) hsm;rw[PH]at hI;have hN:=PD w ls a p false hokL hln (by omega);have hO:=Sv w ls a p false (fun _=>false) hokL hln (by omega) hw hcl (by rw[IM hsh (by omega)];intro s hs;cases hs);rw[Z9]at hO;refine Ng kZ ?_;have hs:=Sn;rw[L2];cases hA:(F9 ls a p).isSome&&DX w.owner.length ls a p<;>cases hB:Ey w.owner.length ls a p<;>rw[hA]at hI<;>rw[hB]at hN
   all_goals
    conv=>whnf
    repeat'((first|clear U K|apply st|(apply zk;intro K U)|refine zX ?_|refine hI.use ?_|refine hN.use ?_|refine hO.use ?_|fail)<;>conv=>whnf)
   all_goals exact AF (by simp)
 | succ d ih=>
   intro p hp;have hI:=I2 w ls a p false hokL hln (by omega) hsm;rw[PH]at hI;have hN:=PD w ls a p false hokL hln (by omega);have hO:=Sv w ls a p false (fun s=>L2 w ls a d (p++[s])) hokL hln (by omega) hw hcl (fun s hs=>ih (p++[s]) (by simp;omega));rw[Z9]at hO;refine Ng kZ ?_;have hs:=Sn;rw[L2];cases hA:(F9 ls a p).isSome&&DX w.owner.length ls a p<;>cases hB:Ey w.owner.length ls a p<;>rw[hA]at hI<;>rw[hB]at hN
   all_goals
    conv=>whnf
    repeat'((first|clear U K|apply st|(apply zk;intro K U)|refine zX ?_|refine hI.use ?_|refine hN.use ?_|refine hO.use ?_|fail)<;>conv=>whnf)
   all_goals exact AF (by simp)
def FC (w:AE) (ls:List Fact):Bool:=(BE 3).all fun a=>L2 w ls a 2 []
def OS (w:AE) (ls:List Fact) (hokL: ∀l∈ls,E0 l) (hln:ls.length<=1000000) (hw:Ig w) (hcl:MC w ls) (hsm:HZ ls) (hsh:NV ls 2):Pure zP 267 [.a (Ax w),.l (facts ls) false] (.b (FC w ls)):=by
 have hM:=Mx;refine tv kZ ?_;have hs:=Sn;refine zv ?_;(repeat clear U K);repeat intro K U
 refine Ba 3 (fun k (_:Unit)=>[(5,eI (Au k))]) (fun _ _=>[]) (fun k _=>FC w ls=((BE 3).drop k).all fun a=>L2 w ls a 2 []) () rfl rfl hs ?_;clear hs;rintro k - Z hk hn hs;have hck:Au k=k:=AW (by omega);rcases Nat.lt_or_ge k 3 with hlt|hge
 .have hrk:(BE 3)[k]? =some (Au k):=by
   rw[hck];rcases k with _|_|_|k
   .rfl
   .rfl
   .rfl
   .omega
  rw[drop_cons hrk,Jd]at hn
  conv=>whnf
  repeat'((first|clear U K|apply st|(apply zk;intro K U)|refine zX ?_|refine zr fun Z hs=>?_|refine Pure.LO (wy w ls (Au k) hokL hln hw hcl hsm hsh 2 [] rfl) (.cons (.a (.cons (.refl _) (.cons (.refl _) (.cons (.refl _) (.cons (.refl _) (.cons BS (.cons (.refl _) .nil))))))) .nil) rfl ?_|(refine zb (fun hc=>?_) (fun hc=>?_)<;>try exact⟨⟩)|refine zp fun nn hnn Z hs=>?_|fail)<;>conv=>whnf)
  .exact AF (by rw[hn,hck,hc];rfl)
  .exact⟨hlt,(),rfl,by rw[hn,hck,hc];rfl,hs.take 0⟩
 .rw[List.drop_of_length_le (by rw[Cj];omega)]at hn
  conv=>whnf
  repeat'((first|clear U K|apply st|(apply zk;intro K U)|refine zX ?_|(refine zb (fun hc=>?_) (fun hc=>?_)<;>try exact⟨⟩)|fail)<;>conv=>whnf)
  exact AF (by rw[hn];rfl)
def PJ {b:Nat} {Z:AD} {l:List At} (h:Sat Z l) (i j:Nat) {v u:V} {sz:Nat} {es ys:List (List V)} {K:V->AD->Prop} (hi:l[i]? =some (.own v sz es)) (hj:l[j]? =some (.own u sz ys)) (hl:es.length+ys.length<=AZ/\(es.length+ys.length)*b<=140737488355328) (hys: ∀e∈ys,e.length=sz) (ho: ∀e∈ys,∀v∈e,DL v=true)
    (hk: ∀v' Z',Sat Z' (l.set i (.own v' sz (es++ys)))->K v' Z'):AI b Z sz v u K:=by
 have hA:AI b Z sz v (.l ys true) K:=hAppend h i hi hl hys ho hk;rcases h.get hj with⟨rfl,hel⟩|⟨n,cap,rfl,hn⟩
 .exact hA
 .unfold AI at hA ⊢
  simp only[rowsOf]at hA ⊢;rw[hn];refine⟨rfl,G0 _,?_⟩;rw[List.take_length];exact hA.2
def CL (a:List Fact):List Fact->List Fact
 | []=>a
 | x::r=>CL (if a.any (CR x)then a else a++[x]) r
def RH (a:List Fact): ∀(b:List Fact) (x:Fact),CL a (b++[x])=if(CL a b).any (CR x)then CL a b else CL a b++[x]:=by
 intro b
 induction b generalizing a with
 | nil=>intro x;rfl
 | cons y r ih=>intro x;simp only[List.cons_append,CL];exact ih _ x
def Nz (a:List Fact): ∀(b:List Fact),(CL a b).length<=a.length+b.length:=by
 intro b
 induction b generalizing a with
 | nil=>simp[CL]
 | cons y r ih=>
   simp only[CL,JU];refine Nat.le_trans (ih _) ?_;split
   .omega
   .simp;omega
def S2 (a:List Fact): ∀(b:List Fact) (x:Fact),x∈CL a b->x∈a\/x∈b:=by
 intro b
 induction b generalizing a with
 | nil=>intro x hx;exact .inl hx
 | cons y r ih=>
   intro x hx;simp only[CL]at hx;rcases ih _ x hx with h|h
   .split at h
    .exact .inl h
    .rcases Du.1 h with h|h
     .exact .inl h
     .rw[JT.1 h];exact .inr (.head _)
   .exact .inr (.tail _ h)
def cY (a b:List Fact) (f g:Bool) (hl:a.length+b.length<1000000):Pure zP 269 [.l (facts a) f,.l (facts b) g] (.l (facts (CL a b)) false):=by
 have hM:=Mx;refine tt kZ ?_;have hs:=Sn
 conv=>whnf
 repeat'((first|clear U K|apply st|(apply zk;intro K U)|fail)<;>conv=>whnf)
 replace hs:=Ce hs 6;refine EH hs 0 (xs:=[]) (ys:=a) rfl (by simp;omega) GD fun v Z hs=>?_
 refine zv ?_;(repeat clear U K);repeat intro K U
 refine Ba b.length (fun k v=>[(5,v),(15,eI (Au k))]) (fun k v=>[.own v 6 (facts (CL a (b.take k)))]) (fun _ _=>True) v rfl trivial hs ?_;clear hs;rintro k v Z hk - hs;have hml:=Nz a (b.take k);rw[Ib]at hml;rcases Aw b hk with⟨x,hx,hlt⟩|hke
 .have hsn:=RH a (b.take k) x
  rw[<-AO hx]at hsn;generalize CL a (b.take k)=m at *
  conv=>whnf
  repeat'((first|clear U K|apply st|(apply zk;intro K U)|refine zX ?_|refine zr fun Z hs=>?_|refine zp fun nn hnn Z hs=>?_|fail)<;>conv=>whnf)
  refine Ba m.length (fun j t=>[(8,.b t),(21,eI (Au j))]) (fun j t=>[.own v 6 (facts m),.obj nn (.cs (xF x))]) (fun j t=>t=(m.take j).any (CR x)) false rfl (by simp) hs ?_;clear hs;rintro j t Z hj ht hs;rcases Aw m hj with⟨y,hy,hjlt⟩|hje
  .cases t
   .conv=>whnf
    repeat'((first|clear U K|apply st|(apply zk;intro K U)|refine zX ?_|refine zr fun Z hs=>?_|refine Pure.use (UN _ _) ?_|refine zp fun nn hnn Z hs=>?_|fail)<;>conv=>whnf)
    exact⟨hjlt,_,rfl,by rw[AO hy,List.any_append,<-ht];simp,hs.take 2⟩
   .conv=>whnf
    repeat'((first|clear U K|apply st|(apply zk;intro K U)|refine zX ?_|refine zr fun Z hs=>?_|refine zp fun nn hnn Z hs=>?_|fail)<;>conv=>whnf)
    exact⟨hjlt,true,rfl,by rw[AO hy,List.any_append,<-ht];simp,hs.take 2⟩
  .rw[Ak hje]at ht
   subst ht
   conv=>whnf
   repeat'((first|clear U K|apply st|(apply zk;intro K U)|refine zX ?_|refine oz fun v Z hs hsl=>?_|refine za (fun hc=>?_) fun hc=>?_|fail)<;>conv=>whnf)
   .rw[hc]at hsn
    exact⟨hlt,_,rfl,trivial,by rw[hsn];exact hs.take 1⟩
   .rw[hc]at hsn
    exact⟨hlt,_,rfl,trivial,by rw[hsn];exact hs.take 1⟩
 .refine zv ?_;(repeat clear U K);repeat intro K U
  exact Ee hs 0 rfl (by rw[Ak hke])
end Go.Gl
