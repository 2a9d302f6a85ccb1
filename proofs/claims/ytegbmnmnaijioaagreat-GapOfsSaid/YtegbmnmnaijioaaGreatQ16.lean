import Derived.Test.YtegbmnmnaijioaaGreatQ5
import Derived.Test.YtegbmnmnaijioaaGreatQ6
import Derived.Test.YtegbmnmnaijioaaGreatQ8
import Derived.Test.YtegbmnmnaijioaaGreatQ10
import Derived.Test.YtegbmnmnaijioaaGreatQ12
import Derived.Test.YtegbmnmnaijioaaGreatQ13
import Derived.Test.YtegbmnmnaijioaaGreatQ14
import Derived.Test.YtegbmnmnaijioaaGreatQ15
set_option linter.all false
set_option linter.defProp false
set_option maxHeartbeats 8000000
noncomputable section
namespace Go.Gl
open Go.Proofs
def mo (w:AH) (us:List Nat) (ls:List Fact) (b:Bool) (h:N1 ls) (hlen:ls.length<900) :
    BT zP 142 [.rp (gW w us),.l (Dx ls) b] [] fun r post=> ∃L es,r= .ret (.a (gv w us L))/\B9 (kg ls) es/\post=CA L es:=by
 have:=AAd w us ls (ls.map Af) rfl b h hlen;rw[y5]at this;exact this
abbrev nH (L:Nat) (pre post:List B5) (e:B5) (s:List B5):List At:=
 .box e.b [eU e.k.BU,eU e.k.Dt,eI e.k.low,eI e.k.high,e.vn,.b e.k.whole,.b e.k.Ah,e.vs]:: .own e.vn 1 (iL e.k.no)::JJ L (pre++e::(post++s)) pre (post++s)
def LX {Z:AE} {X:List At} {L:Nat} {pre post:List B5} {e:B5} {s:List B5} (h:Sat Z (X++CA L (pre++e::(post++s)))):Sat Z (.own e.vs 1 (iL e.k.AG)::(X++nH L pre post e s)):=by
 have h2:=K4 h;refine h2.perm ((Jp _ _ _ _).symm.trans (.cons _ ?_));exact(List.perm_middle.trans (.cons _ List.perm_middle)).symm
def KX {Z:AE} {X:List At} {L:Nat} {pre post:List B5} {e:B5} {s:List B5} (h:Sat Z (.own e.vs 1 (iL e.k.AG)::(X++nH L pre post e s))):Sat Z (X++CA L (pre++e::(post++s))):=by
 refine D4 (X:=X) (e:=e) (e':=e) rfl rfl rfl ?_;refine h.perm ?_;refine List.Perm.trans (.cons _ (List.perm_middle.trans (.cons _ List.perm_middle))) ?_;exact Jp _ _ _ _
def Js (kf:Int->List Int->Kn) (L:Nat) (es:List B5) (post:List At):Prop:= ∃es',LR es es'/\B9 kf es'/\post=CA L es'
def iH (g:List (List Int)):(CJ g)[0]? =some 1/\(CJ g)[1]? =some 3/\(CJ g)[2]? =some 5:=by
 have key: ∀k,(Bp g k)[0]? =some 1/\(Bp g k)[1]? =some 3/\(Bp g k)[2]? =some 5:=fun k=>by
  induction k with
  | zero=>exact⟨rfl,rfl,rfl⟩
  | succ k ih=>
    have hl:=EG g k;rw[Bp,cQ (by omega),cQ (by omega),cQ (by omega)];exact ih
 exact key g.length
attribute [local irreducible] Au Am Ab AR AK AY AQ AS AJ AX AN AP Ao Az Sat AU Ax Ad W
def AAV (w:AH) {kf:Int->List Int->Kn} (hr:FC w kf) {L:Nat} {es:List B5} (h:B9 kf es) {a:Int} {p:List Int} (hp:p.length<=2) :
    BT zP 216 [.a (gv w (CJ w.parents) L),Cd a p,eI 2] (CA L es) fun r post=>r= .ret (.b (Et kf a p))/\Js kf L es post:=by
 intro Z hs;have hM:=Mx;obtain⟨-,hu1,hu2⟩:=iH w.parents;generalize CJ w.parents=us at *;refine jT kZ ?_;refine zz ?_;(repeat clear U K);repeat intro K U
 refine(rE w us h (a:=a) (p:=p) hp).use (rest:=[]) (by simpa using hs) ?_;clear hs;rintro r post Z ⟨es4,e4,got,rfl,rfl⟩ hs;have hek:=got.k;obtain⟨pre,post,rfl⟩:=List.append_of_mem got.mem;rw[GA]at hs;replace hs:=K4 (X:=[]) hs;have hok:=hr.ok a p;have hsl:=(hr.ok a p).2.2.2;have hsh:=hr.short a p;rw[<-hek]at hok hsl hsh;have hb1:bits .andNot .u64 (e4.k.BU:Int) ((5:Nat):Int)=((ME e4.k.BU 5:Nat):Int):=IU;have hb2:bits .and .u64 (e4.k.Dt:Int) ((5:Nat):Int)=((e4.k.Dt&&&5:Nat):Int):=F7 hok.2.1 (by decide);have hb3:=M8 (u:=5) hok.1
 have hP:Et kf a p=(!e4.k.whole&&(Hp e4.k.BU 5&&(e4.k.Dt&&&5==0&&e4.k.AG.all fun s=> !(kf a (p++[s])).Ah))):=by
  rw[Et,Ed,H3,hek];rfl
 generalize Et kf a p=R at *
 conv=>whnf
 repeat'((first|clear U K|apply st|(apply zk;intro K U)|refine zY ?_|refine za (fun hc=>?_) fun hc=>?_|fail)<;>conv=>whnf)
 .have h2:(e4.k.Dt&&&5==0)=false:=by rw[beq_eq_false_iff_ne];omega
  exact AI ⟨_,⟨by rw[hP,h2];simp,_,got.ext,got.inv,rfl⟩,by simpa using D4 (X:=[]) (e:=e4) (e':=e4) rfl rfl rfl hs⟩
 .have h1:Hp e4.k.BU 5=true:=hb3.1 (by omega)
  have h2:(e4.k.Dt&&&5==0)=true:=by rw[DD];omega
  rw[h1,h2,EA,EA]at hP
  have hs1:Sat Z (.own e4.vs 1 (iL e4.k.AG)::nH L pre post e4 []):=by
   have h2:=LX (X:=[]) (L:=L) (pre:=pre) (post:=post) (e:=e4) (s:=[]) (by simpa using D4 (X:=[]) (e:=e4) (e':=e4) rfl rfl rfl hs);simpa using h2
  refine Bw e4.k.AG.length (fun k (x:List B5)=>[(49,eI (A6 k))]) (fun k x=> .own e4.vs 1 (iL e4.k.AG)::nH L pre post e4 x) (fun k x=>(B9 kf (pre++e4::(post++x))/\ ∀y∈x,y.k=k0)/\R=(!e4.k.whole&&(e4.k.AG.drop k).all fun s=> !(kf a (p++[s])).Ah)) [] rfl ⟨⟨by simpa using got.inv,by simp⟩,hP⟩ hs1 ?_;clear hs hs1 hP;rintro k new Z hk ⟨⟨hinv,hnew⟩,hF⟩ hs;have hck:A6 k=k:=Ae (by omega);rcases A7 e4.k.AG hk with⟨s,hsk,hlt⟩|hke
  .have hsm:=Bo hsk
   have hp2:p.length<2:=by
    rcases Nat.lt_or_ge p.length 2 with h'|h'
    .exact h'
    .rw[hsh h']at hsm;cases hsm
   rw[drop_cons hsk,KE]at hF
   conv=>whnf
   repeat'((first|clear U K|apply st|(apply zk;intro K U)|refine zY ?_|refine rk ?_ ?_|exact fun s e=>by cases e;rfl|refine ze fun x hx=>?_|refine Pure.use (Px a p _ hp2) ?_|fail)<;>conv=>whnf)
   obtain rfl:x=s:=by rw[hck,GB,hsk]at hx;exact(Option.some.inj hx).symm
   refine(rE w us hinv (a:=a) (p:=p++[x]) (by simp;omega)).use (rest:=[]) (by simpa using KX (X:=[]) (by simpa using hs)) ?_;clear hs;rintro r post' Z ⟨es5,e5,got5,rfl,rfl⟩ hs;have hek5:=congrArg Kn.Ah got5.k;obtain⟨newA,heA,hnA⟩:=got5.ext;obtain⟨pre5,post5,he5⟩:=List.append_of_mem got5.mem;have e7:es5=pre++e4::(post++(new++newA)):=by rw[heA];simp
   have hi7:=got5.inv;rw[e7]at hi7;have hn7: ∀y∈new++newA,y.k=k0:=fun y hy=>(Du.1 hy).elim (hnew y) (hnA y)
   rw[GA,he5]at hs;replace hs:=K4 (X:=[]) hs;cases hnx:(kf a (p++[x])).Ah<;>rw[hnx]at hek5 hF<;>rw[hek5]at hs
   all_goals
    refine zz ?_;(repeat clear U K);repeat intro K U
    have hs3:Sat Z (CA L (pre++e4::(post++(new++newA)))):=by
     rw[<-hek5]at hs;have h3:=D4 (X:=[]) (e:=e5) (e':=e5) rfl rfl rfl hs;rw[<-he5,e7]at h3;exact h3
   .exact⟨hlt,new++newA,rfl,⟨⟨hi7,hn7⟩,by rw[hF];rfl⟩,LX (X:=[]) hs3⟩
   .exact AI ⟨_,⟨by rw[hF];simp,_,got.ext.trans ⟨_,by simp,hn7⟩,hi7,rfl⟩,hs3⟩
  .rw[Ai hke,List.all_nil,Bool.and_true]at hF
   conv=>whnf
   repeat'((first|clear U K|apply st|(apply zk;intro K U)|refine zY ?_|(refine zb (fun hc=>?_) (fun hc=>?_)<;>try exact⟨⟩)|fail)<;>conv=>whnf)
   exact AI ⟨_,⟨by rw[hF],_,got.ext.trans ⟨_,by simp,hnew⟩,hinv,rfl⟩,KX (X:=[]) hs⟩
 .have h1:Hp e4.k.BU 5=false:=by
   rw[<-Bool.not_eq_true,<-hb3];omega
  exact AI ⟨_,⟨by rw[hP,h1];simp,_,got.ext,got.inv,rfl⟩,by simpa using D4 (X:=[]) (e:=e4) (e':=e4) rfl rfl rfl hs⟩
def intG (w:AH) {kf:Int->List Int->Kn} (hr:FC w kf) {L:Nat} {es:List B5} (h:B9 kf es) {a:Int} {p:List Int} (hp:p.length<=2) :
    BT zP 216 [.a (gv w (CJ w.parents) L),Cd a p,eI 1] (CA L es) fun r post=>r= .ret (.b (Hs kf a p))/\Js kf L es post:=by
 intro Z hs;have hM:=Mx;obtain⟨-,hu1,hu2⟩:=iH w.parents;generalize CJ w.parents=us at *;refine jT kZ ?_;refine zz ?_;(repeat clear U K);repeat intro K U
 refine(rE w us h (a:=a) (p:=p) hp).use (rest:=[]) (by simpa using hs) ?_;clear hs;rintro r post Z ⟨es4,e4,got,rfl,rfl⟩ hs;have hek:=got.k;obtain⟨pre,post,rfl⟩:=List.append_of_mem got.mem;rw[GA]at hs;replace hs:=K4 (X:=[]) hs;have hok:=hr.ok a p;have hsl:=(hr.ok a p).2.2.2;have hsh:=hr.short a p;rw[<-hek]at hok hsl hsh;have hb1:bits .andNot .u64 (e4.k.BU:Int) ((3:Nat):Int)=((ME e4.k.BU 3:Nat):Int):=IU;have hb2:bits .and .u64 (e4.k.Dt:Int) ((3:Nat):Int)=((e4.k.Dt&&&3:Nat):Int):=F7 hok.2.1 (by decide);have hb3:=M8 (u:=3) hok.1
 have hP:Hs kf a p=(decide (Eh (kf a p)<=e4.k.high)&&(Hp e4.k.BU 3&&(e4.k.Dt&&&3==0&&e4.k.AG.all fun s=> !(kf a (p++[s])).Ah))):=by
  rw[Hs,Ed,H3,hek];rfl
 generalize Hs kf a p=R at *
 conv=>whnf
 repeat'((first|clear U K|apply st|(apply zk;intro K U)|refine zY ?_|refine za (fun hc=>?_) fun hc=>?_|fail)<;>conv=>whnf)
 .have h2:(e4.k.Dt&&&3==0)=false:=by rw[beq_eq_false_iff_ne];omega
  exact AI ⟨_,⟨by rw[hP,h2];simp,_,got.ext,got.inv,rfl⟩,by simpa using D4 (X:=[]) (e:=e4) (e':=e4) rfl rfl rfl hs⟩
 .have h1:Hp e4.k.BU 3=true:=hb3.1 (by omega)
  have h2:(e4.k.Dt&&&3==0)=true:=by rw[DD];omega
  rw[h1,h2,EA,EA]at hP
  have hs1:Sat Z (.own e4.vs 1 (iL e4.k.AG)::nH L pre post e4 []):=by
   have h2:=LX (X:=[]) (L:=L) (pre:=pre) (post:=post) (e:=e4) (s:=[]) (by simpa using D4 (X:=[]) (e:=e4) (e':=e4) rfl rfl rfl hs);simpa using h2
  refine Bw e4.k.AG.length (fun k (x:List B5)=>[(49,eI (A6 k))]) (fun k x=> .own e4.vs 1 (iL e4.k.AG)::nH L pre post e4 x) (fun k x=>(B9 kf (pre++e4::(post++x))/\ ∀y∈x,y.k=k0)/\R=(decide (Eh (kf a p)<=e4.k.high)&&(e4.k.AG.drop k).all fun s=> !(kf a (p++[s])).Ah)) [] rfl ⟨⟨by simpa using got.inv,by simp⟩,hP⟩ hs1 ?_;clear hs hs1 hP;rintro k new Z hk ⟨⟨hinv,hnew⟩,hF⟩ hs;have hck:A6 k=k:=Ae (by omega);rcases A7 e4.k.AG hk with⟨s,hsk,hlt⟩|hke
  .have hsm:=Bo hsk
   have hp2:p.length<2:=by
    rcases Nat.lt_or_ge p.length 2 with h'|h'
    .exact h'
    .rw[hsh h']at hsm;cases hsm
   rw[drop_cons hsk,KE]at hF
   conv=>whnf
   repeat'((first|clear U K|apply st|(apply zk;intro K U)|refine zY ?_|refine rk ?_ ?_|exact fun s e=>by cases e;rfl|refine ze fun x hx=>?_|refine Pure.use (Px a p _ hp2) ?_|fail)<;>conv=>whnf)
   obtain rfl:x=s:=by rw[hck,GB,hsk]at hx;exact(Option.some.inj hx).symm
   refine(rE w us hinv (a:=a) (p:=p++[x]) (by simp;omega)).use (rest:=[]) (by simpa using KX (X:=[]) (by simpa using hs)) ?_;clear hs;rintro r post' Z ⟨es5,e5,got5,rfl,rfl⟩ hs;have hek5:=congrArg Kn.Ah got5.k;obtain⟨newA,heA,hnA⟩:=got5.ext;obtain⟨pre5,post5,he5⟩:=List.append_of_mem got5.mem;have e7:es5=pre++e4::(post++(new++newA)):=by rw[heA];simp
   have hi7:=got5.inv;rw[e7]at hi7;have hn7: ∀y∈new++newA,y.k=k0:=fun y hy=>(Du.1 hy).elim (hnew y) (hnA y)
   rw[GA,he5]at hs;replace hs:=K4 (X:=[]) hs;cases hnx:(kf a (p++[x])).Ah<;>rw[hnx]at hek5 hF<;>rw[hek5]at hs
   all_goals
    refine zz ?_;(repeat clear U K);repeat intro K U
    have hs3:Sat Z (CA L (pre++e4::(post++(new++newA)))):=by
     rw[<-hek5]at hs;have h3:=D4 (X:=[]) (e:=e5) (e':=e5) rfl rfl rfl hs;rw[<-he5,e7]at h3;exact h3
   .exact⟨hlt,new++newA,rfl,⟨⟨hi7,hn7⟩,by rw[hF];rfl⟩,LX (X:=[]) hs3⟩
   .exact AI ⟨_,⟨by rw[hF];simp,_,got.ext.trans ⟨_,by simp,hn7⟩,hi7,rfl⟩,hs3⟩
  .rw[Ai hke,List.all_nil,Bool.and_true]at hF
   have hlo:=hr.low a p;rw[<-hek]at hlo;have hno:=hok.2.2.1;have hle:=VJ e4.k.no e4.k.low;have hL:Eh (kf a p)=G4 e4.k.no (from_ e4.k.no e4.k.low) e4.k.low:=by rw[Eh,<-hek];exact Pz hle (IW _)
   conv=>whnf
   repeat'((first|clear U K|apply st|(apply zk;intro K U)|refine zY ?_|(refine zb (fun hc=>?_) (fun hc=>?_)<;>try exact⟨⟩)|fail)<;>conv=>whnf)
   refine D1 (fun n:Int=>from_ e4.k.no n) (fun n=>[(10,eI n)]) (fun _=> .own e4.vs 1 (iL e4.k.AG)::nH L pre post e4 new) (fun n=> -1000000000<=n/\n+from_ e4.k.no n<=1000001000/\Eh (kf a p)=G4 e4.k.no (from_ e4.k.no n) n) e4.k.low rfl ⟨by omega,by omega,hL⟩ hs ?_;clear hs hL hle;rintro n Z ⟨hn0,hn1,hL⟩ hs;have hct2:=fun b=>C1 e4.k.no b n
   cases hcB:e4.k.no.contains n<;>rw[hcB]at hct2
   .have hout:n∉e4.k.no:=by simpa using hcB
    rw[cE hout]at hL;rw[hL]at hF
    conv=>whnf
    repeat'((first|clear U K|apply st|(apply zk;intro K U)|refine zY ?_|refine Pure.L7 (hct2 false) (.cons (hs.GC 2 rfl) (.cons (.refl _) .nil)) rfl ?_|fail)<;>conv=>whnf)
    all_goals exact AI ⟨_,⟨by rw[hF],_,got.ext.trans ⟨_,by simp,hnew⟩,hinv,rfl⟩,KX (X:=[]) hs⟩
   .have hin:n∈e4.k.no:=by simpa using hcB
    have hlt:=Pt hin;have hwr:IntKind.i64.wrap (n+1)=n+1:=wrap64 (by omega) (by omega);obtain⟨m,hm⟩: ∃m,from_ e4.k.no n=m+1:=⟨from_ e4.k.no n - 1,by omega⟩
    have hL2:Eh (kf a p)=G4 e4.k.no (from_ e4.k.no (n+1)) (n+1):=by rw[hL,hm,jk hin];exact Pz (by omega) (IW _)
    conv=>whnf
    repeat'((first|clear U K|apply st|(apply zk;intro K U)|refine zY ?_|refine Pure.L7 (hct2 false) (.cons (hs.GC 2 rfl) (.cons (.refl _) .nil)) rfl ?_|fail)<;>conv=>whnf)
    exact⟨n+1,hlt,by rw[hwr];rfl,⟨by omega,by omega,hL2⟩,hs⟩
 .have h1:Hp e4.k.BU 3=false:=by
   rw[<-Bool.not_eq_true,<-hb3];omega
  exact AI ⟨_,⟨by rw[hP,h1];simp,_,got.ext,got.inv,rfl⟩,by simpa using D4 (X:=[]) (e:=e4) (e':=e4) rfl rfl rfl hs⟩
end Go.Gl
namespace Go.Gl
open Go.Proofs
attribute [local irreducible] Au Am Ab AR AK AY AQ AS AJ AX AN AP Ao Az Sat AU Ax Ad W
def ou (w : AH) (hw:DB w) (us:List Nat) {kf:Int->List Int->Kn} (hr:FC w kf) {a:Int} {p:List Int} (hp:p.length<=2) (up:Nat) (hup:up<18446744073709551616) (g:FuncId) (fi ca:List V) (can:Int->Bool) {L:Nat}
    (hcan: ∀s∈(kf a p).AG,∀es,B9 kf es->BT zP g (fi++[Cd a (p++[s])]++ca) (CA L es) fun r post=>r= .ret (.b (can s))/\Js kf L es post) {es:List B5} (h:B9 kf es) :
    BT zP 217 [.a (gv w us L),Cd a p,eU up,.f (.func g) fi ca] (CA L es) fun r post=>r= .ret (.b (Vq w kf a p up can))/\Js kf L es post:=by
 intro Z hs;have hM:=Mx;refine xe kZ ?_;refine zz ?_;(repeat clear U K);repeat intro K U
 refine(rE w us h (a:=a) (p:=p) hp).use (rest:=[]) (by simpa using hs) ?_;clear hs;rintro r post Z ⟨es4,e4,got,rfl,rfl⟩ hs;have hek:=got.k;obtain⟨pre,post,rfl⟩:=List.append_of_mem got.mem;rw[GA]at hs;replace hs:=K4 (X:=[]) hs;have hok:=hr.ok a p;have hsl:=(hr.ok a p).2.2.2;have hsh:=hr.short a p;have hsw:=hr.AG a p;rw[<-hek]at hok hsl hsh hsw hcan;have hb1:bits .andNot .u64 (e4.k.BU:Int) (up:Int)=((ME e4.k.BU up:Nat):Int):=IU;have hb2:bits .and .u64 (e4.k.Dt:Int) (up:Int)=((e4.k.Dt&&&up:Nat):Int):=F7 hok.2.1 hup;have hb3:=M8 (u:=up) hok.1
 have hP:Vq w kf a p up can=(!e4.k.whole&&(Hp e4.k.BU up&&(e4.k.Dt&&&up==0&&e4.k.AG.all fun s=>if up.testBit (B4 w s).toNat then can s else !(kf a (p++[s])).Ah))):=by
  rw[Vq,hek]
 generalize Vq w kf a p up can=R at *;cases hwh:e4.k.whole<;>rw[hwh]at hP hs
 rotate_left
 .refine zz ?_;(repeat clear U K);repeat intro K U
  exact AI ⟨_,⟨by rw[hP];rfl,_,got.ext,got.inv,rfl⟩,by rw[<-hwh]at hs;simpa using D4 (X:=[]) (e:=e4) (e':=e4) rfl rfl rfl hs⟩
 have hcl: ∀ {Z:AE},Sat Z (.box e4.b [eU e4.k.BU,eU e4.k.Dt,eI e4.k.low,eI e4.k.high,e4.vn,.b false,.b e4.k.Ah,e4.vs]:: .own e4.vn 1 (iL e4.k.no):: .own e4.vs 1 (iL e4.k.AG)::([]++JJ L (pre++e4::post) pre post))->Sat Z (CA L (pre++e4::post)):=fun h=>by
  rw[<-hwh]at h;simpa using D4 (X:=[]) (e:=e4) (e':=e4) rfl rfl rfl h
 conv=>whnf
 repeat'((first|clear U K|apply st|(apply zk;intro K U)|refine zY ?_|refine za (fun hc=>?_) fun hc=>?_|fail)<;>conv=>whnf)
 .have h2:(e4.k.Dt&&&up==0)=false:=by rw[beq_eq_false_iff_ne];omega
  exact AI ⟨_,⟨by rw[hP,h2];simp,_,got.ext,got.inv,rfl⟩,hcl hs⟩
 .have h1 : Hp e4.k.BU up=true:=hb3.1 (by omega)
  have h2:(e4.k.Dt&&&up==0)=true:=by rw[DD];omega
  rw[h1,h2,Bool.not_false,EA,EA,EA]at hP
  have hs1:Sat Z (.own e4.vs 1 (iL e4.k.AG)::nH L pre post e4 []):=by
   have h2:=LX (X:=[]) (L:=L) (pre:=pre) (post:=post) (e:=e4) (s:=[]) (by simpa using hcl hs);simpa using h2
  clear hb1 hb2 hb3 h1 h2;refine Bw e4.k.AG.length (fun k (x:List B5)=>[(44,eI (A6 k))]) (fun k x=> .own e4.vs 1 (iL e4.k.AG)::nH L pre post e4 x) (fun k x=>(B9 kf (pre++e4::(post++x))/\ ∀y∈x,y.k=k0)/\R=(e4.k.AG.drop k).all fun s=>if up.testBit (B4 w s).toNat then can s else !(kf a (p++[s])).Ah) [] rfl ⟨⟨by simpa using got.inv,by simp⟩,hP⟩ hs1 ?_;clear hs hs1 hP hcl;rintro k new Z hk ⟨⟨hinv,hnew⟩,hF⟩ hs;have hck:A6 k=k:=Ae (by omega);rcases A7 e4.k.AG hk with⟨s,hsk,hlt⟩|hke
  .have hsm:=Bo hsk
   have hp2:p.length<2:=by
    rcases Nat.lt_or_ge p.length 2 with h'|h'
    .exact h'
    .rw[hsh h']at hsm;cases hsm
   obtain⟨hs0,hs1⟩:=hsw s hsm;obtain⟨o,ho⟩: ∃o,w.owner[s.toNat]? =some o:=⟨_,Cr (by omega)⟩
   have hoI:B4 w s=o:=by simp only[B4,C4,ho];rfl
   obtain⟨ho1,ho2⟩:=hw.2.2 o (Bo ho);have hwp:=hw.1.1;rw[drop_cons hsk,KE,hoI]at hF;have hcx:=hcan s hsm
   conv=>whnf
   repeat'((first|clear U K|apply st|(apply zk;intro K U)|refine zY ?_|refine ze fun x hx=>?_|refine zs fun Z hs=>?_|refine Pure.use (Px a p _ hp2) ?_|refine zo fun nn hnn Z hs=>?_|fail)<;>conv=>whnf)
   obtain rfl:x=s:=by rw[hck,GB,hsk]at hx;exact(Option.some.inj hx).symm
   generalize nn=n7 at *;have hs2:Sat Z ([.box n7 (GD a (p++[x]))]++CA L (pre++e4::(post++new))):=KX (X:=[.box n7 (GD a (p++[x]))]) (hs.perm (.swap _ _ _));clear hs;have hs:=hs2;clear hs2;have c2:=gu up o hup (by omega) (by omega);cases hbo:up.testBit o.toNat<;>rw[hbo]at hF c2
   .rw [if_neg (by decide)]at hF
    conv=>whnf
    repeat'((first|clear U K|apply st|(apply zk;intro K U)|refine zY ?_|refine zC ?_|fail)<;>conv=>whnf)
    refine(rE w us hinv (a:=a) (p:=p++[x]) (by simp;omega)).use (rest:=[.box n7 (GD a (p++[x]))]) hs.flip ?_;clear hs;rintro r post' Z ⟨es5,e5,got5,rfl,rfl⟩ hs;have hek5:=congrArg Kn.Ah got5.k;obtain⟨newA,heA,hnA⟩:=got5.ext;obtain⟨pre5,post5,he5⟩:=List.append_of_mem got5.mem;have e7:es5=pre++e4::(post++(new++newA)):=by rw[heA];simp
    have hi7:=got5.inv;rw[e7]at hi7;have hn7: ∀y∈new++newA,y.k=k0:=fun y hy=>(Du.1 hy).elim (hnew y) (hnA y)
    rw[he5]at hs;replace hs:=K4 (X:=[.box n7 (GD a (p++[x]))]) hs.flip;cases hnx:(kf a (p++[x])).Ah<;>rw[hnx]at hek5 hF<;>rw[hek5]at hs
    all_goals
     refine zz ?_;(repeat clear U K);repeat intro K U
     have hs3:Sat Z (CA L (pre++e4::(post++(new++newA)))):=by
      rw[<-hek5]at hs;have h3:=D4 (X:=[.box n7 (GD a (p++[x]))]) (e:=e5) (e':=e5) rfl rfl rfl hs;rw[<-he5,e7]at h3;exact h3.less (List.sublist_append_right _ _)
    .exact⟨hlt,new++newA,rfl,⟨⟨hi7,hn7⟩,by rw[hF];rfl⟩,LX (X:=[]) hs3⟩
    .exact AI ⟨_,⟨by rw[hF];rfl,_,got.ext.trans ⟨_,by simp,hn7⟩,hi7,rfl⟩,hs3⟩
   .rw[if_pos rfl]at hF
    cases hcy:can x<;>rw[hcy]at hF hcx
    all_goals
     conv=>whnf
     repeat'((first|clear U K|apply st|(apply zk;intro K U)|refine zY ?_|refine zC ?_|fail)<;>conv=>whnf)
     refine BN ((hcx _ hinv).use (rest:=[.box n7 (GD a (p++[x]))]) hs.flip ?_);clear hs;rintro r post' Z ⟨rfl,es6,⟨new6,he6,hn6⟩,hi6,rfl⟩ hs;have e7:es6=pre++e4::(post++(new++new6)):=by rw[he6];simp
     rw[e7]at hi6 hs;have hn7: ∀y∈new++new6,y.k=k0:=fun y hy=>(Du.1 hy).elim (hnew y) (hn6 y)
     have hs3:Sat Z (CA L (pre++e4::(post++(new++new6)))):=hs.less (List.sublist_append_left _ _);clear hs;have hs:=hs3;refine zz ?_;(repeat clear U K);repeat intro K U
    .exact AI ⟨_,⟨by rw[hF];rfl,_,got.ext.trans ⟨_,by simp,hn7⟩,hi6,rfl⟩,hs3⟩
    .exact⟨hlt,new++new6,rfl,⟨⟨hi6,hn7⟩,by rw[hF];rfl⟩,LX (X:=[]) hs3⟩
  .rw[Ai hke,List.all_nil]at hF
   refine zz ?_;(repeat clear U K);repeat intro K U
   exact AI ⟨_,⟨by rw[hF],_,got.ext.trans ⟨_,by simp,hnew⟩,hinv,rfl⟩,KX (X:=[]) hs⟩
 .have h1:Hp e4.k.BU up=false:=by
   rw[<-Bool.not_eq_true,<-hb3];omega
  exact AI ⟨_,⟨by rw[hP,h1];simp,_,got.ext,got.inv,rfl⟩,hcl hs⟩
end Go.Gl
namespace Go.Gl
open Go.Proofs
def LR.len {es es':List B5} (h:LR es es'):es.length<=es'.length:=by
 obtain⟨n,rfl,_⟩:=h;simp
attribute [local irreducible] Au Am Ab AR AK AY AQ AS AJ AX AN AP Ao Az Sat AU Ax Ad W
end Go.Gl
namespace Go.Gl
open Go.Proofs
abbrev Zv (p:Prog) (gen:Int) (ms:List Int):List V:=BG p++[eI gen,.l (iL ms) false]
structure YS (p:Prog) (ms:List Int):Prop where
 ok:EM p
 GL: ∀m∈ms,BM p m=true
 sV:ms.length<=8
def Ck (s n:Nat):List Bool:=(List.range n).map s.testBit
def T0 (s n:Nat):(Ck s n).length=n:=by simp[Ck]
def XV {s n i:Nat} (h:i<n):(Ck s n)[i]? =some (s.testBit i):=by
 rw[Ck,Je,List.getElem?_range h];rfl
abbrev Jk (p:Prog) (ms:List Int):List Fact:=ms.map fun m=>(Bd p m).fact
def Yb (g:FuncId) (fi ca:List V) (w:AH) (tog:List Fact->Bool):Prop:= ∀l b,(∀x∈l,Dj w x)->l.length<900->Pure zP g (fi++[L6 l b]++ca) (.b (tog l))
abbrev gp (g:FuncId) (fi ca:List V) (p:Prog) (gen:Int) (ms:List Int) (s many nN:Nat):V:= .f (.func 208) [] [.rp [.f (.func g) fi ca],.rp [eI many],.rp (Zv p gen ms),.rp [eU s],.p nN 0]
section
variable {g:FuncId} {fi ca:List V} {p:Prog} {gen:Int} {ms:List Int} {tog:List Fact->Bool}
def WC (p:Prog) (ms:List Int) (s many i:Nat):List (List (List Fact)):=(cz ((Jk p ms).zip (Ck s many))).drop i
def dU {s many i:Nat} (h:many<=i):WC p ms s many i= []:=List.drop_of_length_le (by simp[cz,T0];omega)
def kr {s many i:Nat} {m:Int} (h:i<many) (hm:ms[i]? =some m):WC p ms s many i=CZ (Bd p m).fact (!s.testBit i)::WC p ms s many (i+1):=by
 refine drop_cons ?_;have hz:((Jk p ms).zip (Ck s many))[i]? =some ((Bd p m).fact,s.testBit i):=List.getElem?_zip_eq_some.2 ⟨by rw[Je,hm];rfl,XV h⟩;rw[cz,Je,hz];rfl
attribute [local irreducible] Au Am Ab AR AK AY AQ AS AJ AX AN AP Ao Az Sat AU Ax Ad W
def o0 (h:YS p ms) (hcan:Yb g fi ca (AL p) tog) {s many nN:Nat} (hs64:s<18446744073709551616) (hmn:many<=ms.length): ∀(d i:Nat) (l:List Fact) (b:Bool),i+d=many->(∀x∈l,Dj (AL p) x)->l.length<=12*i-> ∀Z,Sat Z [.box nN [gp g fi ca p gen ms s many nN]]->
    Au zP 208 [eI i,L6 l b,.rp [.f (.func g) fi ca],.rp [eI many],.rp (Zv p gen ms),.rp [eU s],.p nN 0] Z fun r Z'=>r= .ret (.b (JZ tog (WC p ms s many i) l))/\Sat Z' [.box nN [gp g fi ca p gen ms s many nN]]:=by
 have hM:=Mx;have hfew:=h.sV;intro d
 induction d with
 | zero=>
   intro i l b hid hl hln Z hs;have c1:=hcan l b hl (by omega);rw[dU (by omega),JZ];cases ht:tog l<;>rw[ht]at c1
   all_goals
    refine Yp kZ ?_
    conv=>whnf
    repeat'((first|clear U K|apply st|(apply zk;intro K U)|refine zY ?_|refine rk ?_ ?_|exact fun s e=>by cases e;rfl|refine BN (c1.use ?_)|(refine zb (fun hc=>?_) (fun hc=>?_)<;>try exact⟨⟩)|fail)<;>conv=>whnf)
    all_goals try(exfalso;simp at hc;omega)
    all_goals exact AI ⟨rfl,hs⟩
 | succ d ih=>
   intro i l b hid hl hln Z hs;have c1:=hcan l b hl (by omega);obtain⟨m,hm⟩: ∃m,ms[i]? =some m:=⟨_,Cr (by omega)⟩
   have hmm:=h.GL m (Bo hm);have hmP:=CE hmm;have hfa:=h.ok.facts _ (Bo hmP);rw[kr (by omega) hm,JZ];cases ht:tog l<;>rw[ht]at c1
   .refine Yp kZ ?_
    conv=>whnf
    repeat'((first|clear U K|apply st|(apply zk;intro K U)|refine zY ?_|refine BN (c1.use ?_)|fail)<;>conv=>whnf)
    all_goals exact AI ⟨rfl,hs⟩
   rw[EA];have c2:=gu s (i:Int) hs64 (by omega) (by omega);have hlits:=PB _ hfa.1;have hcl:=SA _ (Bl _ hfa.1);have hcas:=mQ (Bd p m).fact hfa.1 (by have:=hfa.2;omega);have hlv:=hfa.2;simp only[BM,A9,Cc]at hmm;have hm2:ms[((i:Nat):Int).toNat]? =some m:=by rw[GB];exact hm
   rw[GB]at c2;clear hfa;generalize Bd p m=x at *
   have hT:aF 210 [] [.p nN 0,.rp [eI i]] [.box nN [gp g fi ca p gen ms s many nN]] (JZ tog (WC p ms s many (i+1))) (fun y=>(∀z∈y,Dj (AL p) z)/\y.length<=12*(i+1)):=by
    rintro y b' ⟨hy1,hy2⟩ Z hs;have hi:=ih (i+1) y b' (by omega) hy1 hy2;have hwi:IntKind.i64.wrap ((i:Int)+1)=((i+1:Nat):Int):=by rw[wrap64 (by omega) (by omega)];omega
    show Au zP 210 [L6 y b',.p nN 0,.rp [eI i]] Z _;refine xi kZ ?_;refine zz ?_;(repeat clear U K);repeat intro K U
    rw[hwi];refine BN (Au.mono (hi Z hs) ?_);clear hs;rintro r Z ⟨rfl,hs⟩;refine zz ?_;(repeat clear U K);repeat intro K U
    exact AI ⟨rfl,hs⟩
   refine Yp kZ ?_
   conv=>whnf
   repeat'((first|clear U K|apply st|(apply zk;intro K U)|refine zY ?_|refine rk ?_ ?_|exact fun s e=>by cases e;rfl|refine BN (c1.use ?_)|refine c2.use ?_|(refine zb (fun hc=>?_) (fun hc=>?_)<;>try exact⟨⟩)|fail)<;>conv=>whnf)
   all_goals try(exfalso;simp at hc;omega)
   refine Au.mono (hcas (!s.testBit i) 210 [] [.p nN 0,.rp [eI i]] _ _ _ l b hT (fun c hc=>⟨fun z hz=>(Du.1 hz).elim (hl z) (hlits _ c hc z),?_⟩) (by omega) Z hs) ?_
   .have:=hcl _ c hc
    rw[NW];omega
   clear hs;rintro r Z ⟨rfl,hs⟩;refine zz ?_;(repeat clear U K);repeat intro K U
   all_goals exact AI ⟨rfl,hs⟩
def rN (h:YS p ms) (hcan:Yb g fi ca (AL p) tog) {s many:Nat} (hs64:s<18446744073709551616) (hmn:many<=ms.length):Pure zP 207 [eU s,eI many,.rp [.f (.func g) fi ca],.rp (Zv p gen ms)] (.b (GP tog (Jk p ms) (Ck s many))):=by
 refine Pure.of ?_;refine xk kZ ?_;have hs:=Sn
 conv=>whnf
 repeat'((first|clear U K|apply st|(apply zk;intro K U)|refine zY ?_|refine zs fun Z hs=>?_|refine zo fun nn hnn Z hs=>?_|fail)<;>conv=>whnf)
 refine BN (Au.mono (o0 h hcan hs64 hmn many 0 [] true (by omega) (fun x hx=>by cases hx) (by simp) _ hs) ?_);clear hs;rintro r Z ⟨rfl,hs⟩;refine zz ?_;(repeat clear U K);repeat intro K U
 exact AI rfl
end
end Go.Gl
namespace Go.Gl
open Go.Proofs
def ku {w:AH} (hw:DB w) {ls:List Fact} (h: ∀x∈ls,Dj w x) (hlen:ls.length<900):FC w (kg ls):=by
 have hadd:=P0 (by have:=hw.1.1;omega) h;have hr:=aW hw h hlen;have hW: ∀x∈ls,EC w x:=fun x hx=>KQ (h x hx)
 refine⟨fun a p=>?_,fun a p=>?_,fun a p hpl=>?_,fun a p s hs=>AAh hW hs⟩
 .obtain⟨h1,h2,h3,h4⟩:=ir hadd a p
  exact⟨h1,h2,by omega,by omega⟩
 .rw[(Mf (Gm ls a p).core).1]
  exact hr.low a p
 .have h0:=hr.short a p hpl
  refine List.eq_nil_iff_forall_not_mem.2 fun s hs=>?_
  have:=((Gm ls a p).AG s).1 hs;rw[h0]at this;cases this
attribute [local irreducible] Au Am Ab AR AK AY AQ AS AJ AX AN AP Ao Az Sat AU Ax Ad W
def kH {kf:Int->List Int->Kn} {L:Nat} (g:FuncId) (fi ca:List V) (can:Int->Bool) (hcan: ∀a:Int,0<=a->a<3-> ∀es,B9 kf es->BT zP g (fi++[Cd a []]++ca) (CA L es) fun r post=>r= .ret (.b (can a))/\Js kf L es post) {es:List B5} (h:B9 kf es) :
    BT zP 141 [.f (.func g) fi ca] (CA L es) fun r post=>r= .ret (.b ((BV 3).all can))/\Js kf L es post:=by
 intro Z hs;have hM:=Mx;have hT:(BV 3).all can=(BV 3).all can:=rfl;generalize hR:(BV 3).all can=R at hT ⊢;refine yS kZ ?_;refine zz ?_;(repeat clear U K);repeat intro K U
 refine Bw 3 (fun k (_:List B5)=>[(4,eI (A6 k))]) (fun _ x=>CA L x) (fun k x=>(B9 kf x/\LR es x)/\R=((BV 3).drop k).all can) es rfl ⟨⟨h,.refl _⟩,hR.symm⟩ hs ?_;clear hs hR hT;rintro k x Z hk ⟨⟨hi,hx⟩,hn⟩ hs;have hck:A6 k=k:=Ae (by omega);rcases Nat.lt_or_ge k 3 with hlt|hge
 .rw[drop_cons (Qq hlt),KE]at hn
  have hc1:=hcan (A6 k) (by omega) (by omega) x hi;have e:can (A6 k)=can (k:Int):=by rw[hck]
  rw[e]at hc1;cases hB:can (k:Int)<;>rw[hB]at hn hc1
  all_goals
   conv=>whnf
   repeat'((first|clear U K|apply st|(apply zk;intro K U)|refine zY ?_|(refine zb (fun hc=>?_) (fun hc=>?_)<;>try exact⟨⟩)|fail)<;>conv=>whnf)
   refine BN (hc1.use (rest:=[]) (by simpa using hs) ?_);clear hs;rintro r post Z ⟨rfl,es2,hx2,hi2,rfl⟩ hs;rw[GA]at hs;refine zz ?_;(repeat clear U K);repeat intro K U
  .exact AI ⟨_,⟨by rw[hn];rfl,es2,hx.trans hx2,hi2,rfl⟩,hs⟩
  .exact⟨hlt,es2,rfl,⟨⟨hi2,hx.trans hx2⟩,by rw[hn];rfl⟩,hs⟩
 .rw[List.drop_of_length_le (by rw[DQ];omega)]at hn
  conv=>whnf
  repeat'((first|clear U K|apply st|(apply zk;intro K U)|refine zY ?_|(refine zb (fun hc=>?_) (fun hc=>?_)<;>try exact⟨⟩)|fail)<;>conv=>whnf)
  all_goals try(exfalso;omega)
  all_goals exact AI ⟨_,⟨by rw[hn];rfl,x,hx,hi,rfl⟩,hs⟩
end Go.Gl
namespace Go.Gl
open Go.Proofs
abbrev zF (w:AH) (us:List Nat) (L:Nat) (cs:List Int) (f:Bool):List V:=[.rp (gW w us),.m L,.l (iL cs) f]
attribute [local irreducible] Au Am Ab AR AK AY AQ AS AJ AX AN AP Ao Az Sat AU Ax Ad W
def Ty (w : AH) (hw:DB w) {kf:Int->List Int->Kn} (hr:FC w kf) (cs:List Int) (f:Bool) (hcs:cs.length<=3) {a:Int} (ha:0<=a) {p:List Int} (hp:p.length<=2) (fit:Nat->Bool) (hfit:p= []/\fit=Jj cs a\/p≠[]/\fit=fun _=>true) (can:Int->Bool) {L:Nat}
    (hcan: ∀s∈(kf a p).AG,∀es,B9 kf es->BT zP 145 [.a (zF w (CJ w.parents) L cs f),Cd a (p++[s])] (CA L es) fun r post=>r= .ret (.b (can s))/\Js kf L es post) {es:List B5} (h:B9 kf es) :
    BT zP 145 [.a (zF w (CJ w.parents) L cs f),Cd a p] (CA L es) fun r post=>r= .ret (.b ((List.range (3+w.parents.length)).any fun c=>decide (1<=c)&&(fit c&&V5 w kf a p can c)))/\Js kf L es post:=by
 intro Z hs;have hM:=Mx;have hu:zB (CJ w.parents):=H6 _ _ (by have:=hw.1.1;omega);have hul:(CJ w.parents).length=3+w.parents.length:=EG _ _;have hwp:=hw.1.1;have hint:=fun es (h:B9 kf es)=>intG w hr h (L:=L) (a:=a) hp
 have hnon:=fun es (h:B9 kf es)=>AAV w hr h (L:=L) (a:=a) hp
 have hobj:=fun up hup es (hi:B9 kf es)=>ou w hw (CJ w.parents) hr hp up hup 145 [.a (zF w (CJ w.parents) L cs f)] [] can (L:=L) hcan (es:=es) hi
 have hcP: ∀c,V5 w kf a p can c=if c=1 then Hs kf a p else if c=2 then Et kf a p else Vq w kf a p ((CJ w.parents).getD c 0) can:=fun _=>rfl
 generalize V5 w kf a p can=cP at *;generalize CJ w.parents=us at *;have eul:((us.map fun u=>[eU u]).length:Int)=us.length:=by simp
 have hR0:((List.range (3+w.parents.length)).any fun c=>decide (1<=c)&&(fit c&&cP c))=((List.range us.length).drop 1).any fun c=>decide (1<=c)&&(fit c&&cP c):=by
  rw[hul,show 3+w.parents.length=(2+w.parents.length)+1 by omega,List.range_succ_eq_map];simp
 generalize ((List.range (3+w.parents.length)).any fun c=>decide (1<=c)&&(fit c&&cP c))=R at *;refine yP kZ ?_;refine zz ?_;(repeat clear U K);repeat intro K U
 refine Bw (us.length - 1) (fun k (_:List B5)=>[(5,eI ((k+1:Nat):Int))]) (fun _ x=>CA L x) (fun k x=>(B9 kf x/\LR es x)/\R=((List.range us.length).drop (k+1)).any fun c=>decide (1<=c)&&(fit c&&cP c)) es rfl ⟨⟨h,.refl _⟩,hR0⟩ hs ?_;clear hs hR0;rintro k x Z hk ⟨⟨hi,hx⟩,hn⟩ hs;have hwk:IntKind.i64.wrap (((k+1:Nat):Int)+1)=((k+1+1:Nat):Int):=by rw[wrap64 (by omega) (by omega)];omega
 rcases Nat.lt_or_ge k (us.length - 1)with hlt|hge
 .have hrk : (List.range us.length)[k+1]? =some (k+1):=List.getElem?_range (by omega)
  rw[drop_cons hrk,PV,decide_eq_true (show 1<=k+1 by omega),EA]at hn;obtain⟨u,hu2⟩: ∃u,us[k+1]? =some u:=⟨_,Cr (by omega)⟩
  have hu3:us[(((k+1:Nat):Int)).toNat]? =some u:=by rw[GB];exact hu2
  have hug:us.getD (k+1) 0=u:=by rw[C4,hu2];rfl
  have hu64:u<18446744073709551616:=hu u (Bo hu2);have hck:=hcP (k+1);rw[hug]at hck
  have d216:k+1<3->BT zP 216 [.a (gv w us L),Cd a p,eI ((k+1:Nat):Int)] (CA L x) fun r post=>r= .ret (.b (cP (k+1)))/\Js kf L x post:=fun h3=>by
   rcases k with _|_|k
   .rw[hck];exact hint x hi
   .rw[hck];exact hnon x hi
   .omega
  have d217:3<=k+1->BT zP 217 [.a (gv w us L),Cd a p,eU u,.f (.func 145) [.a (zF w us L cs f)] []] (CA L x) fun r post=>r= .ret (.b (cP (k+1)))/\Js kf L x post:=fun h3=>by
   rw[hck,if_neg (by omega),if_neg (by omega)];exact hobj u hu64 x hi
  clear hck hint hnon hobj hcP;generalize cP (k+1)=B at *;rcases hfit with⟨rfl,rfl⟩|⟨hpn,rfl⟩
  .by_cases hac:a<(cs.length:Int)
   .obtain ⟨y,hy⟩: ∃y,cs[a.toNat]? =some y:=⟨_,Cr (by omega)⟩
    have hfv:Jj cs a (k+1)=(y==((k+1:Nat):Int)):=by
     rw[Jj,decide_eq_false (by omega),Bool.false_or,C4,hy];rfl
    rw[hfv]at hn;by_cases hyk:y=((k+1:Nat):Int)
    .rw [DD.2 hyk,EA]at hn
     cases B
     all_goals
      conv=>whnf
      repeat'((first|clear U K|apply st|(apply zk;intro K U)|refine zY ?_|(refine zb (fun hc=>?_) (fun hc=>?_)<;>try exact⟨⟩)|fail)<;>conv=>whnf)
      all_goals try(exfalso;omega)
      all_goals try(exfalso;simp at hc;done)
      all_goals
       first
        | refine(d216 (by omega)).use (rest:=[]) (by simpa using hs) ?_
        | refine(d217 (by omega)).use (rest:=[]) (by simpa using hs) ?_
       clear hs;rintro r post Z ⟨rfl,es2,hx2,hi2,rfl⟩ hs;rw[GA]at hs
       conv=>whnf
       repeat'((first|clear U K|apply st|(apply zk;intro K U)|refine zY ?_|(refine zb (fun hc=>?_) (fun hc=>?_)<;>try exact⟨⟩)|fail)<;>conv=>whnf)
       first
        | exact AI ⟨_,⟨by rw[hn];rfl,es2,hx.trans hx2,hi2,rfl⟩,hs⟩
        | exact⟨by omega,es2,by rw[hwk];rfl,⟨⟨hi2,hx.trans hx2⟩,by rw[hn];rfl⟩,hs⟩
    .rw[beq_eq_false_iff_ne.2 hyk,Bool.false_and,Bool.false_or]at hn
     conv=>whnf
     repeat'((first|clear U K|apply st|(apply zk;intro K U)|refine zY ?_|(refine zb (fun hc=>?_) (fun hc=>?_)<;>try exact⟨⟩)|fail)<;>conv=>whnf)
     all_goals try(exfalso;omega)
     all_goals try(exfalso;simp at hc;done)
     all_goals try exact absurd (by assumption) hyk
     all_goals try exact absurd rfl (by assumption)
     all_goals exact⟨by omega,x,by rw[hwk];rfl,⟨⟨hi,hx⟩,hn⟩,hs⟩
   .have hfv:Jj cs a (k+1)=true:=by rw[Jj,decide_eq_true (by omega)];rfl
    rw[hfv,EA]at hn;cases B
    all_goals
     conv=>whnf
     repeat'((first|clear U K|apply st|(apply zk;intro K U)|refine zY ?_|(refine zb (fun hc=>?_) (fun hc=>?_)<;>try exact⟨⟩)|fail)<;>conv=>whnf)
     all_goals try(exfalso;omega)
     all_goals try(exfalso;simp at hc;done)
     all_goals
      first
       | refine(d216 (by omega)).use (rest:=[]) (by simpa using hs) ?_
       | refine(d217 (by omega)).use (rest:=[]) (by simpa using hs) ?_
      clear hs;rintro r post Z ⟨rfl,es2,hx2,hi2,rfl⟩ hs;rw[GA]at hs
      conv=>whnf
      repeat'((first|clear U K|apply st|(apply zk;intro K U)|refine zY ?_|(refine zb (fun hc=>?_) (fun hc=>?_)<;>try exact⟨⟩)|fail)<;>conv=>whnf)
      first
       | exact AI ⟨_,⟨by rw[hn];rfl,es2,hx.trans hx2,hi2,rfl⟩,hs⟩
       | exact⟨by omega,es2,by rw[hwk];rfl,⟨⟨hi2,hx.trans hx2⟩,by rw[hn];rfl⟩,hs⟩
  .rw [EA]at hn
   have hpl:p.length≠0:=fun e=>hpn (YE.1 e)
   cases B
   all_goals
    conv=>whnf
    repeat'((first|clear U K|apply st|(apply zk;intro K U)|refine zY ?_|(refine zb (fun hc=>?_) (fun hc=>?_)<;>try exact⟨⟩)|fail)<;>conv=>whnf)
    all_goals try(exfalso;omega)
    all_goals try(exfalso;simp at hc;done)
    all_goals
     first
      | refine(d216 (by omega)).use (rest:=[]) (by simpa using hs) ?_
      | refine(d217 (by omega)).use (rest:=[]) (by simpa using hs) ?_
     clear hs;rintro r post Z ⟨rfl,es2,hx2,hi2,rfl⟩ hs;rw[GA]at hs
     conv=>whnf
     repeat'((first|clear U K|apply st|(apply zk;intro K U)|refine zY ?_|(refine zb (fun hc=>?_) (fun hc=>?_)<;>try exact⟨⟩)|fail)<;>conv=>whnf)
     first
      | exact AI ⟨_,⟨by rw[hn];rfl,es2,hx.trans hx2,hi2,rfl⟩,hs⟩
      | exact⟨by omega,es2,by rw[hwk];rfl,⟨⟨hi2,hx.trans hx2⟩,by rw[hn];rfl⟩,hs⟩
 .rw[List.drop_of_length_le (by rw[List.length_range];omega),List.any_nil]at hn
  conv=>whnf
  repeat'((first|clear U K|apply st|(apply zk;intro K U)|refine zY ?_|(refine zb (fun hc=>?_) (fun hc=>?_)<;>try exact⟨⟩)|fail)<;>conv=>whnf)
  all_goals try(exfalso;omega)
  all_goals exact AI ⟨_,⟨by rw[hn],x,hx,hi,rfl⟩,hs⟩
def qj (w:AH) (hw:DB w) {kf:Int->List Int->Kn} (hr:FC w kf) (cs:List Int) (f:Bool) (hcs:cs.length<=3) {a:Int} (ha:0<=a) {L:Nat}: ∀(d:Nat) (fit:Nat->Bool) (p:List Int),p.length+d=2->(p= []/\fit=Jj cs a\/p≠[]/\fit=fun _=>true)-> ∀es,B9 kf es->
    BT zP 145 [.a (zF w (CJ w.parents) L cs f),Cd a p] (CA L es) fun r post=>r= .ret (.b (Sg w kf a d fit p))/\Js kf L es post:=by
 intro d
 induction d with
 | zero=>
   intro fit p hp hfit es h;rw[Sg];exact Ty w hw hr cs f hcs ha (by omega) fit hfit _ (fun s hs=>by rw[hr.short a p (by omega)]at hs;cases hs) h
 | succ d ih=>
   intro fit p hp hfit es h;rw[Sg];exact Ty w hw hr cs f hcs ha (by omega) fit hfit _ (fun s _ es h=>ih (fun _=>true) (p++[s]) (by simp;omega) (.inr ⟨by simp,rfl⟩) es h) h
def oD (w:AH) (hw:DB w) (cs:List Int) (f:Bool) (hcs:cs.length<=3):Yb 144 [] [.rp [.rp (gW w (CJ w.parents))],.rp [.l (iL cs) f]] w (cd w cs):=by
 intro l b hl hlen;refine Pure.of ?_;show Au zP 144 [L6 l b,.rp [.rp (gW w (CJ w.parents))],.rp [.l (iL cs) f]] _ _;have hr:=ku hw hl hlen;have hlk:=mo w (CJ w.parents) l b (P0 (by have:=hw.1.1;omega) hl) hlen;have hT:cd w cs l=(BV 3).all fun a=>Sg w (kg l) a 2 (Jj cs a) []:=rfl
 rw[hT];refine yQ kZ ?_;have hs:=Sn;refine zz ?_;(repeat clear U K);repeat intro K U
 refine hlk.use (rest:=[]) (by simpa using hs) ?_;clear hs;rintro r post Z ⟨L,es,rfl,hinv,rfl⟩ hs;rw[GA]at hs
 conv=>whnf
 repeat'((first|apply st|refine rk ?_ ?_|exact fun s e=>by cases e;rfl|fail)<;>conv=>whnf)
 refine(kH 145 [.a (zF w (CJ w.parents) L cs f)] [] (fun a=>Sg w (kg l) a 2 (Jj cs a) []) (fun a h0 _ es hi=>qj w hw hr cs f hcs h0 2 (Jj cs a) [] rfl (.inl ⟨rfl,rfl⟩) es hi) hinv).use (rest:=[]) (by simpa using hs) ?_;clear hs;rintro r post Z ⟨rfl,es2,hx2,hi2,rfl⟩ hs;refine zz ?_;(repeat clear U K);repeat intro K U
 exact AI rfl
end Go.Gl
namespace Go.Gl
open Go.Proofs
attribute [local irreducible] Au Am Ab AR AK AY AQ AS AJ AX AN AP Ao Az Sat AU Ax Ad W
abbrev rD (p:Prog) (gen:Int):List V:=BG p++[eI gen,.l (iL (Es p gen)) false]
abbrev zV:List V:=[.l [] true,eI 0,.l [] true,.l [] true,.l [] true,eI 0,eI 0,.l [] true]
def ABQ (p:Prog) (gen:Int):Pure zP 131 [.a (BG p),eI gen] (.t [.a (if Ec p gen then rD p gen else zV),.b (Ec p gen)]):=by
 refine Pure.fit (by kernel_rfl) fun hf=>?_
 have hP:=Ju hf.1;have⟨p1,p2,p3,p4⟩:=Gi hf.1;have hM:=Mx;have c1:=Xg p;rw[Ec];cases h1:(BY p).isSome<;>rw[h1]at c1
 .rw[if_neg (by decide)]at c1
  refine Yr kZ ?_;have hs:=Sn;exact zW
 rw[if_pos rfl]at c1;have h16:=(look_ok h1).many;cases h2:Sd p gen
 .simp only[Sd,Bool.and_eq_false_iff,decide_eq_false_iff_not]at h2
  refine Yr kZ ?_;have hs:=Sn
  conv=>whnf
  repeat'((first|clear U K|apply st|(apply zk;intro K U)|refine zY ?_|refine zs fun Z hs=>?_|refine zC ?_|(refine zb (fun hc=>?_) (fun hc=>?_)<;>try exact⟨⟩)|refine zo fun nn hnn Z hs=>?_|fail)<;>conv=>whnf)
  all_goals first
   | exact AF rfl
   | (exfalso;simp at *;omega)
 have h2r:=h2;simp only[Sd,A9,Cc]at h2r;refine Yr kZ ?_;have hs:=Sn
 conv=>whnf
 repeat'((first|clear U K|apply st|(apply zk;intro K U)|refine zY ?_|refine zs fun Z hs=>?_|refine zC ?_|(refine zb (fun hc=>?_) (fun hc=>?_)<;>try exact⟨⟩)|refine zo fun nn hnn Z hs=>?_|fail)<;>conv=>whnf)
 rename_i n4 _ _ _ _ _ _ _;refine Bw p.methods.length (fun k (_:V)=>[(30,eI (A6 k))]) (fun k v=>[.box nn (BG p++[eI gen,v]),.box n4 zV,.own v 1 (iL (cU p gen k))]) (fun _ _=>True) (.l [] true) rfl trivial (Dw hs 1) ?_;clear hs;rintro k v Z hk - hs;have hal:=Ps p gen k;rcases A7 p.methods hk with⟨x,hx,hlt⟩|hke
 .have hck:A6 k=k:=Ae (by omega)
  have hxe:=bA hx;have hst:=XC p gen k;rw[hxe]at hst;generalize cU p gen k=zl at *;have hll:zl.length<AZ/\(zl.length+1)*8<=140737488355328:=by omega
  by_cases hg:x.gen=gen
  .rw[if_pos (DD.2 hg)]at hst
   conv=>whnf
   repeat'((first|clear U K|apply st|(apply zk;intro K U)|refine zY ?_|refine zs fun Z hs=>?_|refine aq fun v Z hs hsl=>?_|(refine zb (fun hc=>?_) (fun hc=>?_)<;>try exact⟨⟩)|refine zo fun nn hnn Z hs=>?_|fail)<;>conv=>whnf)
   exact⟨hlt,_,rfl,trivial,by rw[hst,<-hck];exact hs.less (Ku _ _)⟩
  .rw[if_neg (by simpa using hg)]at hst
   conv=>whnf
   repeat'((first|clear U K|apply st|(apply zk;intro K U)|refine zY ?_|refine zs fun Z hs=>?_|(refine zb (fun hc=>?_) (fun hc=>?_)<;>try exact⟨⟩)|refine zo fun nn hnn Z hs=>?_|fail)<;>conv=>whnf)
   exact⟨hlt,_,rfl,trivial,by rw[hst];exact hs.less (Ku _ _)⟩
 .rw[hke]at hs
  refine zz ?_;(repeat clear U K);repeat intro K U
  have o1:=Hr hs 2 rfl;refine Ih hs 1 rfl rfl rfl (by simp[BG,o1]) (by decide) fun Z hs=>?_
  clear o1;refine zz ?_;(repeat clear U K);repeat intro K U
  exact A8 (.t (.cons (.a (.cons (.refl _) (.cons (.refl _) (.cons (.refl _) (.cons (.refl _) (.cons (.refl _) (.cons (.refl _) (.cons (.refl _) (.cons (hs.GC 2 rfl) .nil))))))))) (.cons (.refl _) .nil)))
def AAa (p:Prog) (gen:Int):Pure zP 132 [.a (rD p gen)] (eI (if(Es p gen).length<=8 then 0 else 3)):=by
 have e1:((iL (Es p gen)).length:Int)=(Es p gen).length:=by simp
 refine yY kZ ?_;have hs:=Sn
 conv=>whnf
 repeat'((first|clear U K|apply st|(apply zk;intro K U)|refine zY ?_|(refine zd (fun hc=>?_) (fun hc=>?_)<;>try exact⟨⟩)|fail)<;>conv=>whnf)
 .exact AF (by rw[if_neg (by omega)])
 .exact AF (by rw[if_pos (by omega)])
def iD (a b c:Bool):Pure zP 134 [.b a,.b b,.b c] (eI (if a then 4 else if b then 3 else if c then 2 else 1)):=by
 cases a<;>cases b<;>cases c
 all_goals
  refine yW kZ ?_;have hs:=Sn;exact zW
def len0 (l:List Int):(((iL l).length:Int)==0)=decide (l.length=0):=by
 rw[B2,IZ,DD,Cc];omega
def tL (p:Prog) (gen:Int) (l:List Int) (f:Bool) (h:Ec p gen=true) (hB:Sa p gen l=true):Pure zP 62 [.a (rD p gen),.l (iL l) f] (eI (Zt p l)):=by
 rw[Ec,A9]at h;have hok:=look_ok h.1;have c1:=y1 p l f (Nat.le_trans (kq hB) (Nat.le_trans hok.many (by decide)));rw[UX,h.1,OA hB,Bool.and_self,if_pos rfl]at c1;rw[Zt];clear h hok hB;generalize E9 (Ay p) p l=x at *;obtain⟨⟨ar,Zx,be,pr,prt,af⟩,b⟩:=x;cases b
 .rw[show gk (⟨ar,Zx,be,pr,prt,af⟩,false)=(zA,5) from rfl]at c1
  refine r9 kZ ?_;have hs:=Sn
  conv=>whnf
  repeat'((first|clear U K|apply st|(apply zk;intro K U)|refine zY ?_|refine zs fun Z hs=>?_|refine c1.use ?_|refine Pure.use (iD _ _ _) ?_|(refine zb (fun hc=>?_) (fun hc=>?_)<;>try exact⟨⟩)|refine zo fun nn hnn Z hs=>?_|fail)<;>conv=>whnf)
  all_goals exact AF rfl
 rw[show gk (⟨ar,Zx,be,pr,prt,af⟩,true)=(⟨ar,Zx,be,pr,prt,af⟩,0) from rfl]at c1;rw[iQ];cases ha:decide (ar.length=0)<;>cases hp:decide (pr.length=0)<;>cases Zx<;>cases prt
 all_goals
  first|replace ha:=of_decide_eq_true ha|replace ha:=of_decide_eq_false ha
  first|replace hp:=of_decide_eq_true hp|replace hp:=of_decide_eq_false hp
  refine r9 kZ ?_;have hs:=Sn
  conv=>whnf
  repeat'((first|clear U K|apply st|(apply zk;intro K U)|refine zY ?_|refine zs fun Z hs=>?_|refine c1.use ?_|refine Pure.use (iD _ _ _) ?_|(refine zb (fun hc=>?_) (fun hc=>?_)<;>try exact⟨⟩)|refine zo fun nn hnn Z hs=>?_|fail)<;>conv=>whnf)
  all_goals first|exact AF rfl|exact AF (by simp only[len0];simp[ha,hp])
def PN (p:Prog) (gen:Int) (b:Bool):Int:=if Ec p gen then(if b then(if(Es p gen).length<=8 then 0 else 3)else 2)else 2
abbrev YX (p:Prog) (gen:Int) (b:Bool):List V:=if Ec p gen&&b then rD p gen else zV
def QV {p:Prog} {gen:Int} (h:Ec p gen=false) (b:Bool):YX p gen b=zV/\PN p gen b=2:=by rw[YX,PN,h];exact⟨rfl,rfl⟩
def QU {p:Prog} {gen:Int}:YX p gen false=zV/\PN p gen false=2:=by
 rw[YX,PN,Bool.and_false];exact⟨rfl,by split<;>rfl⟩
def QT {p:Prog} {gen:Int} (h:Ec p gen=true):YX p gen true=rD p gen/\PN p gen true=if(Es p gen).length<=8 then 0 else 3:=by rw[YX,PN,h];exact⟨rfl,rfl⟩
def yr (p:Prog) (gen:Int) (k:Nat) (ca:List V) (b:Bool) (c2:Ec p gen=true->Pure zP k (.a (rD p gen)::ca) (.b b)):Pure zP 59 [.a (BG p),eI gen,.f (.func k) [] ca] (.t [.a (YX p gen b),eI (PN p gen b)]):=by
 have c1:=ABQ p gen;have c3:=AAa p gen;cases h1:Ec p gen<;>rw[h1]at c1
 .rw[(QV h1 b).1,(QV h1 b).2]
  rw[if_neg (by decide)]at c1;refine iA kZ ?_;have hs:=Sn;exact zW
 replace c2:=c2 h1;rw[if_pos rfl]at c1;cases b
 .rw[QU.1,QU.2]
  refine iA kZ ?_;have hs:=Sn
  conv=>whnf
  repeat'((first|clear U K|apply st|(apply zk;intro K U)|refine zY ?_|refine zs fun Z hs=>?_|refine c1.use ?_|refine BN (c2.use ?_)|refine zo fun nn hnn Z hs=>?_|fail)<;>conv=>whnf)
  all_goals exact AF rfl
 .rw[(QT h1).1,(QT h1).2]
  refine iA kZ ?_;have hs:=Sn
  conv=>whnf
  repeat'((first|clear U K|apply st|(apply zk;intro K U)|refine zY ?_|refine rk ?_ ?_|exact fun s e=>by cases e;rfl|refine zs fun Z hs=>?_|refine c1.use ?_|refine BN (c2.use ?_)|refine c3.use ?_|refine zo fun nn hnn Z hs=>?_|fail)<;>conv=>whnf)
  all_goals exact AF rfl
end Go.Gl
namespace Go.Gl
open Go.Proofs
def L8 (so:Nat->Nat->Bool):Nat->Nat->Nat->List Nat
 | 0,many,s=>if so s many then [s]else []
 | d+1,many,s=>if so s many then L8 so d (many+1) s++L8 so d (many+1) (s|||2 ^ many)else []
def SE (s n:Nat):Ck s (n+1)=Ck s n++[s.testBit n]:=by simp[Ck,List.range_succ]
def SD {s n:Nat} (h:s<2 ^ n):Ck (s|||2 ^ n) (n+1)=Ck s n++[true]/\Ck s (n+1)=Ck s n++[false]/\s|||2 ^ n<2 ^ (n+1)/\s<2 ^ (n+1):=by
 have hp:2 ^ n<2 ^ (n+1):=Nat.pow_lt_pow_right (by omega) (by omega);have hn:s.testBit n=false:=Nat.testBit_lt_two_pow h;refine⟨?_,by rw[SE,hn],Nat.or_lt_two_pow (by omega) hp,by omega⟩;rw[SE,FK,hn];simp only[beq_self_eq_true,Bool.or_true];congr 1;refine List.map_congr_left fun i hi=>?_
 rw[FK,beq_eq_false_iff_ne.2 (by have:=List.mem_range.1 hi;omega),Bool.or_false]
def Ui {so:Nat->Nat->Bool} {E:List Bool->Bool}: ∀(d many s:Nat),s<2 ^ many->(∀s n,n<=many+d->so s n=E (Ck s n))->(L8 so d many s).map (fun x=>Ck x (many+d))=GU E d (Ck s many)/\ ∀x∈L8 so d many s,x<2 ^ (many+d)
 | 0,many,s,hs,hE=>by
   rw[L8,GU,hE s many (by omega)];split
   .exact⟨rfl,fun x hx=>by rw[KF.1 hx];exact hs⟩
   .exact⟨rfl,fun x hx=>by cases hx⟩
 | d + 1,many,s,hs,hE=>by
   obtain⟨b1,b2,b3,b4⟩:=SD hs;obtain⟨i1,i2⟩:=Ui (so:=so) (E:=E) d (many+1) s b4 (fun s n hn=>hE s n (by omega));obtain⟨j1,j2⟩:=Ui (so:=so) (E:=E) d (many+1) (s|||2 ^ many) b3 (fun s n hn=>hE s n (by omega));rw[b2]at i1;rw[b1]at j1;rw[show many+1+d=many+(d+1) by omega]at i1 i2 j1 j2;rw[L8,GU,hE s many (by omega)];split
   .refine⟨by rw[SN,i1,j1],fun x hx=>?_⟩
    rcases Du.1 hx with hx|hx
    .exact i2 x hx
    .exact j2 x hx
   .exact⟨rfl,fun x hx=>by cases hx⟩
abbrev soV (g:FuncId) (fi ca:List V) (p:Prog) (gen:Int) (ms:List Int):V:= .f (.func 207) [] [.rp [.f (.func g) fi ca],.rp (Zv p gen ms)]
abbrev AAI (p:Prog) (gen:Int) (ms:List Int) (yv:V) (nS nW:Nat):V:= .f (.func 211) [] [.p nS 0,.rp (Zv p gen ms),.rp [yv],.p nW 0]
section
variable {g:FuncId} {fi ca:List V} {p:Prog} {gen:Int} {ms:List Int} {tog:List Fact->Bool}
attribute [local irreducible] Au Am Ab AR AK AY AQ AS AJ AX AN AP Ao Az Sat AU Ax Ad W
def WY {α S:Type} (P:Program) (x:V) (ea:α->V) (HL:S->List At->Prop) (stp:α->S->Bool×S) (D:α->S->Prop) (pre:List At):Prop:=
 ∀y s,D y s-> ∀l Z,HL s l->Sat Z (pre++l)->Ao P x [ea y] Z fun r Z'=>r= .ret (.b (stp y s).1)/\ ∃l',HL (stp y s).2 l'/\Sat Z' (pre++l')
def WY.use {α S:Type} {P:Program} {x:V} {ea:α->V} {HL:S->List At->Prop} {stp:α->S->Bool×S} {D:α->S->Prop} {pre:List At} (h:WY P x ea HL stp D pre) {y:α} {s:S} (hd:D y s) {l:List At} {Z:AE} (hl:HL s l) (hs:Sat Z (pre++l)) {k kp:V->AE->Prop} (hk: ∀l' Z',HL (stp y s).2 l'->Sat Z' (pre++l')->k (.b (stp y s).1) Z'):Ao P x [ea y] Z (qk k kp):=
 (h y s hd l Z hl hs).mono fun r Z' ⟨e,l',h1,h2⟩=>by rw[e];exact hk l' Z' h1 h2
abbrev nT (g:FuncId) (fi ca:List V) (p:Prog) (gen:Int) (ms:List Int) (yv:V) (nS nW:Nat):List At:=[.box nW [AAI p gen ms yv nS nW],.box nS [soV g fi ca p gen ms]]
def nt {S:Type} (h:YS p ms) (hcan:Yb g fi ca (AL p) tog) {fn:Fn} {fiy cay:List V} {HL:S->List At->Prop} {stp:Nat->S->Bool×S} {D:Nat->S->Prop} {nS nW:Nat}
    (hy:WY zP (.f fn fiy cay) eU HL stp D (nT g fi ca p gen ms (.f fn fiy cay) nS nW)) :
    ∀(d many s:Nat) (z0:S),many+d=ms.length->s<2 ^ many->SX stp D (L8 (fun s n=>GP tog (Jk p ms) (Ck s n)) d many s) z0-> ∀l Z,HL z0 l->Sat Z (nT g fi ca p gen ms (.f fn fiy cay) nS nW++l)->
    Au zP 211 [eU s,eI many,.p nS 0,.rp (Zv p gen ms),.rp [.f fn fiy cay],.p nW 0] Z fun r Z'=>r= .ret (.b (CQ stp (L8 (fun s n=>GP tog (Jk p ms) (Ck s n)) d many s) z0).1)/\
     ∃l',HL (CQ stp (L8 (fun s n=>GP tog (Jk p ms) (Ck s n)) d many s) z0).2 l'/\Sat Z' (nT g fi ca p gen ms (.f fn fiy cay) nS nW++l'):=by
 have hM:=Mx;have hfew:=h.sV;intro d
 induction d with
 | zero=>
   intro many s z0 hmd hs2 hok l Z hl hs;have hs64:s<18446744073709551616:=Nat.lt_of_lt_of_le hs2 (Nat.le_trans (Nat.pow_le_pow_right (by omega) (show many<=8 by omega)) (by decide));have c1:=rN (gen:=gen) h hcan (s:=s) (many:=many) hs64 (by omega);rw[L8]at hok ⊢;cases hB:GP tog (Jk p ms) (Ck s many)<;>rw[hB]at c1
   .simp only[hB,L2,if_false]at hok ⊢
    refine Ur kZ ?_
    conv=>whnf
    repeat'((first|clear U K|apply st|(apply zk;intro K U)|refine zY ?_|refine BN (c1.use ?_)|fail)<;>conv=>whnf)
    all_goals exact AI ⟨rfl,l,hl,hs⟩
   .simp only[hB,if_true]at hok ⊢
    rw[RJ];refine Ur kZ ?_
    conv=>whnf
    repeat'((first|clear U K|apply st|(apply zk;intro K U)|refine zY ?_|refine BN (c1.use ?_)|(refine zb (fun hc=>?_) (fun hc=>?_)<;>try exact⟨⟩)|fail)<;>conv=>whnf)
    all_goals try(exfalso;simp at hc;omega)
    refine hy.use hok.1 hl hs ?_;clear hs;intro l' Z hl' hs;refine zz ?_;(repeat clear U K);repeat intro K U
    exact AI ⟨rfl,l',hl',hs⟩
 | succ d ih=>
   intro many s z0 hmd hs2 hok l Z hl hs;have hs64:s<18446744073709551616:=Nat.lt_of_lt_of_le hs2 (Nat.le_trans (Nat.pow_le_pow_right (by omega) (show many<=8 by omega)) (by decide));have c1:=rN (gen:=gen) h hcan (s:=s) (many:=many) hs64 (by omega);obtain⟨-,-,b3,b4⟩:=SD hs2;rw[L8]at hok ⊢;cases hB:GP tog (Jk p ms) (Ck s many)<;>rw[hB]at c1
   .simp only[hB,L2,if_false]at hok ⊢
    refine Ur kZ ?_
    conv=>whnf
    repeat'((first|clear U K|apply st|(apply zk;intro K U)|refine zY ?_|refine BN (c1.use ?_)|fail)<;>conv=>whnf)
    all_goals exact AI ⟨rfl,l,hl,hs⟩
   .simp only[hB,if_true]at hok ⊢
    obtain⟨ok1,ok2⟩:=Ph hok;have i1:=ih (many+1) s z0 (by omega) b4 ok1;have i2:=fun z0 h=>ih (many+1) (s|||2 ^ many) z0 (by omega) b3 h
    have c2:=QW s (many:Int) hs64 (by omega) (by omega);rw[GB]at c2;have hwi:IntKind.i64.wrap ((many:Int)+1)=((many+1:Nat):Int):=by rw[wrap64 (by omega) (by omega)];omega
    rw[<-hwi]at i1 i2;rw[NB];generalize L8 (fun s n=>GP tog (Jk p ms) (Ck s n)) d (many+1) s=A1 at *;generalize L8 (fun s n=>GP tog (Jk p ms) (Ck s n)) d (many+1) (s|||2 ^ many)=A2 at *;generalize hx1:CQ stp A1 z0=x1 at *;obtain⟨q1,z1⟩:=x1;dsimp only at i1 ok2 ⊢;refine Ur kZ ?_
    conv=>whnf
    repeat'((first|clear U K|apply st|(apply zk;intro K U)|refine zY ?_|refine BN (c1.use ?_)|(refine zb (fun hc=>?_) (fun hc=>?_)<;>try exact⟨⟩)|fail)<;>conv=>whnf)
    all_goals try(exfalso;simp at hc;omega)
    refine BN (Au.mono (i1 l Z hl hs) ?_);clear hs;rintro r Z ⟨rfl,l1,hl1,hs⟩;cases q1
    .conv=>whnf
     repeat'((first|clear U K|apply st|refine rk ?_ ?_|exact fun s e=>by cases e;rfl|fail)<;>conv=>whnf)
     exact AI ⟨rfl,l1,hl1,hs⟩
    .have i3:=i2 z1 (ok2 rfl)
     conv=>whnf
     repeat'((first|apply st|refine zY ?_|refine rk ?_ ?_|exact fun s e=>by cases e;rfl|refine zC ?_|fail)<;>conv=>whnf)
     refine BN (Au.mono (i3 l1 Z hl1 hs) ?_);clear hs;rintro r Z ⟨rfl,l2,hl2,hs⟩;refine zz ?_;(repeat clear U K);repeat intro K U
     exact AI ⟨rfl,l2,hl2,hs⟩
end
end Go.Gl
namespace Go.Gl
open Go.Proofs
abbrev Jr (ms:List Int) (s:Nat):List Int:=Cy ms (Ck s ms.length)
abbrev Vw (p:Prog) (tog:List Fact->Bool) (ms:List Int):List Nat:=L8 (fun s n=>GP tog (Jk p ms) (Ck s n)) ms.length 0 0
def Y4 {P:Program} {α S:Type} {L:Nat} {E:Env} {ps:List Nat} {a b:AV} {ea:α->V} {HB:S->List At->Prop} (le:S->sX) {stp:α->S->Bool×S} {D:α->S->Prop} {pre:List At} (hps:ps.length=1) (hD: ∀y s,D y s->le s= .ready)
    (h: ∀y s,D y s-> ∀l,HB s l-> ∀Z,Sat Z (l++pre)->W P a (Cb (W P b fun ex env' Z'=>Z' L=none->Qi L E (Bk P ps a b) (fun r Z'=>r= .ret (.b (stp y s).1)/\ ∃l',HB (stp y s).2 l'/\Sat Z' (.obj L (.loop (le (stp y s).2) E (Bk P ps a b))::(l'++pre))) ex env' Z')) (El ps [ea y] E) Z) :
    WY P (.f (.yield L) [] []) ea (fun s l=> ∃l',l= .obj L (.loop (le s) E (Bk P ps a b))::l'/\HB s l') stp D pre:=by
 rintro y s hd _ Z ⟨l',rfl,hl'⟩ hs
 have hs':Sat Z (.obj L (.loop .ready E (Bk P ps a b))::(l'++pre)):=by
  have:=hs.perm NV;rw[hD y s hd]at this;exact this
 show Nj P L [ea y] Z _;refine Nj.mono (Lu (hs'.get (i:=0) rfl) (by rw[hps];rfl) (h y s hd l' hl' _ hs'.del)) ?_;rintro r Z' ⟨e,l2,h1,h2⟩;exact⟨e,_,⟨l2,rfl,h1⟩,h2.perm (NV (l₁:=_::l2))⟩
section
variable {g:FuncId} {fi ca:List V} {p:Prog} {gen:Int} {ms:List Int} {tog:List Fact->Bool}
abbrev nK (g:FuncId) (fi ca:List V) (p:Prog) (gen:Int) (ms:List Int):V:= .f (.func 206) [] [.rp [.f (.func g) fi ca],.rp (Zv p gen ms)]
attribute [local irreducible] Au Am Ab AR AK AY AQ AS AJ AX AN AP Ao Az Sat AU Ax Ad W
def oH:Pure zP 139 [.a (Zv p gen ms),.f (.func g) fi ca] (nK g fi ca p gen ms):=by
 refine yT kZ ?_;have hs:=Sn;exact zW
def ue {S:Type} (h:YS p ms) (hcan:Yb g fi ca (AL p) tog) {fn:Fn} {fiy cay:List V} {HL:S->List At->Prop} {stp:Nat->S->Bool×S} {D:Nat->S->Prop}
    (hy: ∀nS nW,WY zP (.f fn fiy cay) eU HL stp D (nT g fi ca p gen ms (.f fn fiy cay) nS nW)) (z0:S) (hok:SX stp D (Vw p tog ms) z0) {l:List At} {Z:AE} (hl:HL z0 l) (hs:Sat Z l) :
    Au zP 206 [.f fn fiy cay,.rp [.f (.func g) fi ca],.rp (Zv p gen ms)] Z fun r Z'=>r= .ret (.t [])/\ ∃l',HL (CQ stp (Vw p tog ms) z0).2 l'/\Sat Z' l':=by
 refine xl kZ ?_
 conv=>whnf
 repeat'((first|clear U K|apply st|(apply zk;intro K U)|refine zY ?_|refine zs fun Z hs=>?_|refine zo fun nn hnn Z hs=>?_|fail)<;>conv=>whnf)
 refine BN (Au.mono (nt h hcan (hy _ _) ms.length 0 0 z0 (by omega) (by decide) hok l Z hl hs) ?_);clear hs;rintro r Z ⟨rfl,l',hl',hs⟩
 conv=>whnf
 repeat'((first|clear U K|apply st|fail)<;>conv=>whnf)
 exact AI ⟨rfl,l',hl',hs.less (by simp)⟩
def pB (h8:ms.length<=8) {s:Nat} (hs64:s<18446744073709551616):Pure zP 101 [.a (Zv p gen ms),eU s] (.l (iL (Jr ms s)) false):=by
 have hM:=Mx;refine yj kZ ?_;have hs:=Sn;refine zz ?_;(repeat clear U K);repeat intro K U
 refine Bw ms.length (fun k v=>[(5,v),(11,eI (A6 k))]) (fun k v=>[.own v 1 (iL (Cy ms ((Ck s ms.length).take k)))]) (fun _ _=>True) (.l [] true) rfl trivial (by simpa[Cy]using Dw hs 1) ?_;clear hs;rintro k v Z hk - hs;have hal:=Rr ms ((Ck s ms.length).take k);rw[Jd]at hal;rcases A7 ms hk with⟨x,hx,hlt⟩|hke
 .have hck:A6 k=k:=Ae (by omega)
  have hst:=O3 hx (XV (s:=s) hlt);have c1:=gu s (A6 k) hs64 (by omega) (by omega);rw[hck,GB,<-hck]at c1;generalize Cy ms ((Ck s ms.length).take k)=zl at *;have hll:zl.length<AZ/\(zl.length+1)*8<=140737488355328:=by omega
  cases hb:s.testBit k<;>rw[hb]at c1 hst
  .rw[if_neg (by decide),GA]at hst
   conv=>whnf
   repeat'((first|clear U K|apply st|(apply zk;intro K U)|refine zY ?_|refine zC ?_|fail)<;>conv=>whnf)
   exact⟨hlt,_,rfl,trivial,by rw[hst];exact hs⟩
  .rw[if_pos rfl]at hst
   conv=>whnf
   repeat'((first|clear U K|apply st|(apply zk;intro K U)|refine zY ?_|refine aq fun v Z hs hsl=>?_|refine zC ?_|fail)<;>conv=>whnf)
   exact⟨hlt,_,rfl,trivial,by rw[hst];exact hs⟩
 .rw[List.take_of_length_le (by rw[T0];omega)]at hs
  refine zz ?_;(repeat clear U K);repeat intro K U
  exact A8 (hs.GC 0 rfl)
abbrev sd (f:Nat->List Int×Int) (y:Nat) (acc:List (List Int×Int)):Bool×List (List Int×Int):=(true,acc++[f y])
def jg (f:Nat->List Int×Int): ∀(l:List Nat) (acc:List (List Int×Int)),CQ (sd f) l acc=(true,acc++l.map f)
 | [],acc=>by simp[CQ]
 | y::r,acc=>by simp[CQ,jg f r]
def rW (f:Nat->List Int×Int) {Q:Nat->Prop} {m:Nat}: ∀(l:List Nat) (acc:List (List Int×Int)),(∀y∈l,Q y)->acc.length+l.length<=m->SX (sd f) (fun y acc=>Q y/\acc.length<m) l acc
 | [],_,_,_=>trivial
 | y::r,acc,h,hl=>⟨⟨h y (.head _),by rw[Ky]at hl;omega⟩,fun _=>rW f r _ (fun z hz=>h z (.tail _ hz)) (by rw[NW,List.length_singleton];rw[Ky]at hl;omega)⟩
def lq {tog:List Fact->Bool} (h8:ms.length<=8):(Vw p tog ms).length<=256/\ ∀s∈Vw p tog ms,s<2 ^ ms.length:=by
 obtain⟨h1,h2⟩:=Ui (so:=fun s n=>GP tog (Jk p ms) (Ck s n)) (E:=GP tog (Jk p ms)) ms.length 0 0 (by decide) (fun s n _=>rfl);rw[G8]at h1 h2;refine⟨?_,h2⟩;have h3:=Fh (E:=GP tog (Jk p ms)) ms.length (Ck 0 0);have h4:=congrArg List.length h1;rw[B2]at h4;have h5:2 ^ ms.length<=2 ^ 8:=Nat.pow_le_pow_right (by omega) h8;exact h4 ▸ Nat.le_trans h3 h5
def qC (h:YS p ms) (hcan:Yb g fi ca (AL p) tog) {stE:List Int->Int} (hst: ∀s∈Vw p tog ms,Pure zP 62 [.a (Zv p gen ms),.l (iL (Jr ms s)) false] (eI (stE (Jr ms s)))) :
    Pure zP 72 [.a (Zv p gen ms),nK g fi ca p gen ms] (.l ((Vw p tog ms).map fun s=>YL (Jr ms s,stE (Jr ms s))) false):=by
 have hM:=Mx;have hfew:=h.sV;refine AA8 kZ ?_;have hs:=Sn
 conv=>whnf
 repeat'((first|clear U K|apply st|(apply zk;intro K U)|refine zo fun nn hnn Z hs=>?_|fail)<;>conv=>whnf)
 rename_i _ n5 hn5 _ _;obtain⟨hgl,hgm⟩:=lq (p:=p) (tog:=tog) hfew;have hs2:Sat Z [_,.box n5 [.l [] true],.own (.l [] true) 2 (([]:List (List Int×Int)).map YL)]:=Dw hs 2;refine Au.mono (ue h hcan (hs:=hs2) (stp:=sd fun y=>(Jr ms y,stE (Jr ms y))) (D:=fun y acc=>y∈Vw p tog ms/\acc.length<256) (fun nS nW=>Y4 (HB:=fun(acc:List (List Int×Int)) l=> ∃v,l= [.box n5 [v],.own v 2 (acc.map YL)]) (fun _=> .ready) rfl (fun _ _ _=>rfl) ?_) [] (rW _ _ _ (fun _ h=>h) (by simpa using hgl)) ⟨_,rfl,_,rfl⟩) ?_
 .clear hs hs2 hnn hn5
  rintro y acc ⟨hy,hacc⟩ _ ⟨v,rfl⟩ Z hs;have hy64:y<18446744073709551616:=Nat.lt_of_lt_of_le (hgm y hy) (Nat.le_trans (Nat.pow_le_pow_right (by omega) hfew) (by decide));have hl1:=pB (p:=p) (gen:=gen) hfew hy64;have hst:=hst y hy;have hll:acc.length<AZ/\(acc.length+1)*32<=140737488355328:=by omega
  conv=>whnf
  repeat'((first|clear U K|apply st|(apply zk;intro K U)|refine zY ?_|refine rk ?_ ?_|exact fun s e=>by cases e;rfl|refine zs fun Z hs=>?_|refine hl1.use ?_|refine hst.use ?_|refine aq (enc:=YL) (x:=(Jr ms y,stE (Jr ms y))) (fun v Z hs hsl=>?_) (hg:=bN)|fail)<;>conv=>whnf)
  intro hn;exact⟨rfl,_,⟨_,rfl⟩,hs.ni hn⟩
 .clear hs hs2 hnn hn5
  rw[jg];rintro r Z ⟨rfl,_,⟨_,rfl,v,rfl⟩,hs⟩;simp only[List.nil_append,y5]at hs;refine Mo hs fun Z hs=>?_
  refine zz ?_;(repeat clear U K);repeat intro K U
  exact A8 (hs.GC 1 rfl)
end
end Go.Gl
namespace Go.Gl
open Go.Proofs
attribute [local irreducible] Au Am Ab AR AK AY AQ AS AJ AX AN AP Ao Az Sat AU Ax Ad W
abbrev uL (us:List Nat):List (List V):=us.map fun u=>[eU u]
abbrev gB (w:AH) (v:V):List V:=[.l (EK w.parents) false,.l (iL w.owner) false,v]
def jA:EX (fun u:Nat=>[eU u]) 1:=fun x=>⟨rfl,fun v hv=>by rw[KF.1 hv];rfl⟩
def oU (w : AH) (hw:DB w):Pure zP 205 [.a (A0 w)] (.rp (gW w (CJ w.parents))):=by
 obtain⟨⟨hl,hrow⟩,ho,how⟩:=hw;have hM:=Mx;refine xm kZ ?_;have hs:=Sn;have hi1:((EK w.parents).length:Int)<=60:=by rw[B2];omega
 conv=>whnf
 repeat'((first|clear U K|apply st|(apply zk;intro K U)|refine zY ?_|refine zo fun nn hnn Z hs=>?_|fail)<;>conv=>whnf)
 generalize nn=n0 at *;refine Bw 3 (fun k (_:V)=>[(13,eI (A6 k))]) (fun k v=>[.box n0 (gB w v),.own v 1 (uL ([1,3,5].take k))]) (fun k _=>True) (.l [] true) rfl trivial (Dw hs 1) ?_;clear hs;rintro k v Z hk - hs;have hck:A6 k=k:=Ae (by omega);have hlen:(([1,3,5]:List Nat).take k).length=k:=by simp;omega
 by_cases hlt:k<3
 .have hst:=up3 hlt
  generalize ([1,3,5]:List Nat).take k=zl at *;have hll:zl.length<AZ/\(zl.length+1)*8<=140737488355328:=by omega
  conv=>whnf
  repeat'((first|clear U K|apply st|(apply zk;intro K U)|refine zY ?_|refine rk ?_ ?_|exact fun s e=>by cases e;rfl|refine zs fun Z hs=>?_|refine Pure.use (QW 1 _ (by decide) (by omega) (by omega)) ?_|refine aq (enc:=fun u:Nat=>[eU u]) (x:=1|||2 ^ (A6 k).toNat) (fun v Z hs hsl=>?_) (hg:=jA)|(refine zb (fun hc=>?_) (fun hc=>?_)<;>try exact⟨⟩)|fail)<;>conv=>whnf)
  rw[hck,GB,hst]at hs;exact⟨hlt,_,rfl,trivial,hs⟩
 .have hke:k=3:=by omega
  subst hke;clear hk hck hlen hlt
  conv=>whnf
  repeat'((first|clear U K|apply st|(apply zk;intro K U)|refine zY ?_|(refine zb (fun hc=>?_) (fun hc=>?_)<;>try exact⟨⟩)|fail)<;>conv=>whnf)
  refine Bw w.parents.length (fun k (_:V)=>[(31,eI (A6 k))]) (fun k v=>[.box n0 (gB w v),.own v 1 (uL (Bp w.parents k))]) (fun k _=>True) v rfl trivial hs ?_;clear hs;rintro k v Z hk - hs;have hck:A6 k=k:=Ae (by omega);have hul:=EG w.parents k;have huo:=H6 w.parents k (by omega);have hw3:IntKind.i64.wrap (3+(k:Int))=3+(k:Int):=wrap64 (by omega) (by omega);rcases A7 w.parents hk with⟨row,hr,hlt⟩|hke
  .obtain⟨r1,r2,r3⟩:=hrow k row hr
   rw[<-hck]at hw3
   conv=>whnf
   repeat'((first|clear U K|apply st|(apply zk;intro K U)|refine zY ?_|refine Pure.use (QW 1 _ (by decide) (by omega) (by omega)) ?_|fail)<;>conv=>whnf)
   have hst0:IntKind.i64.wrap (3+A6 k)=3+(k:Int):=by rw[hck];exact wrap64 (by omega) (by omega)
   have hs0lt:1|||2 ^ (3+k)<18446744073709551616:=K3 (by decide) (Ie (by omega))
   have hs0e:1|||2 ^ (IntKind.i64.wrap (3+A6 k)).toNat=1|||2 ^ (3+k):=by rw[hst0,show(3+(k:Int)).toNat=3+k by omega]
   rw[hs0e];refine Bw row.length (fun j (s:Nat)=>[(41,eI (A6 j)),(7,eU s)]) (fun _ _=>[.box n0 (gB w v),.own v 1 (uL (Bp w.parents k))]) (fun j s=>s=UH (Bp w.parents k) (row.take j) (1|||2 ^ (3+k))) (1|||2 ^ (3+k)) rfl rfl hs ?_;clear hs;rintro j s Z hj hse hs;rcases A7 row hj with⟨c,hcj,hjlt⟩|hje
   .obtain⟨q1,q2⟩:=r3 c (Bo hcj)
    conv=>whnf
    repeat'((first|clear U K|apply st|(apply zk;intro K U)|refine zY ?_|refine ze fun x hx=>?_|fail)<;>conv=>whnf)
    rename_i x hx;have hxd:(Bp w.parents k).getD c.toNat 0=x:=by rw[C4,hx];rfl
    have hsl:s<18446744073709551616:=by rw[hse];exact Pa huo _ _ hs0lt
    refine⟨hjlt,s|||x,?_,?_,hs⟩
    .rw[It hsl (huo x (Bo hx))]
     rfl
    .rw[hse,AO hcj]
     simp only[UH,List.foldl_append];rw[<-hxd];rfl
   .have e:Bp w.parents (k+1)=Bp w.parents k++[s]:=by
     rw[hse,Bp,C4,hr,hje,List.take_length];rfl
    generalize Bp w.parents k=zl at *;have hll:zl.length<AZ/\(zl.length+1)*8<=140737488355328:=by omega
    conv=>whnf
    repeat'((first|clear U K|apply st|(apply zk;intro K U)|refine zY ?_|refine zs fun Z hs=>?_|refine aq (enc:=fun u:Nat=>[eU u]) (x:=s) (fun v Z hs hsl=>?_) (hg:=jA)|fail)<;>conv=>whnf)
    rw[<-e]at hs;exact⟨hlt,_,rfl,trivial,hs⟩
  .rw[hke]at hs
   refine zz ?_;(repeat clear U K);repeat intro K U
   exact A8 (hs.s9 0 rfl (.cons (.refl _) (.cons (.refl _) (.cons (hs.GC 1 rfl) .nil))))
end Go.Gl
namespace Go.Gl
open Go.Proofs
def AAO {p:Prog} {gen:Int} {togX togR:List Fact->Bool} {OK:(Int->LM)->Prop} (hX: ∀l,(∀x∈l,Dj (AL p) x)->(togX l=true↔ ∃M,OK M/\ ∀x∈l,GS (AL p) M x))
    (hR: ∀l,(∀x∈l,Dj (AL p) x)->(togR l=true↔ ∃M,OK M/\ ∀x∈l,GS (AL p) M x)) (hn: ∀f∈Un p gen,Bb (AL p) f=true) :
    ((Vw p togX (Es p gen)).map fun s=>YL (Jr (Es p gen) s,Zt p (Jr (Es p gen) s)))=(K0 p gen togR).map YL:=by
 have hE: ∀l,GP togX (Jk p (Es p gen)) l=ng togR (Un p gen) l:=fun l=>by
  rw[IZ];exact(fQ hX hn l).trans (mS hR hn l).symm
 obtain⟨h1,-⟩:=Ui (so:=fun s n=>GP togX (Jk p (Es p gen)) (Ck s n)) (E:=GP togX (Jk p (Es p gen))) (Es p gen).length 0 0 (by decide) (fun s n _=>rfl);rw[G8,Ls hE]at h1;rw[K0,show([]:List Bool)=Ck 0 0 from rfl,<-h1,y5,y5];rfl
def bW {p:Prog} {gen:Int} (h:Ec p gen=true) (h8:(Es p gen).length<=8):YS p (Es p gen):=by
 rw[Ec,A9]at h;refine⟨look_ok h.1,fun m hm=>?_,h8⟩;have:=VH p gen m;rw[List.contains_iff_mem.2 hm]at this;exact(zrH.1 this.symm).1
def Rq (ms:List Int) (bs:List Bool):(Cy ms bs).Sublist ms:=by
 rw[Cy]
 induction ms generalizing bs with
 | nil=>simp
 | cons m r ih=>
   cases bs with
   | nil=>simp
   | cons b q=>
     cases b
     .simpa using(ih q).cons m
     .simpa using ih q
def ub (p:Prog) (gen:Int):(Es p gen).Pairwise (· < ·):=by
 rw[Es,cU];exact List.Pairwise.filter _ (LC _)
def aO {p:Prog} {gen:Int} {l:List Int} (h:l.Sublist (Es p gen)):Sa p gen l=true:=by
 have hp:=(ub p gen).sublist h;refine oI fun i hi=>?_
 have hm:=VH p gen l[i];rw[List.contains_iff_mem.2 (h.subset (List.getElem_mem hi))]at hm;have hm:=zrH.1 hm.symm;rw[gG];have e1:l.getD i 0=l[i]:=by rw[C4,Cr hi];rfl
 rw[e1,hm.1,hm.2,EA,EA,Bool.not_eq_true',Bool.and_eq_false_iff,decide_eq_false_iff_not,decide_eq_false_iff_not];by_cases h0:0<i
 .right
  have e2:l.getD (i - 1) 0=l[i - 1]'(by omega):=by rw[C4,Cr (by omega)];rfl
  rw[e2];have:=List.pairwise_iff_getElem.1 hp (i - 1) i (by omega) hi (by omega);omega
 .exact .inl h0
attribute [local irreducible] Au Am Ab AR AK AY AQ AS AJ AX AN AP Ao Az Sat AU Ax Ad W
def kF {p:Prog} {gen:Int} {ms:List Int} (h:(BY p).isSome=true):Pure zP 138 [.a (Zv p gen ms)] (.rp (gW (AL p) (CJ (AL p).parents))):=by
 have c1:=cL p;rw[if_pos h]at c1;have c2:=oU (AL p) (gx h);refine yU kZ ?_;have hs:=Sn;exact zW
def tN {p:Prog} {gen:Int} {ms:List Int} (h:(BY p).isSome=true) (cs:List Int) (f:Bool):Pure zP 74 [.a (Zv p gen ms),.l (iL cs) f] (nK 144 [] [.rp [.rp (gW (AL p) (CJ (AL p).parents))],.rp [.l (iL cs) f]] p gen ms):=by
 have c1:=kF (gen:=gen) (ms:=ms) h;refine AA7 kZ ?_;have hs:=Sn
 conv=>whnf
 repeat'((first|clear U K|apply st|(apply zk;intro K U)|refine zY ?_|refine zs fun Z hs=>?_|refine c1.use ?_|refine oH.use ?_|refine zo fun nn hnn Z hs=>?_|fail)<;>conv=>whnf)
 exact A8 (.f .nil (.cons (.rp (.cons (.f .nil (.cons (hs.s9 0 rfl (.refl _ _ _)) (.cons (.refl _) .nil))) .nil)) (.cons (.refl _) .nil)))
def ep {p:Prog} {gen:Int} (h:YS p (Es p gen)): ∀f∈Un p gen,Bb (AL p) f=true:=fun f hf=>by
 obtain⟨m,hm,rfl⟩:=IX.1 hf;have:=CE (h.GL m hm);exact(h.ok.facts _ (Bo this)).1
def qD {p:Prog} {gen:Int} {g:FuncId} {fi ca:List V} {togX togR:List Fact->Bool} {OK:(Int->LM)->Prop} (hX: ∀l,(∀x∈l,Dj (AL p) x)->(togX l=true↔ ∃M,OK M/\ ∀x∈l,GS (AL p) M x))
    (hR: ∀l,(∀x∈l,Dj (AL p) x)->(togR l=true↔ ∃M,OK M/\ ∀x∈l,GS (AL p) M x)) (h1:Ec p gen=true) (h8:(Es p gen).length<=8) (hcan:Yb g fi ca (AL p) togX) :
    Pure zP 72 [.a (rD p gen),nK g fi ca p gen (Es p gen)] (.l ((K0 p gen togR).map YL) false):=by
 have hfn:=bW h1 h8;have:=qC (gen:=gen) hfn hcan (stE:=Zt p) (fun s _=>tL p gen _ false h1 (aO (Rq _ _)));rw[AAO hX hR (ep hfn)]at this;exact this
end Go.Gl
namespace Go.Gl
open Go.Proofs
attribute [local irreducible] Au Am Ab AR AK AY AQ AS AJ AX AN AP Ao Az Sat AU Ax Ad W
def ABN {p:Prog} {gen:Int} (h:PN p gen true=0):Ec p gen=true/\(Es p gen).length<=8:=by
 cases h1:Ec p gen
 .rw[(QV h1 true).2]at h;cases h
 .rw[(QT h1).2]at h
  by_cases h8:(Es p gen).length<=8
  .exact⟨rfl,h8⟩
  .rw[if_neg h8]at h;cases h
structure tbG (T:List (List Bool)) (p:Prog) (ms:List Int):Prop where
 ok:JY T ms
 eq: ∀x∈ms,∀y∈ms,Dn p x y=true->Dp T x y=Ay p x y
def qH (p:Prog) (gen:Int) (op:Bool) (cs:List Int) (g:Bool) (T:List (List Bool)) (h:gD p (Es p gen) op cs) (hT:tbG T p (Es p gen)):Pure zP 105 [.a (zI p (Es p gen) op cs g T)] (.l ((K0 p gen (SY p op cs)).map YL) false):=by
 have hM:=Mx;have hfew:=h.sV;have h161:=oG p (Es p gen) op cs g T h (Es p gen).length [] true (by simp)
 have hsub: ∀l∈(GU (PK p (Es p gen) op cs) (Es p gen).length []).map (Cy (Es p gen)),l.Sublist (Es p gen):=fun l hl=>by
  obtain⟨bs,-,rfl⟩:=IX.1 hl;exact Rq _ _
 have hlen:((GU (PK p (Es p gen) op cs) (Es p gen).length []).map (Cy (Es p gen))).length<=256:=by
  rw[B2];exact Nat.le_trans (Fh _ _) (Nat.le_trans (Nat.pow_le_pow_right (by omega) hfew) (by decide))
 have hv:(K0 p gen (SY p op cs))=((GU (PK p (Es p gen) op cs) (Es p gen).length []).map (Cy (Es p gen))).map fun l=>(l,Zt p l):=by
  rw[K0,y5];rfl
 rw[hv];clear hv;generalize (GU (PK p (Es p gen) op cs) (Es p gen).length []).map (Cy (Es p gen))=L at *;have h16:=h.ok.many;have eL:((EK L).length:Int)=L.length:=by simp
 refine yg kZ ?_;have hs:=Sn;refine zz ?_;(repeat clear U K);repeat intro K U
 refine h161.use (rest:=[]) (by simpa using hs) ?_;clear hs;rintro r post Z ⟨v7,rfl,rfl⟩ hs;refine zz ?_;(repeat clear U K);repeat intro K U
 refine Bw L.length (fun k v=>[(3,v),(9,eI (A6 k))]) (fun k v=>[.own v7 1 (EK L),.own v 2 (((L.take k).map fun l=>(l,Zt p l)).map YL)]) (fun _ _=>True) (.l [] true) rfl trivial (Dw hs 2) ?_;clear hs;rintro k v Z hk - hs;rcases A7 L hk with⟨l,hl,hlt⟩|hke
 .have hck:A6 k=k:=Ae (by omega)
  have hl3:L[(A6 k).toNat]? =some l:=by rw[hck,GB];exact hl
  have hl2:=hsub l (Bo hl);have hG:=bC h.ok (OA (aO hl2));have c1:=kQ p T l false hG h16 ⟨hT.ok.len,hT.ok.sq,fun x hx=>hT.ok.ins x (hl2.subset hx),Nat.le_trans hl2.length_le hT.ok.many⟩;rw[Xq hG (fun x hx y hy=>hT.eq x (hl2.subset hx) y (hl2.subset hy)),<-Zt]at c1;have hst:((L.take (k+1)).map fun l=>(l,Zt p l))=((L.take k).map fun l=>(l,Zt p l))++[(l,Zt p l)]:=by rw[AO hl,SN];rfl
  have hal:((L.take k).map fun l=>(l,Zt p l)).length<=256:=by rw[B2,Jd];omega
  generalize ((L.take k).map fun l=>(l,Zt p l))=zl at *;have hll:zl.length<AZ/\(zl.length+1)*32<=140737488355328:=by omega
  conv=>whnf
  repeat'((first|clear U K|apply st|(apply zk;intro K U)|refine zY ?_|refine c1.use ?_|refine aq (enc:=YL) (x:=(l,Zt p l)) (fun v Z hs hsl=>?_) (hg:=bN)|fail)<;>conv=>whnf)
  exact⟨hlt,_,rfl,trivial,by rw[hst];exact hs⟩
 .rw[Aq hke]at hs
  refine zz ?_;(repeat clear U K);repeat intro K U
  exact A8 (hs.GC 1 rfl)
def mX (p:Prog) (gen:Int) (h1:Ec p gen=true):BT zP 103 [.a (BG p),eI gen] [] fun r post=>post= []/\ ∃T,r= .ret (.a (zI p (Es p gen) false [] true T))/\tbG T p (Es p gen):=by
 have hl:=h1;rw[Ec,A9]at hl;have hok:=look_ok hl.1;have c1:=Xe p gen hok.many;have c2:Pure zP 53 [.a (BG p)] (.a (A0 (AL p))):=Pure.fit (by kernel_rfl) fun hf=>PY p (Ju hf.1) hok.rZ hok.AG
 have hin: ∀x∈Es p gen,BM p x=true:=fun m hm=>by
  have:=VH p gen m;rw[List.contains_iff_mem.2 hm]at this;exact(zrH.1 this.symm).1
 have hln:(Es p gen).length<=16:=Nat.le_trans (Ps p gen _) hok.many;intro Z hs;refine yh kZ ?_
 conv=>whnf
 repeat'((first|clear U K|apply st|(apply zk;intro K U)|refine zY ?_|refine rk ?_ ?_|exact fun s e=>by cases e;rfl|refine zC ?_|refine zo fun nn hnn Z hs=>?_|fail)<;>conv=>whnf)
 refine(mf p (Es p gen) false hok hln hin).use (rest:=_) hs ?_;clear hs;rintro r post Z ⟨rfl,T,rfl,hT,hq⟩ hs
 conv=>whnf
 repeat'((first|clear U K|apply st|refine zY ?_|refine rk ?_ ?_|exact fun s e=>by cases e;rfl|refine zs fun Z hs=>?_|fail)<;>conv=>whnf)
 exact AI ⟨[],⟨rfl,T,rfl,⟨hT,hq⟩⟩,Sat.nil⟩
def Zs (p:Prog) (gen:Int) (cs:List Int) (f:Bool) (hcs:(∀c∈cs,1<=c/\c<3+((AL p).parents.length:Int))/\cs.length<=3) (h1:Ec p gen=true) (h8:(Es p gen).length<=8):Pure zP 77 [.a (BG p),eI gen,.l (iL cs) f] (.l ((K0 p gen (SZ (AL p) cs)).map YL) false):=by
 have hfn:=bW h1 h8;have hb:=mX p gen h1;refine Pure.of ?_;refine AA6 kZ ?_;have hs:=Sn;refine zz ?_;(repeat clear U K);repeat intro K U
 refine hb.use (rest:=_) hs ?_;clear hs;rintro r post Z ⟨rfl,T,rfl,hT⟩ hs;have c1:=qH p gen false cs f T ⟨hfn.ok,hfn.GL,h8,fun _=>hcs⟩ hT
 conv=>whnf
 repeat'((first|clear U K|apply st|(apply zk;intro K U)|refine zY ?_|refine zs fun Z hs=>?_|refine zC ?_|refine zo fun nn hnn Z hs=>?_|fail)<;>conv=>whnf)
 all_goals exact AI (by rfl)
def aR (xs:List (List Int×Int)) (hxl:xs.length<=256) (f g:Bool):Pure zP 22 [.l (xs.map YL) f,.l (xs.map YL) g] (.b true):=by
 have hM:=Mx;refine Pure.of ?_;refine ABJ kZ ?_;have hs:=Sn
 conv=>whnf
 repeat'((first|clear U K|apply st|(apply zk;intro K U)|refine zY ?_|(refine zb (fun hc=>?_) (fun hc=>?_)<;>try exact⟨⟩)|fail)<;>conv=>whnf)
 all_goals try(exfalso;simp at hc;done)
 refine Bw xs.length (fun k (_:Unit)=>[(13,eI (A6 k))]) (fun _ _=>[]) (fun _ _=>True) () rfl trivial hs ?_;clear hs;rintro k - Z hk - hs;rcases A7 xs hk with⟨x,hx,hlt⟩|hke
 .have c1:=Ix x.1 x.1 false false
  rw[beq_self_eq_true]at c1;have hck:A6 k=k:=Ae (by omega)
  conv=>whnf
  repeat'((first|clear U K|apply st|(apply zk;intro K U)|refine zY ?_|refine zC ?_|(refine zb (fun hc=>?_) (fun hc=>?_)<;>try exact⟨⟩)|fail)<;>conv=>whnf)
  all_goals first
   | exact⟨hlt,(),rfl,trivial,hs⟩
   | (exfalso;omega)
 .refine zz ?_;(repeat clear U K);repeat intro K U
  all_goals exact AI (by rfl)
def dR {p:Prog} {gen:Int} {tog:List Fact->Bool} (h8:(Es p gen).length<=8):(K0 p gen tog).length<=256:=by
 rw[K0,B2];exact Nat.le_trans (Fh _ _) (Nat.le_trans (Nat.pow_le_pow_right (by omega) h8) (by decide))
def YK (p:Prog) (c:Int):Bool:=decide (1<=c)&&decide (c<3+(p.AM.length:Int))
def MC (p:Prog) (gen:Int) (cs:List Int):Bool:=((cs.length:Int)==p.Cs.getD gen.toNat 0)&&cs.all (YK p)
def bt {p:Prog} {gen:Int} {cs:List Int} (h:Ec p gen=true) (hc:MC p gen cs=true):(∀c∈cs,1<=c/\c<3+((AL p).parents.length:Int))/\cs.length<=3:=by
 rw[Ec,A9,Sd,A9,Cc,Cc]at h;rw[MC,A9,DD,EB]at hc;have hl:(AL p).parents.length=p.AM.length:=by simp[AL,A3]
 refine⟨fun c hm=>?_,?_⟩
 .have:=hc.2 c hm
  rw[YK,A9,Cc,Cc]at this;rw[hl];exact this
 .obtain⟨hh,-⟩:=Fg h.1
  simp only[DA,A9,Cc,EB]at hh;have hlt:gen.toNat<p.Cs.length:=by omega
  have:=hh.2.2.2.2.2 _ (List.getElem_mem hlt);have e:p.Cs.getD gen.toNat 0=p.Cs[gen.toNat]:=by rw[C4,Cr hlt];rfl
  rw[e]at hc;omega
def qg (p:Prog) (h10:p.AM.length<=10) (c:Int):Pure zP 79 [eI c,.rp (BG p)] (.b (!YK p c)):=by
 have ec:((p.AM.map Se).length:Int)=p.AM.length:=by simp
 have hw:IntKind.i64.wrap (3+(p.AM.length:Int))=3+(p.AM.length:Int):=wrap64 (by omega) (by omega);rw[YK];refine AA4 kZ ?_;have hs:=Sn
 conv=>whnf
 repeat'((first|clear U K|apply st|(apply zk;intro K U)|refine zY ?_|refine za (fun hc=>?_) fun hc=>?_|fail)<;>conv=>whnf)
 .refine AF ?_
  rw[ec,hw,decide_eq_true (show 1<=c by omega),EA];show V.b (decide (c≥3+(p.AM.length:Int)))=_;congr 1;rw[IZ];simp
 .exact AF (by rw[decide_eq_false (show¬1<=c by omega)];rfl)
def qh (p:Prog) (gen:Int) (cs:List Int) (f:Bool) (h:Ec p gen=true):Pure zP 78 [.a (rD p gen),.rp [.l (iL cs) f],.rp (BG p),.rp [eI gen]] (.b (MC p gen cs)):=by
 have h2:=h;rw[Ec,A9,Sd,A9,Cc,Cc]at h2;have c1:Pure zP 49 [.l (iL cs) f,.f (.func 79) [] [.rp (BG p)]] (.b (cs.any fun c=> !YK p c)):=JV f fun y _=>qg p (Yu h2.1) y
 have hlt:gen.toNat<p.Cs.length:=by omega
 have hg:p.Cs[gen.toNat]? =some (p.Cs.getD gen.toNat 0):=by rw[C4,Cr hlt];rfl
 have ecs:((iL cs).length:Int)=cs.length:=by simp
 have hn:cs.all (YK p)= !cs.any fun c=> !YK p c:=List.all_eq_not_any_not
 rw[MC,hn];generalize p.Cs.getD gen.toNat 0=n at *;refine AA5 kZ ?_;have hs:=Sn
 conv=>whnf
 repeat'((first|clear U K|apply st|(apply zk;intro K U)|refine zY ?_|refine zC ?_|(refine zd (fun hc=>?_) (fun hc=>?_)<;>try exact⟨⟩)|fail)<;>conv=>whnf)
 .exact AF (by rw[DD.2 (show(cs.length:Int)=n by omega)];rfl)
 .exact AF (by rw[beq_eq_false_iff_ne.2 (show(cs.length:Int)≠n by omega)];rfl)
abbrev gY (p:Prog) (gen:Int) (cs:List Int):V:= .t [if PN p gen (MC p gen cs)=0 then .l ((K0 p gen (SZ (AL p) cs)).map YL) false else .l [] true,eI (PN p gen (MC p gen cs))]
def Of23 (p:Prog) (gen:Int) (cs:List Int) (f:Bool):Pure zP 23 [.a (BG p),eI gen,.l (iL cs) f] (gY p gen cs):=by
 have c1:=yr p gen 78 [.rp [.l (iL cs) f],.rp (BG p),.rp [eI gen]] (MC p gen cs) (fun h=>qh p gen cs f h);rw[gY];cases h1:Ec p gen
 .rw[(QV h1 _).1,(QV h1 _).2]at c1
  rw[(QV h1 _).2];refine aB kZ ?_;have hs:=Sn;exact zW
 cases h2:MC p gen cs
 .rw[h2,QU.1,QU.2]at c1
  rw[QU.2];refine aB kZ ?_;have hs:=Sn;exact zW
 rw[h2,(QT h1).1,(QT h1).2]at c1;rw[(QT h1).2];by_cases h8:(Es p gen).length<=8
 .have hl:=h1
  rw[Ec,A9]at hl;have hw:=(look_ok hl.1).zQ;have hcs:=bt h1 h2;have c2:=tN (gen:=gen) (ms:=Es p gen) hl.1 cs f;have c3:=qD (fun l hl=>Wl hw fun x hx=>KQ (hl x hx)) (AAk hw hcs.1) h1 h8 (oD _ (gx hl.1) cs f hcs.2);rw[if_pos h8]at c1 ⊢;rw[if_pos rfl];refine aB kZ ?_;have hs:=Sn
  conv=>whnf
  repeat'((first|clear U K|apply st|(apply zk;intro K U)|refine zY ?_|refine rk ?_ ?_|exact fun s e=>by cases e;rfl|refine zs fun Z hs=>?_|refine zC ?_|(refine zb (fun hc=>?_) (fun hc=>?_)<;>try exact⟨⟩)|refine zo fun nn hnn Z hs=>?_|fail)<;>conv=>whnf)
  all_goals exact AF rfl
 .rw[if_neg h8]at c1 ⊢
  rw[if_neg (by decide)];refine aB kZ ?_;have hs:=Sn;exact zW
def fg (p:Prog) (gen:Int) (cs:List Int) (f:Bool) (h:Ec p gen=true):Pure zP 80 [.a (BG p),eI gen,.l (iL cs) f] (.b (MC p gen cs)):=by
 refine Pure.fit (by kernel_rfl) fun hf=>?_
 have hM:=Mx;have hcl:cs.length<=AZ:=by have:=hf.2.2.1.1;rwa [B2]at this
 have h2:=h;rw[Ec,A9,Sd,A9,Cc,Cc]at h2;have h10:=Yu h2.1;have ec:((p.AM.map Se).length:Int)=p.AM.length:=by simp
 have hw:IntKind.i64.wrap (3+(p.AM.length:Int))=3+(p.AM.length:Int):=wrap64 (by omega) (by omega);have hlt:gen.toNat<p.Cs.length:=by omega
 have hg:p.Cs[gen.toNat]? =some (p.Cs.getD gen.toNat 0):=by rw[C4,Cr hlt];rfl
 have ecs:((iL cs).length:Int)=cs.length:=by simp
 rw[MC];generalize p.Cs.getD gen.toNat 0=n at *;refine Pure.of ?_;refine AA3 kZ ?_;have hs:=Sn;refine zz ?_;(repeat clear U K);repeat intro K U
 refine Bw cs.length (fun k (_:Unit)=>[(11,eI (A6 k))]) (fun _ _=>[]) (fun k _=>cs.all (YK p)=(cs.drop k).all (YK p)) () rfl rfl hs ?_;clear hs;rintro k - Z hk hR hs;have hck:A6 k=k:=Ae (by omega);rcases A7 cs hk with⟨c,hc,hlt⟩|hke
 .rw[drop_cons hc,KE]at hR
  conv=>whnf
  repeat'((first|clear U K|apply st|(apply zk;intro K U)|refine zY ?_|(refine zd (fun hc=>?_) (fun hc=>?_)<;>try exact⟨⟩)|fail)<;>conv=>whnf)
  .have e:YK p c=false:=by rw[YK,decide_eq_false (show¬c<3+(p.AM.length:Int) by omega),Bool.and_false]
   exact AI (by rw[hR,e,Bool.false_and,Bool.and_false])
  .have e:YK p c=true:=by rw[YK,decide_eq_true (show c<3+(p.AM.length:Int) by omega),Bool.and_true,decide_eq_true (by omega)]
   exact⟨hlt,(),rfl,by rw[hR,e,EA],hs⟩
  .have e:YK p c=false:=by rw[YK,decide_eq_false (show¬1<=c by omega),Bool.false_and]
   exact AI (by rw[hR,e,Bool.false_and,Bool.and_false])
 .rw[Ai hke]at hR
  refine zz ?_;(repeat clear U K);repeat intro K U
  all_goals exact AI (by rw[hR,List.all_nil,Bool.and_true,ecs])
def Of24 (p:Prog) (gen:Int) (cs:List Int) (f:Bool):Pure zP 24 [.a (BG p),eI gen,.l (iL cs) f] (gY p gen cs):=by
 have c1:=y3 p gen;rw[gY];cases h1:Ec p gen<;>rw[h1]at c1
 .rw[if_neg (by decide)]at c1
  rw[(QV h1 _).2];refine Z9 kZ ?_;have hs:=Sn;exact zW
 rw[if_pos rfl]at c1;have c2:=fg p gen cs f h1;cases h2:MC p gen cs<;>rw[h2]at c2
 .rw[QU.2]
  refine Z9 kZ ?_;have hs:=Sn;exact zW
 have hl:=h1;rw[Ec,A9]at hl;have c3:=AAb p gen (look_ok hl.1).many;rw[(QT h1).2];by_cases h8:(Es p gen).length<=8
 .have c4:=Zs p gen cs f (bt h1 h2) h1 h8
  rw[if_pos h8]at c3 ⊢;rw[if_pos rfl];refine Z9 kZ ?_;have hs:=Sn;exact zW
 .rw[if_neg h8]at c3 ⊢
  rw[if_neg (by decide)];refine Z9 kZ ?_;have hs:=Sn;exact zW
def pq (g:Giv) (c0:Pure zP 17 [] (.b true)):Pure zP 5 [.a (YU g)] (.b true):=by
 have c1:=Of23 g.p g.gen g.cl false;have c2:=Of24 g.p g.gen g.cl false;rw[gY]at c1 c2;by_cases h0:PN g.p g.gen (MC g.p g.gen g.cl)=0
 .rw[h0,if_pos rfl]at c1 c2
  have h8:(Es g.p g.gen).length<=8:=by
   cases h2:MC g.p g.gen g.cl
   .rw[h2,QU.2]at h0;cases h0
   .rw[h2]at h0;exact(ABN h0).2
  have c5:=aR _ (dR (tog:=SZ (AL g.p) g.cl) h8) false false;refine AAC kZ ?_;have hs:=Sn
  conv=>whnf
  repeat'((first|clear U K|apply st|(apply zk;intro K U)|refine zY ?_|refine zC ?_|(refine zb (fun hc=>?_) (fun hc=>?_)<;>try exact⟨⟩)|fail)<;>conv=>whnf)
  all_goals first
   | exact AF rfl
   | (exfalso;simp at hc;done)
 .rw[if_neg h0]at c1 c2
  have c5:=aR [] (by decide) true true;generalize PN g.p g.gen (MC g.p g.gen g.cl)=e at *;refine AAC kZ ?_;have hs:=Sn
  conv=>whnf
  repeat'((first|clear U K|apply st|(apply zk;intro K U)|refine zY ?_|refine zC ?_|(refine zb (fun hc=>?_) (fun hc=>?_)<;>try exact⟨⟩)|fail)<;>conv=>whnf)
  all_goals first
   | exact AF rfl
   | (exfalso;simp at hc;done)
end Go.Gl
namespace Go.Gl
variable {P:Program} {F:Nat->Prop} {Z:AE} {pu:List FuncId} {fz:List Nat}
end Go.Gl
