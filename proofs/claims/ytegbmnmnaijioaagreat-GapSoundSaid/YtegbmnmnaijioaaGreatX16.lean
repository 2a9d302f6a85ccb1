import Derived.Test.YtegbmnmnaijioaaGreatX6
import Derived.Test.YtegbmnmnaijioaaGreatX8
import Derived.Test.YtegbmnmnaijioaaGreatX10
import Derived.Test.YtegbmnmnaijioaaGreatX12
import Derived.Test.YtegbmnmnaijioaaGreatX13
import Derived.Test.YtegbmnmnaijioaaGreatX15
set_option linter.all false
set_option linter.defProp false
set_option maxHeartbeats 8000000
noncomputable section
namespace Go.Gl
open Go.Proofs
def Xl (w:AF) (us:List Nat) (ls:List Fact) (b:Bool) (h:Nu ls) (hlen:ls.length<900) :
    BS zP 142 [.rp (gW w us),.l (Dx ls) b] [] fun r post=> ∃L es,r= .ret (.a (gv w us L))/\Bx (kg ls) es/\post=Bs L es:=by
 have:=AAo w us ls (ls.map Ah) rfl b h hlen;rw[zT]at this;exact this
abbrev gR (L:Nat) (pre post:List B6) (e:B6) (s:List B6):List At:=
 .box e.b [eU e.k.BW,eU e.k.Dt,eI e.k.low,eI e.k.high,e.vn,.b e.k.whole,.b e.k.Ac,e.vs]:: .own e.vn 1 (iL e.k.no)::I8 L (pre++e::(post++s)) pre (post++s)
def HZ {Z:AE} {X:List At} {L:Nat} {pre post:List B6} {e:B6} {s:List B6} (h:Sat Z (X++Bs L (pre++e::(post++s)))):Sat Z (.own e.vs 1 (iL e.k.AH)::(X++gR L pre post e s)):=by
 have h2:=Jf h;refine h2.perm ((I9 _ _ _ _).symm.trans (.cons _ ?_));exact(List.perm_middle.trans (.cons _ List.perm_middle)).symm
def HF {Z:AE} {X:List At} {L:Nat} {pre post:List B6} {e:B6} {s:List B6} (h:Sat Z (.own e.vs 1 (iL e.k.AH)::(X++gR L pre post e s))):Sat Z (X++Bs L (pre++e::(post++s))):=by
 refine Dp (X:=X) (e:=e) (e':=e) rfl rfl rfl ?_;refine h.perm ?_;refine List.Perm.trans (.cons _ (List.perm_middle.trans (.cons _ List.perm_middle))) ?_;exact I9 _ _ _ _
def G6 (kf:Int->List Int->Kn) (L:Nat) (es:List B6) (post:List At):Prop:= ∃es',Kl es es'/\Bx kf es'/\post=Bs L es'
def ir (g:List (List Int)):(A5 g)[0]? =some 1/\(A5 g)[1]? =some 3/\(A5 g)[2]? =some 5:=by
 have key: ∀k,(Bq g k)[0]? =some 1/\(Bq g k)[1]? =some 3/\(Bq g k)[2]? =some 5:=fun k=>by
  induction k with
  | zero=>exact⟨rfl,rfl,rfl⟩
  | succ k ih=>
    have hl:=C5 g k;rw[Bq,nX (by omega),nX (by omega),nX (by omega)];exact ih
 exact key g.length
attribute [local irreducible] Ar Aj AZ AQ AL AX AP AR AJ AW AM AN Am Av Sat AT As Aa W
def sB (w : AF) {kf:Int->List Int->Kn} (hr:EK w kf) {L:Nat} {es:List B6} (h:Bx kf es) {a:Int} {p:List Int} (hp:p.length<=2) :
    BS zP 216 [.a (gv w (A5 w.parents) L),CG a p,eI 2] (Bs L es) fun r post=>r= .ret (.b (DZ kf a p))/\G6 kf L es post:=by
 intro Z hs;have hM:=Mx;obtain⟨-,hu1,hu2⟩:=ir w.parents;generalize A5 w.parents=us at *;refine jx kZ ?_;refine zz ?_;(repeat clear U K);repeat intro K U
 refine(nf w us h (a:=a) (p:=p) hp).use (rest:=[]) (by simpa using hs) ?_;clear hs;rintro r post Z ⟨es4,e4,got,rfl,rfl⟩ hs;have hek:=got.k;obtain⟨pre,post,rfl⟩:=List.append_of_mem got.mem;rw[FE]at hs;replace hs:=Jf (X:=[]) hs;have hok:=hr.ok a p;have hsl:=(hr.ok a p).2.2.2;have hsh:=hr.short a p;rw[<-hek]at hok hsl hsh;have hb1:bits .andNot .u64 (e4.k.BW:Int) ((5:Nat):Int)=((L0 e4.k.BW 5:Nat):Int):=IY;have hb2:bits .and .u64 (e4.k.Dt:Int) ((5:Nat):Int)=((e4.k.Dt&&&5:Nat):Int):=Fw hok.2.1 (by decide);have hb3:=M0 (u:=5) hok.1
 have hP:DZ kf a p=(!e4.k.whole&&(Hr e4.k.BW 5&&(e4.k.Dt&&&5==0&&e4.k.AH.all fun s=> !(kf a (p++[s])).Ac))):=by
  rw[DZ,Eb,H7,hek];rfl
 generalize DZ kf a p=R at *
 conv=>whnf
 repeat'((first|clear U K|apply st|(apply zk;intro K U)|refine zY ?_|refine za (fun hc=>?_) fun hc=>?_|fail)<;>conv=>whnf)
 .have h2:(e4.k.Dt&&&5==0)=false:=by rw[beq_eq_false_iff_ne];omega
  exact AI ⟨_,⟨by rw[hP,h2];simp,_,got.ext,got.inv,rfl⟩,by simpa using Dp (X:=[]) (e:=e4) (e':=e4) rfl rfl rfl hs⟩
 .have h1:Hr e4.k.BW 5=true:=hb3.1 (by omega)
  have h2:(e4.k.Dt&&&5==0)=true:=by rw[Cd];omega
  rw[h1,h2,Cm,Cm]at hP
  have hs1:Sat Z (.own e4.vs 1 (iL e4.k.AH)::gR L pre post e4 []):=by
   have h2:=HZ (X:=[]) (L:=L) (pre:=pre) (post:=post) (e:=e4) (s:=[]) (by simpa using Dp (X:=[]) (e:=e4) (e':=e4) rfl rfl rfl hs);simpa using h2
  refine CZ e4.k.AH.length (fun k (x:List B6)=>[(49,eI (BL k))]) (fun k x=> .own e4.vs 1 (iL e4.k.AH)::gR L pre post e4 x) (fun k x=>(Bx kf (pre++e4::(post++x))/\ ∀y∈x,y.k=k0)/\R=(!e4.k.whole&&(e4.k.AH.drop k).all fun s=> !(kf a (p++[s])).Ac)) [] rfl ⟨⟨by simpa using got.inv,by simp⟩,hP⟩ hs1 ?_;clear hs hs1 hP;rintro k new Z hk ⟨⟨hinv,hnew⟩,hF⟩ hs;have hck:BL k=k:=Ag (by omega);rcases BF e4.k.AH hk with⟨s,hsk,hlt⟩|hke
  .have hsm:=CY hsk
   have hp2:p.length<2:=by
    rcases Nat.lt_or_ge p.length 2 with h'|h'
    .exact h'
    .rw[hsh h']at hsm;cases hsm
   rw[drop_cons hsk,R8]at hF
   conv=>whnf
   repeat'((first|clear U K|apply st|(apply zk;intro K U)|refine zY ?_|refine rk ?_ ?_|exact fun s e=>by cases e;rfl|refine ze fun x hx=>?_|refine Pure.use (MT a p _ hp2) ?_|fail)<;>conv=>whnf)
   obtain rfl:x=s:=by rw[hck,HP,hsk]at hx;exact(Option.some.inj hx).symm
   refine(nf w us hinv (a:=a) (p:=p++[x]) (by simp;omega)).use (rest:=[]) (by simpa using HF (X:=[]) (by simpa using hs)) ?_;clear hs;rintro r post' Z ⟨es5,e5,got5,rfl,rfl⟩ hs;have hek5:=congrArg Kn.Ac got5.k;obtain⟨newA,heA,hnA⟩:=got5.ext;obtain⟨pre5,post5,he5⟩:=List.append_of_mem got5.mem;have e7:es5=pre++e4::(post++(new++newA)):=by rw[heA];simp
   have hi7:=got5.inv;rw[e7]at hi7;have hn7: ∀y∈new++newA,y.k=k0:=fun y hy=>(D9.1 hy).elim (hnew y) (hnA y)
   rw[FE,he5]at hs;replace hs:=Jf (X:=[]) hs;cases hnx:(kf a (p++[x])).Ac<;>rw[hnx]at hek5 hF<;>rw[hek5]at hs
   all_goals
    refine zz ?_;(repeat clear U K);repeat intro K U
    have hs3:Sat Z (Bs L (pre++e4::(post++(new++newA)))):=by
     rw[<-hek5]at hs;have h3:=Dp (X:=[]) (e:=e5) (e':=e5) rfl rfl rfl hs;rw[<-he5,e7]at h3;exact h3
   .exact⟨hlt,new++newA,rfl,⟨⟨hi7,hn7⟩,by rw[hF];rfl⟩,HZ (X:=[]) hs3⟩
   .exact AI ⟨_,⟨by rw[hF];simp,_,got.ext.trans ⟨_,by simp,hn7⟩,hi7,rfl⟩,hs3⟩
  .rw[Ao hke,List.all_nil,Bool.and_true]at hF
   conv=>whnf
   repeat'((first|clear U K|apply st|(apply zk;intro K U)|refine zY ?_|(refine zb (fun hc=>?_) (fun hc=>?_)<;>try exact⟨⟩)|fail)<;>conv=>whnf)
   exact AI ⟨_,⟨by rw[hF],_,got.ext.trans ⟨_,by simp,hnew⟩,hinv,rfl⟩,HF (X:=[]) hs⟩
 .have h1:Hr e4.k.BW 5=false:=by
   rw[<-Bool.not_eq_true,<-hb3];omega
  exact AI ⟨_,⟨by rw[hP,h1];simp,_,got.ext,got.inv,rfl⟩,by simpa using Dp (X:=[]) (e:=e4) (e':=e4) rfl rfl rfl hs⟩
def AAB (w:AF) {kf:Int->List Int->Kn} (hr:EK w kf) {L:Nat} {es:List B6} (h:Bx kf es) {a:Int} {p:List Int} (hp:p.length<=2) :
    BS zP 216 [.a (gv w (A5 w.parents) L),CG a p,eI 1] (Bs L es) fun r post=>r= .ret (.b (F1 kf a p))/\G6 kf L es post:=by
 intro Z hs;have hM:=Mx;obtain⟨-,hu1,hu2⟩:=ir w.parents;generalize A5 w.parents=us at *;refine jx kZ ?_;refine zz ?_;(repeat clear U K);repeat intro K U
 refine(nf w us h (a:=a) (p:=p) hp).use (rest:=[]) (by simpa using hs) ?_;clear hs;rintro r post Z ⟨es4,e4,got,rfl,rfl⟩ hs;have hek:=got.k;obtain⟨pre,post,rfl⟩:=List.append_of_mem got.mem;rw[FE]at hs;replace hs:=Jf (X:=[]) hs;have hok:=hr.ok a p;have hsl:=(hr.ok a p).2.2.2;have hsh:=hr.short a p;rw[<-hek]at hok hsl hsh;have hb1:bits .andNot .u64 (e4.k.BW:Int) ((3:Nat):Int)=((L0 e4.k.BW 3:Nat):Int):=IY;have hb2:bits .and .u64 (e4.k.Dt:Int) ((3:Nat):Int)=((e4.k.Dt&&&3:Nat):Int):=Fw hok.2.1 (by decide);have hb3:=M0 (u:=3) hok.1
 have hP:F1 kf a p=(decide (Ef (kf a p)<=e4.k.high)&&(Hr e4.k.BW 3&&(e4.k.Dt&&&3==0&&e4.k.AH.all fun s=> !(kf a (p++[s])).Ac))):=by
  rw[F1,Eb,H7,hek];rfl
 generalize F1 kf a p=R at *
 conv=>whnf
 repeat'((first|clear U K|apply st|(apply zk;intro K U)|refine zY ?_|refine za (fun hc=>?_) fun hc=>?_|fail)<;>conv=>whnf)
 .have h2:(e4.k.Dt&&&3==0)=false:=by rw[beq_eq_false_iff_ne];omega
  exact AI ⟨_,⟨by rw[hP,h2];simp,_,got.ext,got.inv,rfl⟩,by simpa using Dp (X:=[]) (e:=e4) (e':=e4) rfl rfl rfl hs⟩
 .have h1:Hr e4.k.BW 3=true:=hb3.1 (by omega)
  have h2:(e4.k.Dt&&&3==0)=true:=by rw[Cd];omega
  rw[h1,h2,Cm,Cm]at hP
  have hs1:Sat Z (.own e4.vs 1 (iL e4.k.AH)::gR L pre post e4 []):=by
   have h2:=HZ (X:=[]) (L:=L) (pre:=pre) (post:=post) (e:=e4) (s:=[]) (by simpa using Dp (X:=[]) (e:=e4) (e':=e4) rfl rfl rfl hs);simpa using h2
  refine CZ e4.k.AH.length (fun k (x:List B6)=>[(49,eI (BL k))]) (fun k x=> .own e4.vs 1 (iL e4.k.AH)::gR L pre post e4 x) (fun k x=>(Bx kf (pre++e4::(post++x))/\ ∀y∈x,y.k=k0)/\R=(decide (Ef (kf a p)<=e4.k.high)&&(e4.k.AH.drop k).all fun s=> !(kf a (p++[s])).Ac)) [] rfl ⟨⟨by simpa using got.inv,by simp⟩,hP⟩ hs1 ?_;clear hs hs1 hP;rintro k new Z hk ⟨⟨hinv,hnew⟩,hF⟩ hs;have hck:BL k=k:=Ag (by omega);rcases BF e4.k.AH hk with⟨s,hsk,hlt⟩|hke
  .have hsm:=CY hsk
   have hp2:p.length<2:=by
    rcases Nat.lt_or_ge p.length 2 with h'|h'
    .exact h'
    .rw[hsh h']at hsm;cases hsm
   rw[drop_cons hsk,R8]at hF
   conv=>whnf
   repeat'((first|clear U K|apply st|(apply zk;intro K U)|refine zY ?_|refine rk ?_ ?_|exact fun s e=>by cases e;rfl|refine ze fun x hx=>?_|refine Pure.use (MT a p _ hp2) ?_|fail)<;>conv=>whnf)
   obtain rfl:x=s:=by rw[hck,HP,hsk]at hx;exact(Option.some.inj hx).symm
   refine(nf w us hinv (a:=a) (p:=p++[x]) (by simp;omega)).use (rest:=[]) (by simpa using HF (X:=[]) (by simpa using hs)) ?_;clear hs;rintro r post' Z ⟨es5,e5,got5,rfl,rfl⟩ hs;have hek5:=congrArg Kn.Ac got5.k;obtain⟨newA,heA,hnA⟩:=got5.ext;obtain⟨pre5,post5,he5⟩:=List.append_of_mem got5.mem;have e7:es5=pre++e4::(post++(new++newA)):=by rw[heA];simp
   have hi7:=got5.inv;rw[e7]at hi7;have hn7: ∀y∈new++newA,y.k=k0:=fun y hy=>(D9.1 hy).elim (hnew y) (hnA y)
   rw[FE,he5]at hs;replace hs:=Jf (X:=[]) hs;cases hnx:(kf a (p++[x])).Ac<;>rw[hnx]at hek5 hF<;>rw[hek5]at hs
   all_goals
    refine zz ?_;(repeat clear U K);repeat intro K U
    have hs3:Sat Z (Bs L (pre++e4::(post++(new++newA)))):=by
     rw[<-hek5]at hs;have h3:=Dp (X:=[]) (e:=e5) (e':=e5) rfl rfl rfl hs;rw[<-he5,e7]at h3;exact h3
   .exact⟨hlt,new++newA,rfl,⟨⟨hi7,hn7⟩,by rw[hF];rfl⟩,HZ (X:=[]) hs3⟩
   .exact AI ⟨_,⟨by rw[hF];simp,_,got.ext.trans ⟨_,by simp,hn7⟩,hi7,rfl⟩,hs3⟩
  .rw[Ao hke,List.all_nil,Bool.and_true]at hF
   have hlo:=hr.low a p;rw[<-hek]at hlo;have hno:=hok.2.2.1;have hle:=U7 e4.k.no e4.k.low;have hL:Ef (kf a p)=Gx e4.k.no (from_ e4.k.no e4.k.low) e4.k.low:=by rw[Ef,<-hek];exact Pn hle (Ia _)
   conv=>whnf
   repeat'((first|clear U K|apply st|(apply zk;intro K U)|refine zY ?_|(refine zb (fun hc=>?_) (fun hc=>?_)<;>try exact⟨⟩)|fail)<;>conv=>whnf)
   refine Gb (fun n:Int=>from_ e4.k.no n) (fun n=>[(10,eI n)]) (fun _=> .own e4.vs 1 (iL e4.k.AH)::gR L pre post e4 new) (fun n=> -1000000000<=n/\n+from_ e4.k.no n<=1000001000/\Ef (kf a p)=Gx e4.k.no (from_ e4.k.no n) n) e4.k.low rfl ⟨by omega,by omega,hL⟩ hs ?_;clear hs hL hle;rintro n Z ⟨hn0,hn1,hL⟩ hs;have hct2:=fun b=>Cr e4.k.no b n
   cases hcB:e4.k.no.contains n<;>rw[hcB]at hct2
   .have hout:n∉e4.k.no:=by simpa using hcB
    rw[cQ hout]at hL;rw[hL]at hF
    conv=>whnf
    repeat'((first|clear U K|apply st|(apply zk;intro K U)|refine zY ?_|refine Pure.Vk (hct2 false) (.cons (hs.HQ 2 rfl) (.cons (.refl _) .nil)) rfl ?_|fail)<;>conv=>whnf)
    all_goals exact AI ⟨_,⟨by rw[hF],_,got.ext.trans ⟨_,by simp,hnew⟩,hinv,rfl⟩,HF (X:=[]) hs⟩
   .have hin:n∈e4.k.no:=by simpa using hcB
    have hlt:=Pf hin;have hwr:IntKind.i64.wrap (n+1)=n+1:=wrap64 (by omega) (by omega);obtain⟨m,hm⟩: ∃m,from_ e4.k.no n=m+1:=⟨from_ e4.k.no n - 1,by omega⟩
    have hL2:Ef (kf a p)=Gx e4.k.no (from_ e4.k.no (n+1)) (n+1):=by rw[hL,hm,kS hin];exact Pn (by omega) (Ia _)
    conv=>whnf
    repeat'((first|clear U K|apply st|(apply zk;intro K U)|refine zY ?_|refine Pure.Vk (hct2 false) (.cons (hs.HQ 2 rfl) (.cons (.refl _) .nil)) rfl ?_|fail)<;>conv=>whnf)
    exact⟨n+1,hlt,by rw[hwr];rfl,⟨by omega,by omega,hL2⟩,hs⟩
 .have h1:Hr e4.k.BW 3=false:=by
   rw[<-Bool.not_eq_true,<-hb3];omega
  exact AI ⟨_,⟨by rw[hP,h1];simp,_,got.ext,got.inv,rfl⟩,by simpa using Dp (X:=[]) (e:=e4) (e':=e4) rfl rfl rfl hs⟩
end Go.Gl
namespace Go.Gl
open Go.Proofs
attribute [local irreducible] Ar Aj AZ AQ AL AX AP AR AJ AW AM AN Am Av Sat AT As Aa W
def bO (w : AF) (hw:B3 w) (us:List Nat) {kf:Int->List Int->Kn} (hr:EK w kf) {a:Int} {p:List Int} (hp:p.length<=2) (up:Nat) (hup:up<18446744073709551616) (g:FuncId) (fi ca:List V) (can:Int->Bool) {L:Nat}
    (hcan: ∀s∈(kf a p).AH,∀es,Bx kf es->BS zP g (fi++[CG a (p++[s])]++ca) (Bs L es) fun r post=>r= .ret (.b (can s))/\G6 kf L es post) {es:List B6} (h:Bx kf es) :
    BS zP 217 [.a (gv w us L),CG a p,eU up,.f (.func g) fi ca] (Bs L es) fun r post=>r= .ret (.b (SN w kf a p up can))/\G6 kf L es post:=by
 intro Z hs;have hM:=Mx;refine xg kZ ?_;refine zz ?_;(repeat clear U K);repeat intro K U
 refine(nf w us h (a:=a) (p:=p) hp).use (rest:=[]) (by simpa using hs) ?_;clear hs;rintro r post Z ⟨es4,e4,got,rfl,rfl⟩ hs;have hek:=got.k;obtain⟨pre,post,rfl⟩:=List.append_of_mem got.mem;rw[FE]at hs;replace hs:=Jf (X:=[]) hs;have hok:=hr.ok a p;have hsl:=(hr.ok a p).2.2.2;have hsh:=hr.short a p;have hsw:=hr.AH a p;rw[<-hek]at hok hsl hsh hsw hcan;have hb1:bits .andNot .u64 (e4.k.BW:Int) (up:Int)=((L0 e4.k.BW up:Nat):Int):=IY;have hb2:bits .and .u64 (e4.k.Dt:Int) (up:Int)=((e4.k.Dt&&&up:Nat):Int):=Fw hok.2.1 hup;have hb3:=M0 (u:=up) hok.1
 have hP:SN w kf a p up can=(!e4.k.whole&&(Hr e4.k.BW up&&(e4.k.Dt&&&up==0&&e4.k.AH.all fun s=>if up.testBit (Bc w s).toNat then can s else !(kf a (p++[s])).Ac))):=by
  rw[SN,hek]
 generalize SN w kf a p up can=R at *;cases hwh:e4.k.whole<;>rw[hwh]at hP hs
 rotate_left
 .refine zz ?_;(repeat clear U K);repeat intro K U
  exact AI ⟨_,⟨by rw[hP];rfl,_,got.ext,got.inv,rfl⟩,by rw[<-hwh]at hs;simpa using Dp (X:=[]) (e:=e4) (e':=e4) rfl rfl rfl hs⟩
 have hcl: ∀ {Z:AE},Sat Z (.box e4.b [eU e4.k.BW,eU e4.k.Dt,eI e4.k.low,eI e4.k.high,e4.vn,.b false,.b e4.k.Ac,e4.vs]:: .own e4.vn 1 (iL e4.k.no):: .own e4.vs 1 (iL e4.k.AH)::([]++I8 L (pre++e4::post) pre post))->Sat Z (Bs L (pre++e4::post)):=fun h=>by
  rw[<-hwh]at h;simpa using Dp (X:=[]) (e:=e4) (e':=e4) rfl rfl rfl h
 conv=>whnf
 repeat'((first|clear U K|apply st|(apply zk;intro K U)|refine zY ?_|refine za (fun hc=>?_) fun hc=>?_|fail)<;>conv=>whnf)
 .have h2:(e4.k.Dt&&&up==0)=false:=by rw[beq_eq_false_iff_ne];omega
  exact AI ⟨_,⟨by rw[hP,h2];simp,_,got.ext,got.inv,rfl⟩,hcl hs⟩
 .have h1 : Hr e4.k.BW up=true:=hb3.1 (by omega)
  have h2:(e4.k.Dt&&&up==0)=true:=by rw[Cd];omega
  rw[h1,h2,Bool.not_false,Cm,Cm,Cm]at hP
  have hs1:Sat Z (.own e4.vs 1 (iL e4.k.AH)::gR L pre post e4 []):=by
   have h2:=HZ (X:=[]) (L:=L) (pre:=pre) (post:=post) (e:=e4) (s:=[]) (by simpa using hcl hs);simpa using h2
  clear hb1 hb2 hb3 h1 h2;refine CZ e4.k.AH.length (fun k (x:List B6)=>[(44,eI (BL k))]) (fun k x=> .own e4.vs 1 (iL e4.k.AH)::gR L pre post e4 x) (fun k x=>(Bx kf (pre++e4::(post++x))/\ ∀y∈x,y.k=k0)/\R=(e4.k.AH.drop k).all fun s=>if up.testBit (Bc w s).toNat then can s else !(kf a (p++[s])).Ac) [] rfl ⟨⟨by simpa using got.inv,by simp⟩,hP⟩ hs1 ?_;clear hs hs1 hP hcl;rintro k new Z hk ⟨⟨hinv,hnew⟩,hF⟩ hs;have hck:BL k=k:=Ag (by omega);rcases BF e4.k.AH hk with⟨s,hsk,hlt⟩|hke
  .have hsm:=CY hsk
   have hp2:p.length<2:=by
    rcases Nat.lt_or_ge p.length 2 with h'|h'
    .exact h'
    .rw[hsh h']at hsm;cases hsm
   obtain⟨hs0,hs1⟩:=hsw s hsm;obtain⟨o,ho⟩: ∃o,w.owner[s.toNat]? =some o:=⟨_,DC (by omega)⟩
   have hoI:Bc w s=o:=by simp only[Bc,C6,ho];rfl
   obtain⟨ho1,ho2⟩:=hw.2.2 o (CY ho);have hwp:=hw.1.1;rw[drop_cons hsk,R8,hoI]at hF;have hcx:=hcan s hsm
   conv=>whnf
   repeat'((first|clear U K|apply st|(apply zk;intro K U)|refine zY ?_|refine ze fun x hx=>?_|refine zs fun Z hs=>?_|refine Pure.use (MT a p _ hp2) ?_|refine zo fun nn hnn Z hs=>?_|fail)<;>conv=>whnf)
   obtain rfl:x=s:=by rw[hck,HP,hsk]at hx;exact(Option.some.inj hx).symm
   generalize nn=n7 at *;have hs2:Sat Z ([.box n7 (F0 a (p++[x]))]++Bs L (pre++e4::(post++new))):=HF (X:=[.box n7 (F0 a (p++[x]))]) (hs.perm (.swap _ _ _));clear hs;have hs:=hs2;clear hs2;have c2:=aM up o hup (by omega) (by omega);cases hbo:up.testBit o.toNat<;>rw[hbo]at hF c2
   .rw [if_neg (by decide)]at hF
    conv=>whnf
    repeat'((first|clear U K|apply st|(apply zk;intro K U)|refine zY ?_|refine zC ?_|fail)<;>conv=>whnf)
    refine(nf w us hinv (a:=a) (p:=p++[x]) (by simp;omega)).use (rest:=[.box n7 (F0 a (p++[x]))]) hs.flip ?_;clear hs;rintro r post' Z ⟨es5,e5,got5,rfl,rfl⟩ hs;have hek5:=congrArg Kn.Ac got5.k;obtain⟨newA,heA,hnA⟩:=got5.ext;obtain⟨pre5,post5,he5⟩:=List.append_of_mem got5.mem;have e7:es5=pre++e4::(post++(new++newA)):=by rw[heA];simp
    have hi7:=got5.inv;rw[e7]at hi7;have hn7: ∀y∈new++newA,y.k=k0:=fun y hy=>(D9.1 hy).elim (hnew y) (hnA y)
    rw[he5]at hs;replace hs:=Jf (X:=[.box n7 (F0 a (p++[x]))]) hs.flip;cases hnx:(kf a (p++[x])).Ac<;>rw[hnx]at hek5 hF<;>rw[hek5]at hs
    all_goals
     refine zz ?_;(repeat clear U K);repeat intro K U
     have hs3:Sat Z (Bs L (pre++e4::(post++(new++newA)))):=by
      rw[<-hek5]at hs;have h3:=Dp (X:=[.box n7 (F0 a (p++[x]))]) (e:=e5) (e':=e5) rfl rfl rfl hs;rw[<-he5,e7]at h3;exact h3.less (List.sublist_append_right _ _)
    .exact⟨hlt,new++newA,rfl,⟨⟨hi7,hn7⟩,by rw[hF];rfl⟩,HZ (X:=[]) hs3⟩
    .exact AI ⟨_,⟨by rw[hF];rfl,_,got.ext.trans ⟨_,by simp,hn7⟩,hi7,rfl⟩,hs3⟩
   .rw[if_pos rfl]at hF
    cases hcy:can x<;>rw[hcy]at hF hcx
    all_goals
     conv=>whnf
     repeat'((first|clear U K|apply st|(apply zk;intro K U)|refine zY ?_|refine zC ?_|fail)<;>conv=>whnf)
     refine BA ((hcx _ hinv).use (rest:=[.box n7 (F0 a (p++[x]))]) hs.flip ?_);clear hs;rintro r post' Z ⟨rfl,es6,⟨new6,he6,hn6⟩,hi6,rfl⟩ hs;have e7:es6=pre++e4::(post++(new++new6)):=by rw[he6];simp
     rw[e7]at hi6 hs;have hn7: ∀y∈new++new6,y.k=k0:=fun y hy=>(D9.1 hy).elim (hnew y) (hn6 y)
     have hs3:Sat Z (Bs L (pre++e4::(post++(new++new6)))):=hs.less (List.sublist_append_left _ _);clear hs;have hs:=hs3;refine zz ?_;(repeat clear U K);repeat intro K U
    .exact AI ⟨_,⟨by rw[hF];rfl,_,got.ext.trans ⟨_,by simp,hn7⟩,hi6,rfl⟩,hs3⟩
    .exact⟨hlt,new++new6,rfl,⟨⟨hi6,hn7⟩,by rw[hF];rfl⟩,HZ (X:=[]) hs3⟩
  .rw[Ao hke,List.all_nil]at hF
   refine zz ?_;(repeat clear U K);repeat intro K U
   exact AI ⟨_,⟨by rw[hF],_,got.ext.trans ⟨_,by simp,hnew⟩,hinv,rfl⟩,HF (X:=[]) hs⟩
 .have h1:Hr e4.k.BW up=false:=by
   rw[<-Bool.not_eq_true,<-hb3];omega
  exact AI ⟨_,⟨by rw[hP,h1];simp,_,got.ext,got.inv,rfl⟩,hcl hs⟩
end Go.Gl
namespace Go.Gl
open Go.Proofs
def Kl.len {es es':List B6} (h:Kl es es'):es.length<=es'.length:=by
 obtain⟨n,rfl,_⟩:=h;simp
attribute [local irreducible] Ar Aj AZ AQ AL AX AP AR AJ AW AM AN Am Av Sat AT As Aa W
def To (w : AF) (hw:B3 w) {kf:Int->List Int->Kn} (hr:EK w kf) {a:Int} {p:List Int} (hp:p.length<=2) (can:Int->Bool) {L:Nat}
    (hcan: ∀s∈(kf a p).AH,∀es,Bx kf es->BS zP 143 [.a (gv w (A5 w.parents) L),CG a (p++[s])] (Bs L es) fun r post=>r= .ret (.b (can s))/\G6 kf L es post) {es:List B6} (h:Bx kf es) :
    BS zP 143 [.a (gv w (A5 w.parents) L),CG a p] (Bs L es) fun r post=>r= .ret (.b (F1 kf a p||(DZ kf a p||Vf w kf a p can)))/\G6 kf L es post:=by
 intro Z hs;have hM:=Mx;have c1:=AAB w hr h (L:=L) (a:=a) hp;have c2:=fun {es} (h:Bx kf es)=>sB w hr h (L:=L) (a:=a) hp
 have hu:ra (A5 w.parents):=E9 _ _ (by have:=hw.1.1;omega);have hul:(A5 w.parents).length=3+w.parents.length:=C5 _ _;have hwp:=hw.1.1;have hP:Vf w kf a p can=(!(Dw w kf a p).testBit 1&&(!(Dw w kf a p).testBit 2&&SN w kf a p (Bp (A5 w.parents) w.parents.length (Dw w kf a p)) can)):=rfl;have hMu:Dw w kf a p=(kf a p).AH.foldl (fun m s=>if(kf a (p++[s])).Ac then m|||2 ^ (Bc w s).toNat else m) ((kf a p).BW|||2 ^ 0):=rfl;have hobj:=fun up hup es (hi:Bx kf es)=>bO w hw (A5 w.parents) hr hp up hup 143 [.a (gv w (A5 w.parents) L)] [] can (L:=L) hcan (es:=es) hi
 generalize A5 w.parents=us at *;generalize Vf w kf a p can=R at *;generalize Dw w kf a p=MU at *;cases hI:F1 kf a p<;>rw[hI]at c1
 rotate_left
 .refine Yz kZ ?_
  refine zz ?_;(repeat clear U K);repeat intro K U
  refine c1.use (rest:=[]) (by simpa using hs) ?_;clear hs;rintro r post Z ⟨rfl,es2,hx2,hi2,rfl⟩ hs;rw[FE]at hs;refine zz ?_;(repeat clear U K);repeat intro K U
  exact AI ⟨_,⟨rfl,es2,hx2,hi2,rfl⟩,hs⟩
 cases hN:DZ kf a p<;>rw[hN]at c2
 rotate_left
 .refine Yz kZ ?_
  refine zz ?_;(repeat clear U K);repeat intro K U
  refine c1.use (rest:=[]) (by simpa using hs) ?_;clear hs;rintro r post Z ⟨rfl,es2,hx2,hi2,rfl⟩ hs;rw[FE]at hs;refine zz ?_;(repeat clear U K);repeat intro K U
  refine(c2 hi2).use (rest:=[]) (by simpa using hs) ?_;clear hs;rintro r post Z ⟨rfl,es3,hx3,hi3,rfl⟩ hs;rw[FE]at hs;refine zz ?_;(repeat clear U K);repeat intro K U
  exact AI ⟨_,⟨rfl,es3,hx2.trans hx3,hi3,rfl⟩,hs⟩
 rw[Bool.false_or,Bool.false_or];refine Yz kZ ?_;refine zz ?_;(repeat clear U K);repeat intro K U
 refine c1.use (rest:=[]) (by simpa using hs) ?_;clear hs;rintro r post Z ⟨rfl,es2,hx2,hi2,rfl⟩ hs;rw[FE]at hs;refine zz ?_;(repeat clear U K);repeat intro K U
 refine(c2 hi2).use (rest:=[]) (by simpa using hs) ?_;clear hs;rintro r post Z ⟨rfl,es3,hx3,hi3,rfl⟩ hs;rw[FE]at hs;clear c1 c2;refine zz ?_;(repeat clear U K);repeat intro K U
 refine(nf w us hi3 (a:=a) (p:=p) hp).use (rest:=[]) (by simpa using hs) ?_;clear hs;rintro r post Z ⟨es4,e4,got,rfl,rfl⟩ hs;have hx4:=(hx2.trans hx3).trans got.ext;have hek:=got.k;obtain⟨pre,post,rfl⟩:=List.append_of_mem got.mem;rw[FE]at hs;replace hs:=HZ (X:=[]) (L:=L) (pre:=pre) (post:=post) (e:=e4) (s:=[]) (by simpa using hs);have hok:=hr.ok a p;have hsl:=(hr.ok a p).2.2.2;have hsh:=hr.short a p;have hsw:=hr.AH a p;rw[<-hek]at hok hsl hsh hsw hcan hMu;have hi4:=got.inv;clear got;have c3:=rm e4.k.BW 0 hok.1 (by decide);have hm0:e4.k.BW|||2 ^ 0<18446744073709551616:=H2 hok.1 (Gc (by decide))
 conv=>whnf
 repeat'((first|clear U K|apply st|(apply zk;intro K U)|refine zY ?_|refine zC ?_|fail)<;>conv=>whnf)
 refine CZ e4.k.AH.length (fun k (x:Nat×List B6)=>[(34,eI (BL k)),(6,eU x.1)]) (fun k x=> .own e4.vs 1 (iL e4.k.AH)::gR L pre post e4 x.2) (fun k x=>x.1<18446744073709551616/\(Bx kf (pre++e4::(post++x.2))/\ ∀y∈x.2,y.k=k0)/\MU=(e4.k.AH.drop k).foldl (fun m s=>if(kf a (p++[s])).Ac then m|||2 ^ (Bc w s).toNat else m) x.1) (e4.k.BW|||2 ^ 0,[]) rfl ⟨hm0,⟨by simpa using hi4,by simp⟩,hMu⟩ hs ?_;clear hs hMu hm0 c3 hi4;rintro k ⟨m,new⟩ Z hk ⟨hm,⟨hinv,hnew⟩,hF⟩ hs;dsimp only at hm hinv hnew hF hs;have hck:BL k=k:=Ag (by omega);rcases BF e4.k.AH hk with⟨s,hsk,hlt⟩|hke
 .have hsm:=CY hsk
  have hp2:p.length<2:=by
   rcases Nat.lt_or_ge p.length 2 with h'|h'
   .exact h'
   .rw[hsh h']at hsm;cases hsm
  obtain⟨hs0,hs1⟩:=hsw s hsm;obtain⟨o,ho⟩: ∃o,w.owner[s.toNat]? =some o:=⟨_,DC (by omega)⟩
  have hoI:Bc w s=o:=by simp only[Bc,C6,ho];rfl
  obtain⟨ho1,ho2⟩:=hw.2.2 o (CY ho);rw[drop_cons hsk,List.foldl_cons,hoI]at hF;have c3:=Nb m o hm (by omega) (by omega)
  conv=>whnf
  repeat'((first|clear U K|apply st|(apply zk;intro K U)|refine zY ?_|refine rk ?_ ?_|exact fun s e=>by cases e;rfl|refine ze fun x hx=>?_|refine Pure.use (MT a p _ hp2) ?_|fail)<;>conv=>whnf)
  obtain rfl:x=s:=by rw[hck,HP,hsk]at hx;exact(Option.some.inj hx).symm
  refine(nf w us hinv (a:=a) (p:=p++[x]) (by simp;omega)).use (rest:=[]) (by simpa using HF (X:=[]) (by simpa using hs)) ?_;clear hs;rintro r post' Z ⟨es5,e5,got5,rfl,rfl⟩ hs;have hek5:=congrArg Kn.Ac got5.k;obtain⟨newA,heA,hnA⟩:=got5.ext;obtain⟨pre5,post5,he5⟩:=List.append_of_mem got5.mem;have e7:es5=pre++e4::(post++(new++newA)):=by rw[heA];simp
  have hi7:=got5.inv;rw[e7]at hi7;have hn7: ∀y∈new++newA,y.k=k0:=fun y hy=>(D9.1 hy).elim (hnew y) (hnA y)
  rw[FE,he5]at hs;replace hs:=Jf (X:=[]) hs;have hob:2 ^ o.toNat<18446744073709551616:=Gc (by omega);cases hnx:(kf a (p++[x])).Ac<;>rw[hnx]at hek5 hF<;>rw[hek5]at hs
  all_goals
   conv=>whnf
   repeat'((first|clear U K|apply st|(apply zk;intro K U)|refine zY ?_|refine zC ?_|fail)<;>conv=>whnf)
   have hs3:Sat Z (Bs L (pre++e4::(post++(new++newA)))):=by
    rw[<-hek5]at hs;have h3:=Dp (X:=[]) (e:=e5) (e':=e5) rfl rfl rfl hs;rw[<-he5,e7]at h3;exact h3
  .exact⟨hlt,(m,new++newA),rfl,⟨hm,⟨hi7,hn7⟩,by rw[hF];rfl⟩,HZ (X:=[]) hs3⟩
  .exact⟨hlt,(m|||2 ^ o.toNat,new++newA),rfl,⟨H2 hm hob,⟨hi7,hn7⟩,by rw[hF];rfl⟩,HZ (X:=[]) hs3⟩
 .rw [Ao hke,List.foldl_nil]at hF
  subst hF;have d1:=tK MU 1 hm (by decide);have d2:=tK MU 2 hm (by decide);have hsc: ∀ {Z:AE},Sat Z (.own e4.vs 1 (iL e4.k.AH)::gR L pre post e4 new)->Sat Z (Bs L (pre++e4::(post++new))):=fun h=>HF (X:=[]) h
  have hx5:Kl es (pre++e4::(post++new)):=hx4.trans ⟨new,by simp,hnew⟩;cases hb1:MU.testBit 1<;>rw[hb1]at d1 hP
  rotate_left
  .conv=>whnf
   repeat'((first|clear U K|apply st|(apply zk;intro K U)|refine zY ?_|refine d1.use ?_|fail)<;>conv=>whnf)
   all_goals try(exfalso;omega)
   exact AI ⟨_,⟨by rw[hP];rfl,_,hx5,hinv,rfl⟩,hsc hs⟩
  cases hb2:MU.testBit 2<;>rw[hb2]at d2 hP
  rotate_left
  .conv=>whnf
   repeat'((first|clear U K|apply st|(apply zk;intro K U)|refine zY ?_|refine d1.use ?_|refine d2.use ?_|fail)<;>conv=>whnf)
   all_goals try(exfalso;omega)
   exact AI ⟨_,⟨by rw[hP];rfl,_,hx5,hinv,rfl⟩,hsc hs⟩
  conv=>whnf
  repeat'((first|clear U K|apply st|(apply zk;intro K U)|refine zY ?_|refine d1.use ?_|refine d2.use ?_|fail)<;>conv=>whnf)
  all_goals try(exfalso;omega)
  clear hke hck hk d1 d2 k;rw[Bool.not_false,Cm,Cm]at hP;have eul:((us.map fun u=>[eU u]).length:Int)=us.length:=by simp
  refine CZ us.length (fun k (x:Nat)=>[(73,eI (BL k)),(6,eU x)]) (fun _ _=> .own e4.vs 1 (iL e4.k.AH)::gR L pre post e4 new) (fun k x=>x<18446744073709551616/\x=Bp us (k - 3) MU) MU rfl ⟨hm,rfl⟩ hs ?_;clear hs;rintro k x Z hk ⟨hx64,hxe⟩ hs;have hck:BL k=k:=Ag (by omega);rcases BF us hk with⟨u,huk,hlt⟩|hke
  .have hbt:Bp us (k+1 - 3) MU=if 3<=k/\x.testBit k then x|||u else x:=by
    rcases Nat.lt_or_ge k 3 with h3|h3
    .rw[if_neg (fun h=>by omega),hxe,show k+1 - 3=k - 3 by omega]
    .obtain⟨j,rfl⟩: ∃j,k=3+j:=⟨k - 3,by omega⟩
     have eu:us.getD (3+j) 0=u:=by rw[C6,huk];rfl
     rw[show 3+j+1 - 3=j+1 by omega,Bp,show 3+j - 3=j by omega]at *;rw[<-hxe,eu];by_cases hb:x.testBit (3+j)=true
     .rw[if_pos hb,if_pos ⟨by omega,hb⟩]
     .rw[if_neg hb,if_neg (fun h=>hb h.2)]
   have hu64:u<18446744073709551616:=hu u (CY huk);have huc:us[(BL k).toNat]? =some u:=by rw[hck,HP];exact huk
   have d1:=aM x (BL k) hx64 (by omega) (by omega);have ekk:(BL k).toNat=k:=by rw[hck,HP]
   rw[ekk]at d1;cases hbk:x.testBit k<;>rw[hbk]at d1 hbt
   .rw[if_neg (fun h=>by cases h.2)]at hbt
    conv=>whnf
    repeat'((first|clear U K|apply st|(apply zk;intro K U)|refine zY ?_|refine d1.use ?_|(refine zd (fun hc=>?_) (fun hc=>?_)<;>try exact⟨⟩)|fail)<;>conv=>whnf)
    all_goals exact⟨hlt,x,rfl,⟨hx64,hbt.symm⟩,hs⟩
   .by_cases h3:3<=k
    .rw[if_pos ⟨h3,rfl⟩]at hbt
     conv=>whnf
     repeat'((first|clear U K|apply st|(apply zk;intro K U)|refine zY ?_|refine d1.use ?_|(refine zb (fun hc=>?_) (fun hc=>?_)<;>try exact⟨⟩)|fail)<;>conv=>whnf)
     all_goals try(exfalso;omega)
     all_goals exact⟨hlt,x|||u,by rw[HG hx64 hu64];rfl,⟨H2 hx64 hu64,hbt.symm⟩,hs⟩
    .rw[if_neg (fun h=>h3 h.1)]at hbt
     conv=>whnf
     repeat'((first|clear U K|apply st|(apply zk;intro K U)|refine zY ?_|(refine zb (fun hc=>?_) (fun hc=>?_)<;>try exact⟨⟩)|fail)<;>conv=>whnf)
     all_goals try(exfalso;omega)
     all_goals exact⟨hlt,x,rfl,⟨hx64,hbt.symm⟩,hs⟩
  .have hke3:k - 3=w.parents.length:=by omega
   rw[hke3]at hxe;rw[<-hxe]at hP;refine zz ?_;(repeat clear U K);repeat intro K U
   refine(hobj x hx64 _ hinv).use (rest:=[]) (by simpa using hsc hs) ?_;clear hs;rintro r post' Z ⟨rfl,es6,hx6,hi6,rfl⟩ hs;rw[FE]at hs;refine zz ?_;(repeat clear U K);repeat intro K U
   exact AI ⟨_,⟨by rw[hP],es6,hx5.trans hx6,hi6,rfl⟩,hs⟩
def rI (w:AF) (hw:B3 w) {kf:Int->List Int->Kn} (hr:EK w kf) (a:Int) {L:Nat}: ∀(d:Nat) (p:List Int),p.length+d=2-> ∀es,Bx kf es->
    BS zP 143 [.a (gv w (A5 w.parents) L),CG a p] (Bs L es) fun r post=>r= .ret (.b (SP w kf a d p))/\G6 kf L es post:=by
 intro d
 induction d with
 | zero=>
   intro p hp es h;rw[SP];exact To w hw hr (by omega) _ (fun s hs=>by rw[hr.short a p (by omega)]at hs;cases hs) h
 | succ d ih=>
   intro p hp es h;rw[SP];exact To w hw hr (by omega) _ (fun s _ es h=>ih (p++[s]) (by simp;omega) es h) h
end Go.Gl
namespace Go.Gl
open Go.Proofs
abbrev YP (p:Prog) (gen:Int) (ms:List Int):List V:=BR p++[eI gen,.l (iL ms) false]
structure YY (p:Prog) (ms:List Int):Prop where
 ok:E3 p
 L3: ∀m∈ms,Bb p m=true
 few:ms.length<=8
def Ck (s n:Nat):List Bool:=(List.range n).map s.testBit
def Tq (s n:Nat):(Ck s n).length=n:=by simp[Ck]
def Xc {s n i:Nat} (h:i<n):(Ck s n)[i]? =some (s.testBit i):=by
 rw[Ck,OR,List.getElem?_range h];rfl
abbrev Jb (p:Prog) (ms:List Int):List Fact:=ms.map fun m=>(BO p m).fact
def V0 (g:FuncId) (fi ca:List V) (w:AF) (tog:List Fact->Bool):Prop:= ∀l b,(∀x∈l,DY w x)->l.length<900->Pure zP g (fi++[LB l b]++ca) (.b (tog l))
abbrev iO (g:FuncId) (fi ca:List V) (p:Prog) (gen:Int) (ms:List Int) (s many nN:Nat):V:= .f (.func 208) [] [.rp [.f (.func g) fi ca],.rp [eI many],.rp (YP p gen ms),.rp [eU s],.p nN 0]
section
variable {g:FuncId} {fi ca:List V} {p:Prog} {gen:Int} {ms:List Int} {tog:List Fact->Bool}
def V6 (p:Prog) (ms:List Int) (s many i:Nat):List (List (List Fact)):=(dL ((Jb p ms).zip (Ck s many))).drop i
def dk {s many i:Nat} (h:many<=i):V6 p ms s many i= []:=List.drop_of_length_le (by simp[dL,Tq];omega)
def lX {s many i:Nat} {m:Int} (h:i<many) (hm:ms[i]? =some m):V6 p ms s many i=CT (BO p m).fact (!s.testBit i)::V6 p ms s many (i+1):=by
 refine drop_cons ?_;have hz:((Jb p ms).zip (Ck s many))[i]? =some ((BO p m).fact,s.testBit i):=List.getElem?_zip_eq_some.2 ⟨by rw[OR,hm];rfl,Xc h⟩;rw[dL,OR,hz];rfl
attribute [local irreducible] Ar Aj AZ AQ AL AX AP AR AJ AW AM AN Am Av Sat AT As Aa W
def pW (h:YY p ms) (hcan:V0 g fi ca (AK p) tog) {s many nN:Nat} (hs64:s<18446744073709551616) (hmn:many<=ms.length): ∀(d i:Nat) (l:List Fact) (b:Bool),i+d=many->(∀x∈l,DY (AK p) x)->l.length<=12*i-> ∀Z,Sat Z [.box nN [iO g fi ca p gen ms s many nN]]->
    Ar zP 208 [eI i,LB l b,.rp [.f (.func g) fi ca],.rp [eI many],.rp (YP p gen ms),.rp [eU s],.p nN 0] Z fun r Z'=>r= .ret (.b (O9 tog (V6 p ms s many i) l))/\Sat Z' [.box nN [iO g fi ca p gen ms s many nN]]:=by
 have hM:=Mx;have hfew:=h.few;intro d
 induction d with
 | zero=>
   intro i l b hid hl hln Z hs;have c1:=hcan l b hl (by omega);rw[dk (by omega),O9];cases ht:tog l<;>rw[ht]at c1
   all_goals
    refine Yx kZ ?_
    conv=>whnf
    repeat'((first|clear U K|apply st|(apply zk;intro K U)|refine zY ?_|refine rk ?_ ?_|exact fun s e=>by cases e;rfl|refine BA (c1.use ?_)|(refine zb (fun hc=>?_) (fun hc=>?_)<;>try exact⟨⟩)|fail)<;>conv=>whnf)
    all_goals try(exfalso;simp at hc;omega)
    all_goals exact AI ⟨rfl,hs⟩
 | succ d ih=>
   intro i l b hid hl hln Z hs;have c1:=hcan l b hl (by omega);obtain⟨m,hm⟩: ∃m,ms[i]? =some m:=⟨_,DC (by omega)⟩
   have hmm:=h.L3 m (CY hm);have hmP:=CX hmm;have hfa:=h.ok.facts _ (CY hmP);rw[lX (by omega) hm,O9];cases ht:tog l<;>rw[ht]at c1
   .refine Yx kZ ?_
    conv=>whnf
    repeat'((first|clear U K|apply st|(apply zk;intro K U)|refine zY ?_|refine BA (c1.use ?_)|fail)<;>conv=>whnf)
    all_goals exact AI ⟨rfl,hs⟩
   rw[Cm];have c2:=aM s (i:Int) hs64 (by omega) (by omega);have hlits:=O2 _ hfa.1;have hcl:=Rx _ (B7 _ hfa.1);have hcas:=m5 (BO p m).fact hfa.1 (by have:=hfa.2;omega);have hlv:=hfa.2;simp only[Bb,A0,CC]at hmm;have hm2:ms[((i:Nat):Int).toNat]? =some m:=by rw[HP];exact hm
   rw[HP]at c2;clear hfa;generalize BO p m=x at *
   have hT:aU 210 [] [.p nN 0,.rp [eI i]] [.box nN [iO g fi ca p gen ms s many nN]] (O9 tog (V6 p ms s many (i+1))) (fun y=>(∀z∈y,DY (AK p) z)/\y.length<=12*(i+1)):=by
    rintro y b' ⟨hy1,hy2⟩ Z hs;have hi:=ih (i+1) y b' (by omega) hy1 hy2;have hwi:IntKind.i64.wrap ((i:Int)+1)=((i+1:Nat):Int):=by rw[wrap64 (by omega) (by omega)];omega
    show Ar zP 210 [LB y b',.p nN 0,.rp [eI i]] Z _;refine xk kZ ?_;refine zz ?_;(repeat clear U K);repeat intro K U
    rw[hwi];refine BA (Ar.mono (hi Z hs) ?_);clear hs;rintro r Z ⟨rfl,hs⟩;refine zz ?_;(repeat clear U K);repeat intro K U
    exact AI ⟨rfl,hs⟩
   refine Yx kZ ?_
   conv=>whnf
   repeat'((first|clear U K|apply st|(apply zk;intro K U)|refine zY ?_|refine rk ?_ ?_|exact fun s e=>by cases e;rfl|refine BA (c1.use ?_)|refine c2.use ?_|(refine zb (fun hc=>?_) (fun hc=>?_)<;>try exact⟨⟩)|fail)<;>conv=>whnf)
   all_goals try(exfalso;simp at hc;omega)
   refine Ar.mono (hcas (!s.testBit i) 210 [] [.p nN 0,.rp [eI i]] _ _ _ l b hT (fun c hc=>⟨fun z hz=>(D9.1 hz).elim (hl z) (hlits _ c hc z),?_⟩) (by omega) Z hs) ?_
   .have:=hcl _ c hc
    rw[SB];omega
   clear hs;rintro r Z ⟨rfl,hs⟩;refine zz ?_;(repeat clear U K);repeat intro K U
   all_goals exact AI ⟨rfl,hs⟩
def rq (h:YY p ms) (hcan:V0 g fi ca (AK p) tog) {s many:Nat} (hs64:s<18446744073709551616) (hmn:many<=ms.length):Pure zP 207 [eU s,eI many,.rp [.f (.func g) fi ca],.rp (YP p gen ms)] (.b (GA tog (Jb p ms) (Ck s many))):=by
 refine Pure.of ?_;refine xm kZ ?_;have hs:=Sn
 conv=>whnf
 repeat'((first|clear U K|apply st|(apply zk;intro K U)|refine zY ?_|refine zs fun Z hs=>?_|refine zo fun nn hnn Z hs=>?_|fail)<;>conv=>whnf)
 refine BA (Ar.mono (pW h hcan hs64 hmn many 0 [] true (by omega) (fun x hx=>by cases hx) (by simp) _ hs) ?_);clear hs;rintro r Z ⟨rfl,hs⟩;refine zz ?_;(repeat clear U K);repeat intro K U
 exact AI rfl
end
end Go.Gl
namespace Go.Gl
open Go.Proofs
def Ww {w:AF} (hw:B3 w) {ls:List Fact} (h: ∀x∈ls,DY w x) (hlen:ls.length<900):EK w (kg ls):=by
 have hadd:=MV (by have:=hw.1.1;omega) h;have hr:=bB hw h hlen;have hW: ∀x∈ls,Dl w x:=fun x hx=>GK (h x hx)
 refine⟨fun a p=>?_,fun a p=>?_,fun a p hpl=>?_,fun a p s hs=>iR hW hs⟩
 .obtain⟨h1,h2,h3,h4⟩:=jY hadd a p
  exact⟨h1,h2,by omega,by omega⟩
 .rw[(KF (Gd ls a p).core).1]
  exact hr.low a p
 .have h0:=hr.short a p hpl
  refine List.eq_nil_iff_forall_not_mem.2 fun s hs=>?_
  have:=((Gd ls a p).AH s).1 hs;rw[h0]at this;cases this
attribute [local irreducible] Ar Aj AZ AQ AL AX AP AR AJ AW AM AN Am Av Sat AT As Aa W
def Wa {kf:Int->List Int->Kn} {L:Nat} (g:FuncId) (fi ca:List V) (can:Int->Bool) (hcan: ∀a:Int,0<=a->a<3-> ∀es,Bx kf es->BS zP g (fi++[CG a []]++ca) (Bs L es) fun r post=>r= .ret (.b (can a))/\G6 kf L es post) {es:List B6} (h:Bx kf es) :
    BS zP 141 [.f (.func g) fi ca] (Bs L es) fun r post=>r= .ret (.b ((BD 3).all can))/\G6 kf L es post:=by
 intro Z hs;have hM:=Mx;have hT:(BD 3).all can=(BD 3).all can:=rfl;generalize hR:(BD 3).all can=R at hT ⊢;refine yc kZ ?_;refine zz ?_;(repeat clear U K);repeat intro K U
 refine CZ 3 (fun k (_:List B6)=>[(4,eI (BL k))]) (fun _ x=>Bs L x) (fun k x=>(Bx kf x/\Kl es x)/\R=((BD 3).drop k).all can) es rfl ⟨⟨h,.refl _⟩,hR.symm⟩ hs ?_;clear hs hR hT;rintro k x Z hk ⟨⟨hi,hx⟩,hn⟩ hs;have hck:BL k=k:=Ag (by omega);rcases Nat.lt_or_ge k 3 with hlt|hge
 .rw[drop_cons (lY hlt),R8]at hn
  have hc1:=hcan (BL k) (by omega) (by omega) x hi;have e:can (BL k)=can (k:Int):=by rw[hck]
  rw[e]at hc1;cases hB:can (k:Int)<;>rw[hB]at hn hc1
  all_goals
   conv=>whnf
   repeat'((first|clear U K|apply st|(apply zk;intro K U)|refine zY ?_|(refine zb (fun hc=>?_) (fun hc=>?_)<;>try exact⟨⟩)|fail)<;>conv=>whnf)
   refine BA (hc1.use (rest:=[]) (by simpa using hs) ?_);clear hs;rintro r post Z ⟨rfl,es2,hx2,hi2,rfl⟩ hs;rw[FE]at hs;refine zz ?_;(repeat clear U K);repeat intro K U
  .exact AI ⟨_,⟨by rw[hn];rfl,es2,hx.trans hx2,hi2,rfl⟩,hs⟩
  .exact⟨hlt,es2,rfl,⟨⟨hi2,hx.trans hx2⟩,by rw[hn];rfl⟩,hs⟩
 .rw[List.drop_of_length_le (by rw[FX];omega)]at hn
  conv=>whnf
  repeat'((first|clear U K|apply st|(apply zk;intro K U)|refine zY ?_|(refine zb (fun hc=>?_) (fun hc=>?_)<;>try exact⟨⟩)|fail)<;>conv=>whnf)
  all_goals try(exfalso;omega)
  all_goals exact AI ⟨_,⟨by rw[hn];rfl,x,hx,hi,rfl⟩,hs⟩
def eH (w:AF) (hw:B3 w):V0 140 [] [.rp [.rp (gW w (A5 w.parents))]] w (n9 w):=by
 intro l b hl hlen;refine Pure.of ?_;show Ar zP 140 [LB l b,.rp [.rp (gW w (A5 w.parents))]] _ _;have hr:=Ww hw hl hlen;have hlk:=Xl w (A5 w.parents) l b (MV (by have:=hw.1.1;omega) hl) hlen;have hT:n9 w l=(BD 3).all fun a=>SP w (kg l) a 2 []:=rfl
 rw[hT];refine yd kZ ?_;have hs:=Sn;refine zz ?_;(repeat clear U K);repeat intro K U
 refine hlk.use (rest:=[]) (by simpa using hs) ?_;clear hs;rintro r post Z ⟨L,es,rfl,hinv,rfl⟩ hs;rw[FE]at hs
 conv=>whnf
 refine(Wa 143 [.a (gv w (A5 w.parents) L)] [] (fun a=>SP w (kg l) a 2 []) (fun a _ _ es hi=>rI w hw hr a 2 [] rfl es hi) hinv).use (rest:=[]) (by simpa using hs) ?_;clear hs;rintro r post Z ⟨rfl,es2,hx2,hi2,rfl⟩ hs;refine zz ?_;(repeat clear U K);repeat intro K U
 exact AI rfl
end Go.Gl
namespace Go.Gl
open Go.Proofs
abbrev zL (w:AF) (us:List Nat) (L:Nat) (cs:List Int) (f:Bool):List V:=[.rp (gW w us),.m L,.l (iL cs) f]
attribute [local irreducible] Ar Aj AZ AQ AL AX AP AR AJ AW AM AN Am Av Sat AT As Aa W
def Tp (w : AF) (hw:B3 w) {kf:Int->List Int->Kn} (hr:EK w kf) (cs:List Int) (f:Bool) (hcs:cs.length<=3) {a:Int} (ha:0<=a) {p:List Int} (hp:p.length<=2) (fit:Nat->Bool) (hfit:p= []/\fit=Hu cs a\/p≠[]/\fit=fun _=>true) (can:Int->Bool) {L:Nat}
    (hcan: ∀s∈(kf a p).AH,∀es,Bx kf es->BS zP 145 [.a (zL w (A5 w.parents) L cs f),CG a (p++[s])] (Bs L es) fun r post=>r= .ret (.b (can s))/\G6 kf L es post) {es:List B6} (h:Bx kf es) :
    BS zP 145 [.a (zL w (A5 w.parents) L cs f),CG a p] (Bs L es) fun r post=>r= .ret (.b ((List.range (3+w.parents.length)).any fun c=>decide (1<=c)&&(fit c&&Vv w kf a p can c)))/\G6 kf L es post:=by
 intro Z hs;have hM:=Mx;have hu:ra (A5 w.parents):=E9 _ _ (by have:=hw.1.1;omega);have hul:(A5 w.parents).length=3+w.parents.length:=C5 _ _;have hwp:=hw.1.1;have hint:=fun es (h:Bx kf es)=>AAB w hr h (L:=L) (a:=a) hp
 have hnon:=fun es (h:Bx kf es)=>sB w hr h (L:=L) (a:=a) hp
 have hobj:=fun up hup es (hi:Bx kf es)=>bO w hw (A5 w.parents) hr hp up hup 145 [.a (zL w (A5 w.parents) L cs f)] [] can (L:=L) hcan (es:=es) hi
 have hcP: ∀c,Vv w kf a p can c=if c=1 then F1 kf a p else if c=2 then DZ kf a p else SN w kf a p ((A5 w.parents).getD c 0) can:=fun _=>rfl
 generalize Vv w kf a p can=cP at *;generalize A5 w.parents=us at *;have eul:((us.map fun u=>[eU u]).length:Int)=us.length:=by simp
 have hR0:((List.range (3+w.parents.length)).any fun c=>decide (1<=c)&&(fit c&&cP c))=((List.range us.length).drop 1).any fun c=>decide (1<=c)&&(fit c&&cP c):=by
  rw[hul,show 3+w.parents.length=(2+w.parents.length)+1 by omega,List.range_succ_eq_map];simp
 generalize ((List.range (3+w.parents.length)).any fun c=>decide (1<=c)&&(fit c&&cP c))=R at *;refine yZ kZ ?_;refine zz ?_;(repeat clear U K);repeat intro K U
 refine CZ (us.length - 1) (fun k (_:List B6)=>[(5,eI ((k+1:Nat):Int))]) (fun _ x=>Bs L x) (fun k x=>(Bx kf x/\Kl es x)/\R=((List.range us.length).drop (k+1)).any fun c=>decide (1<=c)&&(fit c&&cP c)) es rfl ⟨⟨h,.refl _⟩,hR0⟩ hs ?_;clear hs hR0;rintro k x Z hk ⟨⟨hi,hx⟩,hn⟩ hs;have hwk:IntKind.i64.wrap (((k+1:Nat):Int)+1)=((k+1+1:Nat):Int):=by rw[wrap64 (by omega) (by omega)];omega
 rcases Nat.lt_or_ge k (us.length - 1)with hlt|hge
 .have hrk : (List.range us.length)[k+1]? =some (k+1):=List.getElem?_range (by omega)
  rw[drop_cons hrk,SA,decide_eq_true (show 1<=k+1 by omega),Cm]at hn;obtain⟨u,hu2⟩: ∃u,us[k+1]? =some u:=⟨_,DC (by omega)⟩
  have hu3:us[(((k+1:Nat):Int)).toNat]? =some u:=by rw[HP];exact hu2
  have hug:us.getD (k+1) 0=u:=by rw[C6,hu2];rfl
  have hu64:u<18446744073709551616:=hu u (CY hu2);have hck:=hcP (k+1);rw[hug]at hck
  have d216:k+1<3->BS zP 216 [.a (gv w us L),CG a p,eI ((k+1:Nat):Int)] (Bs L x) fun r post=>r= .ret (.b (cP (k+1)))/\G6 kf L x post:=fun h3=>by
   rcases k with _|_|k
   .rw[hck];exact hint x hi
   .rw[hck];exact hnon x hi
   .omega
  have d217:3<=k+1->BS zP 217 [.a (gv w us L),CG a p,eU u,.f (.func 145) [.a (zL w us L cs f)] []] (Bs L x) fun r post=>r= .ret (.b (cP (k+1)))/\G6 kf L x post:=fun h3=>by
   rw[hck,if_neg (by omega),if_neg (by omega)];exact hobj u hu64 x hi
  clear hck hint hnon hobj hcP;generalize cP (k+1)=B at *;rcases hfit with⟨rfl,rfl⟩|⟨hpn,rfl⟩
  .by_cases hac:a<(cs.length:Int)
   .obtain ⟨y,hy⟩: ∃y,cs[a.toNat]? =some y:=⟨_,DC (by omega)⟩
    have hfv:Hu cs a (k+1)=(y==((k+1:Nat):Int)):=by
     rw[Hu,decide_eq_false (by omega),Bool.false_or,C6,hy];rfl
    rw[hfv]at hn;by_cases hyk:y=((k+1:Nat):Int)
    .rw [Cd.2 hyk,Cm]at hn
     cases B
     all_goals
      conv=>whnf
      repeat'((first|clear U K|apply st|(apply zk;intro K U)|refine zY ?_|(refine zb (fun hc=>?_) (fun hc=>?_)<;>try exact⟨⟩)|fail)<;>conv=>whnf)
      all_goals try(exfalso;omega)
      all_goals try(exfalso;simp at hc;done)
      all_goals
       first
        | refine(d216 (by omega)).use (rest:=[]) (by simpa using hs) ?_
        | refine(d217 (by omega)).use (rest:=[]) (by simpa using hs) ?_
       clear hs;rintro r post Z ⟨rfl,es2,hx2,hi2,rfl⟩ hs;rw[FE]at hs
       conv=>whnf
       repeat'((first|clear U K|apply st|(apply zk;intro K U)|refine zY ?_|(refine zb (fun hc=>?_) (fun hc=>?_)<;>try exact⟨⟩)|fail)<;>conv=>whnf)
       first
        | exact AI ⟨_,⟨by rw[hn];rfl,es2,hx.trans hx2,hi2,rfl⟩,hs⟩
        | exact⟨by omega,es2,by rw[hwk];rfl,⟨⟨hi2,hx.trans hx2⟩,by rw[hn];rfl⟩,hs⟩
    .rw[beq_eq_false_iff_ne.2 hyk,Bool.false_and,Bool.false_or]at hn
     conv=>whnf
     repeat'((first|clear U K|apply st|(apply zk;intro K U)|refine zY ?_|(refine zb (fun hc=>?_) (fun hc=>?_)<;>try exact⟨⟩)|fail)<;>conv=>whnf)
     all_goals try(exfalso;omega)
     all_goals try(exfalso;simp at hc;done)
     all_goals try exact absurd (by assumption) hyk
     all_goals try exact absurd rfl (by assumption)
     all_goals exact⟨by omega,x,by rw[hwk];rfl,⟨⟨hi,hx⟩,hn⟩,hs⟩
   .have hfv:Hu cs a (k+1)=true:=by rw[Hu,decide_eq_true (by omega)];rfl
    rw[hfv,Cm]at hn;cases B
    all_goals
     conv=>whnf
     repeat'((first|clear U K|apply st|(apply zk;intro K U)|refine zY ?_|(refine zb (fun hc=>?_) (fun hc=>?_)<;>try exact⟨⟩)|fail)<;>conv=>whnf)
     all_goals try(exfalso;omega)
     all_goals try(exfalso;simp at hc;done)
     all_goals
      first
       | refine(d216 (by omega)).use (rest:=[]) (by simpa using hs) ?_
       | refine(d217 (by omega)).use (rest:=[]) (by simpa using hs) ?_
      clear hs;rintro r post Z ⟨rfl,es2,hx2,hi2,rfl⟩ hs;rw[FE]at hs
      conv=>whnf
      repeat'((first|clear U K|apply st|(apply zk;intro K U)|refine zY ?_|(refine zb (fun hc=>?_) (fun hc=>?_)<;>try exact⟨⟩)|fail)<;>conv=>whnf)
      first
       | exact AI ⟨_,⟨by rw[hn];rfl,es2,hx.trans hx2,hi2,rfl⟩,hs⟩
       | exact⟨by omega,es2,by rw[hwk];rfl,⟨⟨hi2,hx.trans hx2⟩,by rw[hn];rfl⟩,hs⟩
  .rw [Cm]at hn
   have hpl:p.length≠0:=fun e=>hpn (YM.1 e)
   cases B
   all_goals
    conv=>whnf
    repeat'((first|clear U K|apply st|(apply zk;intro K U)|refine zY ?_|(refine zb (fun hc=>?_) (fun hc=>?_)<;>try exact⟨⟩)|fail)<;>conv=>whnf)
    all_goals try(exfalso;omega)
    all_goals try(exfalso;simp at hc;done)
    all_goals
     first
      | refine(d216 (by omega)).use (rest:=[]) (by simpa using hs) ?_
      | refine(d217 (by omega)).use (rest:=[]) (by simpa using hs) ?_
     clear hs;rintro r post Z ⟨rfl,es2,hx2,hi2,rfl⟩ hs;rw[FE]at hs
     conv=>whnf
     repeat'((first|clear U K|apply st|(apply zk;intro K U)|refine zY ?_|(refine zb (fun hc=>?_) (fun hc=>?_)<;>try exact⟨⟩)|fail)<;>conv=>whnf)
     first
      | exact AI ⟨_,⟨by rw[hn];rfl,es2,hx.trans hx2,hi2,rfl⟩,hs⟩
      | exact⟨by omega,es2,by rw[hwk];rfl,⟨⟨hi2,hx.trans hx2⟩,by rw[hn];rfl⟩,hs⟩
 .rw[List.drop_of_length_le (by rw[List.length_range];omega),List.any_nil]at hn
  conv=>whnf
  repeat'((first|clear U K|apply st|(apply zk;intro K U)|refine zY ?_|(refine zb (fun hc=>?_) (fun hc=>?_)<;>try exact⟨⟩)|fail)<;>conv=>whnf)
  all_goals try(exfalso;omega)
  all_goals exact AI ⟨_,⟨by rw[hn],x,hx,hi,rfl⟩,hs⟩
def rJ (w:AF) (hw:B3 w) {kf:Int->List Int->Kn} (hr:EK w kf) (cs:List Int) (f:Bool) (hcs:cs.length<=3) {a:Int} (ha:0<=a) {L:Nat}: ∀(d:Nat) (fit:Nat->Bool) (p:List Int),p.length+d=2->(p= []/\fit=Hu cs a\/p≠[]/\fit=fun _=>true)-> ∀es,Bx kf es->
    BS zP 145 [.a (zL w (A5 w.parents) L cs f),CG a p] (Bs L es) fun r post=>r= .ret (.b (SQ w kf a d fit p))/\G6 kf L es post:=by
 intro d
 induction d with
 | zero=>
   intro fit p hp hfit es h;rw[SQ];exact Tp w hw hr cs f hcs ha (by omega) fit hfit _ (fun s hs=>by rw[hr.short a p (by omega)]at hs;cases hs) h
 | succ d ih=>
   intro fit p hp hfit es h;rw[SQ];exact Tp w hw hr cs f hcs ha (by omega) fit hfit _ (fun s _ es h=>ih (fun _=>true) (p++[s]) (by simp;omega) (.inr ⟨by simp,rfl⟩) es h) h
def aj (w:AF) (hw:B3 w) (cs:List Int) (f:Bool) (hcs:cs.length<=3):V0 144 [] [.rp [.rp (gW w (A5 w.parents))],.rp [.l (iL cs) f]] w (dA w cs):=by
 intro l b hl hlen;refine Pure.of ?_;show Ar zP 144 [LB l b,.rp [.rp (gW w (A5 w.parents))],.rp [.l (iL cs) f]] _ _;have hr:=Ww hw hl hlen;have hlk:=Xl w (A5 w.parents) l b (MV (by have:=hw.1.1;omega) hl) hlen;have hT:dA w cs l=(BD 3).all fun a=>SQ w (kg l) a 2 (Hu cs a) []:=rfl
 rw[hT];refine ya kZ ?_;have hs:=Sn;refine zz ?_;(repeat clear U K);repeat intro K U
 refine hlk.use (rest:=[]) (by simpa using hs) ?_;clear hs;rintro r post Z ⟨L,es,rfl,hinv,rfl⟩ hs;rw[FE]at hs
 conv=>whnf
 repeat'((first|apply st|refine rk ?_ ?_|exact fun s e=>by cases e;rfl|fail)<;>conv=>whnf)
 refine(Wa 145 [.a (zL w (A5 w.parents) L cs f)] [] (fun a=>SQ w (kg l) a 2 (Hu cs a) []) (fun a h0 _ es hi=>rJ w hw hr cs f hcs h0 2 (Hu cs a) [] rfl (.inl ⟨rfl,rfl⟩) es hi) hinv).use (rest:=[]) (by simpa using hs) ?_;clear hs;rintro r post Z ⟨rfl,es2,hx2,hi2,rfl⟩ hs;refine zz ?_;(repeat clear U K);repeat intro K U
 exact AI rfl
end Go.Gl
namespace Go.Gl
open Go.Proofs
attribute [local irreducible] Ar Aj AZ AQ AL AX AP AR AJ AW AM AN Am Av Sat AT As Aa W
abbrev na (p:Prog) (gen:Int):List V:=BR p++[eI gen,.l (iL (Gw p gen)) false]
abbrev zi:List V:=[.l [] true,eI 0,.l [] true,.l [] true,.l [] true,eI 0,eI 0,.l [] true]
def ABe (p:Prog) (gen:Int):Pure zP 131 [.a (BR p),eI gen] (.t [.a (if FI p gen then na p gen else zi),.b (FI p gen)]):=by
 refine Pure.fit (by kernel_rfl) fun hf=>?_
 have hP:=L6 hf.1;have⟨p1,p2,p3,p4⟩:=G7 hf.1;have hM:=Mx;have c1:=Xn p;rw[FI];cases h1:(BQ p).isSome<;>rw[h1]at c1
 .rw[if_neg (by decide)]at c1
  refine Y0 kZ ?_;have hs:=Sn;exact zW
 rw[if_pos rfl]at c1;have h16:=(look_ok h1).many;cases h2:Ja p gen
 .simp only[Ja,Bool.and_eq_false_iff,decide_eq_false_iff_not]at h2
  refine Y0 kZ ?_;have hs:=Sn
  conv=>whnf
  repeat'((first|clear U K|apply st|(apply zk;intro K U)|refine zY ?_|refine zs fun Z hs=>?_|refine zC ?_|(refine zb (fun hc=>?_) (fun hc=>?_)<;>try exact⟨⟩)|refine zo fun nn hnn Z hs=>?_|fail)<;>conv=>whnf)
  all_goals first
   | exact AG rfl
   | (exfalso;simp at *;omega)
 have h2r:=h2;simp only[Ja,A0,CC]at h2r;refine Y0 kZ ?_;have hs:=Sn
 conv=>whnf
 repeat'((first|clear U K|apply st|(apply zk;intro K U)|refine zY ?_|refine zs fun Z hs=>?_|refine zC ?_|(refine zb (fun hc=>?_) (fun hc=>?_)<;>try exact⟨⟩)|refine zo fun nn hnn Z hs=>?_|fail)<;>conv=>whnf)
 rename_i n4 _ _ _ _ _ _ _;refine CZ p.methods.length (fun k (_:V)=>[(30,eI (BL k))]) (fun k v=>[.box nn (BR p++[eI gen,v]),.box n4 zi,.own v 1 (iL (gN p gen k))]) (fun _ _=>True) (.l [] true) rfl trivial (Gy hs 1) ?_;clear hs;rintro k v Z hk - hs;have hal:=qN p gen k;rcases BF p.methods hk with⟨x,hx,hlt⟩|hke
 .have hck:BL k=k:=Ag (by omega)
  have hxe:=pZ hx;have hst:=mT p gen k;rw[hxe]at hst;generalize gN p gen k=zl at *;have hll:zl.length<Ae/\(zl.length+1)*8<=140737488355328:=by omega
  by_cases hg:x.gen=gen
  .rw[if_pos (Cd.2 hg)]at hst
   conv=>whnf
   repeat'((first|clear U K|apply st|(apply zk;intro K U)|refine zY ?_|refine zs fun Z hs=>?_|refine aq fun v Z hs hsl=>?_|(refine zb (fun hc=>?_) (fun hc=>?_)<;>try exact⟨⟩)|refine zo fun nn hnn Z hs=>?_|fail)<;>conv=>whnf)
   exact⟨hlt,_,rfl,trivial,by rw[hst,<-hck];exact hs.less (K7 _ _)⟩
  .rw[if_neg (by simpa using hg)]at hst
   conv=>whnf
   repeat'((first|clear U K|apply st|(apply zk;intro K U)|refine zY ?_|refine zs fun Z hs=>?_|(refine zb (fun hc=>?_) (fun hc=>?_)<;>try exact⟨⟩)|refine zo fun nn hnn Z hs=>?_|fail)<;>conv=>whnf)
   exact⟨hlt,_,rfl,trivial,by rw[hst];exact hs.less (K7 _ _)⟩
 .rw[hke]at hs
  refine zz ?_;(repeat clear U K);repeat intro K U
  have o1:=Ic hs 2 rfl;refine Jo hs 1 rfl rfl rfl (by simp[BR,o1]) (by decide) fun Z hs=>?_
  clear o1;refine zz ?_;(repeat clear U K);repeat intro K U
  exact BZ (.t (.cons (.a (.cons (.refl _) (.cons (.refl _) (.cons (.refl _) (.cons (.refl _) (.cons (.refl _) (.cons (.refl _) (.cons (.refl _) (.cons (hs.HQ 2 rfl) .nil))))))))) (.cons (.refl _) .nil)))
def AAl (p:Prog) (gen:Int):Pure zP 132 [.a (na p gen)] (eI (if(Gw p gen).length<=8 then 0 else 3)):=by
 have e1:((iL (Gw p gen)).length:Int)=(Gw p gen).length:=by simp
 refine yi kZ ?_;have hs:=Sn
 conv=>whnf
 repeat'((first|clear U K|apply st|(apply zk;intro K U)|refine zY ?_|(refine zd (fun hc=>?_) (fun hc=>?_)<;>try exact⟨⟩)|fail)<;>conv=>whnf)
 .exact AG (by rw[if_neg (by omega)])
 .exact AG (by rw[if_pos (by omega)])
def setP (p:Prog) (gen:Int) (l:List Int) (f:Bool):Pure zP 61 [.a (na p gen),.l (iL l) f] (.b (JO p gen l)):=by
 refine Pure.fit (by kernel_rfl) fun hf=>?_
 have hl:=QS hf.2.1;have hM:=Mx;refine ABN kZ ?_;have hs:=Sn;refine zz ?_;(repeat clear U K);repeat intro K U
 refine CZ l.length (fun i (_:Unit)=>[(9,eI (BL i))]) (fun _ _=>[]) (fun i _=> ∀k,k<i->SM p gen l k=true) () rfl (fun k h=>by omega) hs ?_;clear hs;rintro i - Z hi ho hs;rcases BF l hi with⟨x,hx,hlt⟩|hie
 .have hci:BL i=i:=Ag (by omega)
  have hx0:=EZ hx;have hbad:=fun h=>lW (p:=p) (gen:=gen) hlt h
  have hgood:SM p gen l i=true-> ∀k,k<i+1->SM p gen l k=true:=fun h k hk=>by
   rcases Nat.lt_or_ge k i with h1|h1
   .exact ho k h1
   .rw[show k=i by omega];exact h
  rw[SM,hx0,<-Bool.and_assoc,<-Pe]at hbad hgood;have c1:=Cr (Gw p gen) false x;cases hmx:(Gw p gen).contains x<;>rw[hmx]at c1 hbad hgood
  .conv=>whnf
   repeat'((first|clear U K|apply st|(apply zk;intro K U)|refine zY ?_|refine zC ?_|fail)<;>conv=>whnf)
   all_goals exact AG (by rw[hbad rfl])
  .rcases Nat.eq_zero_or_pos i with h0|h0
   .subst h0
    conv=>whnf
    repeat'((first|clear U K|apply st|(apply zk;intro K U)|refine zY ?_|refine zC ?_|(refine zb (fun hc=>?_) (fun hc=>?_)<;>try exact⟨⟩)|fail)<;>conv=>whnf)
    all_goals try(exfalso;simp[hci]at hc;done)
    all_goals exact⟨hlt,(),rfl,hgood (by simp),hs⟩
   .obtain⟨z,hz⟩: ∃z,l[i - 1]? =some z:=⟨_,DC (by omega)⟩
    have hz0:=EZ hz;rw[hz0]at hbad hgood;have hwi:IntKind.i64.wrap ((i:Int) - 1)=((i - 1:Nat):Int):=by rw[wrap64 (by omega) (by omega)];omega
    have hw0:0<=IntKind.i64.wrap (BL i - 1):=by rw[hci,hwi];omega
    have hwz:l[(IntKind.i64.wrap (BL i - 1)).toNat]? =some z:=by rw[hci,hwi];simpa using hz
    clear hwi;by_cases hzx:z≥x
    .conv=>whnf
     repeat'((first|clear U K|apply st|(apply zk;intro K U)|refine zY ?_|refine zC ?_|(refine zb (fun hc=>?_) (fun hc=>?_)<;>try exact⟨⟩)|fail)<;>conv=>whnf)
     all_goals try(exfalso;simp at hc;omega)
     all_goals exact AG (by rw[hbad (by simp[h0,hzx])])
    .conv=>whnf
     repeat'((first|clear U K|apply st|(apply zk;intro K U)|refine zY ?_|refine zC ?_|(refine zb (fun hc=>?_) (fun hc=>?_)<;>try exact⟨⟩)|fail)<;>conv=>whnf)
     all_goals try(exfalso;simp at hc;omega)
     all_goals exact⟨hlt,(),rfl,hgood (by simp;omega),hs⟩
 .have hsb:JO p gen l=true:=an fun k hk=>ho k (by omega)
  refine zz ?_;(repeat clear U K);repeat intro K U
  all_goals exact AG (by rw[hsb])
def ie (a b c:Bool):Pure zP 134 [.b a,.b b,.b c] (eI (if a then 4 else if b then 3 else if c then 2 else 1)):=by
 cases a<;>cases b<;>cases c
 all_goals
  refine yg kZ ?_;have hs:=Sn;exact zW
def len0 (l:List Int):(((iL l).length:Int)==0)=decide (l.length=0):=by
 rw[Ca,G3,Cd,CC];omega
def jB (p:Prog) (gen:Int) (l:List Int) (f:Bool) (h:FI p gen=true) (hB:JO p gen l=true):Pure zP 62 [.a (na p gen),.l (iL l) f] (eI (cn p l)):=by
 rw[FI,A0]at h;have hok:=look_ok h.1;have c1:=zD p l f (Nat.le_trans (lV hB) (Nat.le_trans hok.many (by decide)));rw[UN,h.1,S8 hB,Bool.and_self,if_pos rfl]at c1;rw[cn];clear h hok hB;generalize EH (Au p) p l=x at *;obtain⟨⟨ar,NP,be,pr,prt,af⟩,b⟩:=x;cases b
 .rw[show OW (⟨ar,NP,be,pr,prt,af⟩,false)=(sh,5) from rfl]at c1
  refine sR kZ ?_;have hs:=Sn
  conv=>whnf
  repeat'((first|clear U K|apply st|(apply zk;intro K U)|refine zY ?_|refine zs fun Z hs=>?_|refine c1.use ?_|refine Pure.use (ie _ _ _) ?_|(refine zb (fun hc=>?_) (fun hc=>?_)<;>try exact⟨⟩)|refine zo fun nn hnn Z hs=>?_|fail)<;>conv=>whnf)
  all_goals exact AG rfl
 rw[show OW (⟨ar,NP,be,pr,prt,af⟩,true)=(⟨ar,NP,be,pr,prt,af⟩,0) from rfl]at c1;rw[te];cases ha:decide (ar.length=0)<;>cases hp:decide (pr.length=0)<;>cases NP<;>cases prt
 all_goals
  first|replace ha:=of_decide_eq_true ha|replace ha:=of_decide_eq_false ha
  first|replace hp:=of_decide_eq_true hp|replace hp:=of_decide_eq_false hp
  refine sR kZ ?_;have hs:=Sn
  conv=>whnf
  repeat'((first|clear U K|apply st|(apply zk;intro K U)|refine zY ?_|refine zs fun Z hs=>?_|refine c1.use ?_|refine Pure.use (ie _ _ _) ?_|(refine zb (fun hc=>?_) (fun hc=>?_)<;>try exact⟨⟩)|refine zo fun nn hnn Z hs=>?_|fail)<;>conv=>whnf)
  all_goals first|exact AG rfl|exact AG (by simp only[len0];simp[ha,hp])
def NZ (p:Prog) (gen:Int) (b:Bool):Int:=if FI p gen then(if b then(if(Gw p gen).length<=8 then 0 else 3)else 2)else 2
abbrev Yd (p:Prog) (gen:Int) (b:Bool):List V:=if FI p gen&&b then na p gen else zi
def H8 {p:Prog} {gen:Int} (h:FI p gen=false) (b:Bool):Yd p gen b=zi/\NZ p gen b=2:=by rw[Yd,NZ,h];exact⟨rfl,rfl⟩
def QH {p:Prog} {gen:Int}:Yd p gen false=zi/\NZ p gen false=2:=by
 rw[Yd,NZ,Bool.and_false];exact⟨rfl,by split<;>rfl⟩
def Ga {p:Prog} {gen:Int} (h:FI p gen=true):Yd p gen true=na p gen/\NZ p gen true=if(Gw p gen).length<=8 then 0 else 3:=by rw[Yd,NZ,h];exact⟨rfl,rfl⟩
def Ui (p:Prog) (gen:Int) (k:Nat) (ca:List V) (b:Bool) (c2:FI p gen=true->Pure zP k (.a (na p gen)::ca) (.b b)):Pure zP 59 [.a (BR p),eI gen,.f (.func k) [] ca] (.t [.a (Yd p gen b),eI (NZ p gen b)]):=by
 have c1:=ABe p gen;have c3:=AAl p gen;cases h1:FI p gen<;>rw[h1]at c1
 .rw[(H8 h1 b).1,(H8 h1 b).2]
  rw[if_neg (by decide)]at c1;refine iW kZ ?_;have hs:=Sn;exact zW
 replace c2:=c2 h1;rw[if_pos rfl]at c1;cases b
 .rw[QH.1,QH.2]
  refine iW kZ ?_;have hs:=Sn
  conv=>whnf
  repeat'((first|clear U K|apply st|(apply zk;intro K U)|refine zY ?_|refine zs fun Z hs=>?_|refine c1.use ?_|refine BA (c2.use ?_)|refine zo fun nn hnn Z hs=>?_|fail)<;>conv=>whnf)
  all_goals exact AG rfl
 .rw[(Ga h1).1,(Ga h1).2]
  refine iW kZ ?_;have hs:=Sn
  conv=>whnf
  repeat'((first|clear U K|apply st|(apply zk;intro K U)|refine zY ?_|refine rk ?_ ?_|exact fun s e=>by cases e;rfl|refine zs fun Z hs=>?_|refine c1.use ?_|refine BA (c2.use ?_)|refine c3.use ?_|refine zo fun nn hnn Z hs=>?_|fail)<;>conv=>whnf)
  all_goals exact AG rfl
def fh (p:Prog) (gen:Int) (l:List Int) (f:Bool):Pure zP 60 [.a (na p gen),.rp [.l (iL l) f]] (.b (JO p gen l)):=by
 have c1:=setP p gen l f;refine ABO kZ ?_;have hs:=Sn;exact zW
def y9 (p:Prog) (gen:Int) (l:List Int) (f:Bool):Pure zP 15 [.a (BR p),eI gen,.l (iL l) f] (.t [eI (UL p gen l).1,eI (UL p gen l).2]):=by
 have c1:=Ui p gen 60 [.rp [.l (iL l) f]] (JO p gen l) fun _=>fh p gen l f
 rw[UL];cases h1:FI p gen
 .rw[(H8 h1 _).1,(H8 h1 _).2]at c1
  rw[if_neg (by decide)];refine aQ kZ ?_;have hs:=Sn;exact zW
 rw[if_pos rfl];cases h2:JO p gen l<;>rw[h2]at c1
 .rw[QH.1,QH.2]at c1
  rw[if_neg (by decide)];refine aQ kZ ?_;have hs:=Sn;exact zW
 rw[(Ga h1).1,(Ga h1).2]at c1;rw[if_pos rfl];have c2:=jB p gen l f h1 h2;by_cases h3:(Gw p gen).length<=8
 .rw[if_pos h3]at c1 ⊢
  refine aQ kZ ?_;have hs:=Sn;exact zW
 .rw[if_neg h3]at c1 ⊢
  refine aQ kZ ?_;have hs:=Sn;exact zW
end Go.Gl
namespace Go.Gl
open Go.Proofs
def Lw (so:Nat->Nat->Bool):Nat->Nat->Nat->List Nat
 | 0,many,s=>if so s many then [s]else []
 | d+1,many,s=>if so s many then Lw so d (many+1) s++Lw so d (many+1) (s|||2 ^ many)else []
def R1 (s n:Nat):Ck s (n+1)=Ck s n++[s.testBit n]:=by simp[Ck,List.range_succ]
def R0 {s n:Nat} (h:s<2 ^ n):Ck (s|||2 ^ n) (n+1)=Ck s n++[true]/\Ck s (n+1)=Ck s n++[false]/\s|||2 ^ n<2 ^ (n+1)/\s<2 ^ (n+1):=by
 have hp:2 ^ n<2 ^ (n+1):=Nat.pow_lt_pow_right (by omega) (by omega);have hn:s.testBit n=false:=Nat.testBit_lt_two_pow h;refine⟨?_,by rw[R1,hn],Nat.or_lt_two_pow (by omega) hp,by omega⟩;rw[R1,D5,hn];simp only[beq_self_eq_true,Bool.or_true];congr 1;refine List.map_congr_left fun i hi=>?_
 rw[D5,beq_eq_false_iff_ne.2 (by have:=List.mem_range.1 hi;omega),Bool.or_false]
def UX {so:Nat->Nat->Bool} {E:List Bool->Bool}: ∀(d many s:Nat),s<2 ^ many->(∀s n,n<=many+d->so s n=E (Ck s n))->(Lw so d many s).map (fun x=>Ck x (many+d))=JR E d (Ck s many)/\ ∀x∈Lw so d many s,x<2 ^ (many+d)
 | 0,many,s,hs,hE=>by
   rw[Lw,JR,hE s many (by omega)];split
   .exact⟨rfl,fun x hx=>by rw[Lp.1 hx];exact hs⟩
   .exact⟨rfl,fun x hx=>by cases hx⟩
 | d + 1,many,s,hs,hE=>by
   obtain⟨b1,b2,b3,b4⟩:=R0 hs;obtain⟨i1,i2⟩:=UX (so:=so) (E:=E) d (many+1) s b4 (fun s n hn=>hE s n (by omega));obtain⟨j1,j2⟩:=UX (so:=so) (E:=E) d (many+1) (s|||2 ^ many) b3 (fun s n hn=>hE s n (by omega));rw[b2]at i1;rw[b1]at j1;rw[show many+1+d=many+(d+1) by omega]at i1 i2 j1 j2;rw[Lw,JR,hE s many (by omega)];split
   .refine⟨by rw[VV,i1,j1],fun x hx=>?_⟩
    rcases D9.1 hx with hx|hx
    .exact i2 x hx
    .exact j2 x hx
   .exact⟨rfl,fun x hx=>by cases hx⟩
abbrev soV (g:FuncId) (fi ca:List V) (p:Prog) (gen:Int) (ms:List Int):V:= .f (.func 207) [] [.rp [.f (.func g) fi ca],.rp (YP p gen ms)]
abbrev AAM (p:Prog) (gen:Int) (ms:List Int) (yv:V) (nS nW:Nat):V:= .f (.func 211) [] [.p nS 0,.rp (YP p gen ms),.rp [yv],.p nW 0]
section
variable {g:FuncId} {fi ca:List V} {p:Prog} {gen:Int} {ms:List Int} {tog:List Fact->Bool}
attribute [local irreducible] Ar Aj AZ AQ AL AX AP AR AJ AW AM AN Am Av Sat AT As Aa W
def WV {α S:Type} (P:Program) (x:V) (ea:α->V) (HL:S->List At->Prop) (stp:α->S->Bool×S) (D:α->S->Prop) (pre:List At):Prop:=
 ∀y s,D y s-> ∀l Z,HL s l->Sat Z (pre++l)->Am P x [ea y] Z fun r Z'=>r= .ret (.b (stp y s).1)/\ ∃l',HL (stp y s).2 l'/\Sat Z' (pre++l')
def WV.use {α S:Type} {P:Program} {x:V} {ea:α->V} {HL:S->List At->Prop} {stp:α->S->Bool×S} {D:α->S->Prop} {pre:List At} (h:WV P x ea HL stp D pre) {y:α} {s:S} (hd:D y s) {l:List At} {Z:AE} (hl:HL s l) (hs:Sat Z (pre++l)) {k kp:V->AE->Prop} (hk: ∀l' Z',HL (stp y s).2 l'->Sat Z' (pre++l')->k (.b (stp y s).1) Z'):Am P x [ea y] Z (qk k kp):=
 (h y s hd l Z hl hs).mono fun r Z' ⟨e,l',h1,h2⟩=>by rw[e];exact hk l' Z' h1 h2
abbrev oF (g:FuncId) (fi ca:List V) (p:Prog) (gen:Int) (ms:List Int) (yv:V) (nS nW:Nat):List At:=[.box nW [AAM p gen ms yv nS nW],.box nS [soV g fi ca p gen ms]]
def oU {S:Type} (h:YY p ms) (hcan:V0 g fi ca (AK p) tog) {fn:Fn} {fiy cay:List V} {HL:S->List At->Prop} {stp:Nat->S->Bool×S} {D:Nat->S->Prop} {nS nW:Nat}
    (hy:WV zP (.f fn fiy cay) eU HL stp D (oF g fi ca p gen ms (.f fn fiy cay) nS nW)) :
    ∀(d many s:Nat) (z0:S),many+d=ms.length->s<2 ^ many->SC stp D (Lw (fun s n=>GA tog (Jb p ms) (Ck s n)) d many s) z0-> ∀l Z,HL z0 l->Sat Z (oF g fi ca p gen ms (.f fn fiy cay) nS nW++l)->
    Ar zP 211 [eU s,eI many,.p nS 0,.rp (YP p gen ms),.rp [.f fn fiy cay],.p nW 0] Z fun r Z'=>r= .ret (.b (CL stp (Lw (fun s n=>GA tog (Jb p ms) (Ck s n)) d many s) z0).1)/\
     ∃l',HL (CL stp (Lw (fun s n=>GA tog (Jb p ms) (Ck s n)) d many s) z0).2 l'/\Sat Z' (oF g fi ca p gen ms (.f fn fiy cay) nS nW++l'):=by
 have hM:=Mx;have hfew:=h.few;intro d
 induction d with
 | zero=>
   intro many s z0 hmd hs2 hok l Z hl hs;have hs64:s<18446744073709551616:=Nat.lt_of_lt_of_le hs2 (Nat.le_trans (Nat.pow_le_pow_right (by omega) (show many<=8 by omega)) (by decide));have c1:=rq (gen:=gen) h hcan (s:=s) (many:=many) hs64 (by omega);rw[Lw]at hok ⊢;cases hB:GA tog (Jb p ms) (Ck s many)<;>rw[hB]at c1
   .simp only[hB,NM,if_false]at hok ⊢
    refine Ue kZ ?_
    conv=>whnf
    repeat'((first|clear U K|apply st|(apply zk;intro K U)|refine zY ?_|refine BA (c1.use ?_)|fail)<;>conv=>whnf)
    all_goals exact AI ⟨rfl,l,hl,hs⟩
   .simp only[hB,if_true]at hok ⊢
    rw[Q6];refine Ue kZ ?_
    conv=>whnf
    repeat'((first|clear U K|apply st|(apply zk;intro K U)|refine zY ?_|refine BA (c1.use ?_)|(refine zb (fun hc=>?_) (fun hc=>?_)<;>try exact⟨⟩)|fail)<;>conv=>whnf)
    all_goals try(exfalso;simp at hc;omega)
    refine hy.use hok.1 hl hs ?_;clear hs;intro l' Z hl' hs;refine zz ?_;(repeat clear U K);repeat intro K U
    exact AI ⟨rfl,l',hl',hs⟩
 | succ d ih=>
   intro many s z0 hmd hs2 hok l Z hl hs;have hs64:s<18446744073709551616:=Nat.lt_of_lt_of_le hs2 (Nat.le_trans (Nat.pow_le_pow_right (by omega) (show many<=8 by omega)) (by decide));have c1:=rq (gen:=gen) h hcan (s:=s) (many:=many) hs64 (by omega);obtain⟨-,-,b3,b4⟩:=R0 hs2;rw[Lw]at hok ⊢;cases hB:GA tog (Jb p ms) (Ck s many)<;>rw[hB]at c1
   .simp only[hB,NM,if_false]at hok ⊢
    refine Ue kZ ?_
    conv=>whnf
    repeat'((first|clear U K|apply st|(apply zk;intro K U)|refine zY ?_|refine BA (c1.use ?_)|fail)<;>conv=>whnf)
    all_goals exact AI ⟨rfl,l,hl,hs⟩
   .simp only[hB,if_true]at hok ⊢
    obtain⟨ok1,ok2⟩:=PX hok;have i1:=ih (many+1) s z0 (by omega) b4 ok1;have i2:=fun z0 h=>ih (many+1) (s|||2 ^ many) z0 (by omega) b3 h
    have c2:=Nb s (many:Int) hs64 (by omega) (by omega);rw[HP]at c2;have hwi:IntKind.i64.wrap ((many:Int)+1)=((many+1:Nat):Int):=by rw[wrap64 (by omega) (by omega)];omega
    rw[<-hwi]at i1 i2;rw[M4];generalize Lw (fun s n=>GA tog (Jb p ms) (Ck s n)) d (many+1) s=A1 at *;generalize Lw (fun s n=>GA tog (Jb p ms) (Ck s n)) d (many+1) (s|||2 ^ many)=A2 at *;generalize hx1:CL stp A1 z0=x1 at *;obtain⟨q1,z1⟩:=x1;dsimp only at i1 ok2 ⊢;refine Ue kZ ?_
    conv=>whnf
    repeat'((first|clear U K|apply st|(apply zk;intro K U)|refine zY ?_|refine BA (c1.use ?_)|(refine zb (fun hc=>?_) (fun hc=>?_)<;>try exact⟨⟩)|fail)<;>conv=>whnf)
    all_goals try(exfalso;simp at hc;omega)
    refine BA (Ar.mono (i1 l Z hl hs) ?_);clear hs;rintro r Z ⟨rfl,l1,hl1,hs⟩;cases q1
    .conv=>whnf
     repeat'((first|clear U K|apply st|refine rk ?_ ?_|exact fun s e=>by cases e;rfl|fail)<;>conv=>whnf)
     exact AI ⟨rfl,l1,hl1,hs⟩
    .have i3:=i2 z1 (ok2 rfl)
     conv=>whnf
     repeat'((first|apply st|refine zY ?_|refine rk ?_ ?_|exact fun s e=>by cases e;rfl|refine zC ?_|fail)<;>conv=>whnf)
     refine BA (Ar.mono (i3 l1 Z hl1 hs) ?_);clear hs;rintro r Z ⟨rfl,l2,hl2,hs⟩;refine zz ?_;(repeat clear U K);repeat intro K U
     exact AI ⟨rfl,l2,hl2,hs⟩
end
end Go.Gl
namespace Go.Gl
open Go.Proofs
abbrev Jh (ms:List Int) (s:Nat):List Int:=D2 ms (Ck s ms.length)
abbrev Vo (p:Prog) (tog:List Fact->Bool) (ms:List Int):List Nat:=Lw (fun s n=>GA tog (Jb p ms) (Ck s n)) ms.length 0 0
def ZD {P:Program} {α S:Type} {L:Nat} {E:Env} {ps:List Nat} {a b:AV} {ea:α->V} {HB:S->List At->Prop} (le:S->su) {stp:α->S->Bool×S} {D:α->S->Prop} {pre:List At} (hps:ps.length=1) (hD: ∀y s,D y s->le s= .ready)
    (h: ∀y s,D y s-> ∀l,HB s l-> ∀Z,Sat Z (l++pre)->W P a (CW (W P b fun ex env' Z'=>Z' L=none->QY L E (Bk P ps a b) (fun r Z'=>r= .ret (.b (stp y s).1)/\ ∃l',HB (stp y s).2 l'/\Sat Z' (.obj L (.loop (le (stp y s).2) E (Bk P ps a b))::(l'++pre))) ex env' Z')) (Eh ps [ea y] E) Z) :
    WV P (.f (.yield L) [] []) ea (fun s l=> ∃l',l= .obj L (.loop (le s) E (Bk P ps a b))::l'/\HB s l') stp D pre:=by
 rintro y s hd _ Z ⟨l',rfl,hl'⟩ hs
 have hs':Sat Z (.obj L (.loop .ready E (Bk P ps a b))::(l'++pre)):=by
  have:=hs.perm PL;rw[hD y s hd]at this;exact this
 show L2 P L [ea y] Z _;refine L2.mono (Lh (hs'.get (i:=0) rfl) (by rw[hps];rfl) (h y s hd l' hl' _ hs'.del)) ?_;rintro r Z' ⟨e,l2,h1,h2⟩;exact⟨e,_,⟨l2,rfl,h1⟩,h2.perm (PL (l₁:=_::l2))⟩
section
variable {g:FuncId} {fi ca:List V} {p:Prog} {gen:Int} {ms:List Int} {tog:List Fact->Bool}
abbrev gg (g:FuncId) (fi ca:List V) (p:Prog) (gen:Int) (ms:List Int):V:= .f (.func 206) [] [.rp [.f (.func g) fi ca],.rp (YP p gen ms)]
attribute [local irreducible] Ar Aj AZ AQ AL AX AP AR AJ AW AM AN Am Av Sat AT As Aa W
def ak:Pure zP 139 [.a (YP p gen ms),.f (.func g) fi ca] (gg g fi ca p gen ms):=by
 refine ye kZ ?_;have hs:=Sn;exact zW
def u9 {S:Type} (h:YY p ms) (hcan:V0 g fi ca (AK p) tog) {fn:Fn} {fiy cay:List V} {HL:S->List At->Prop} {stp:Nat->S->Bool×S} {D:Nat->S->Prop}
    (hy: ∀nS nW,WV zP (.f fn fiy cay) eU HL stp D (oF g fi ca p gen ms (.f fn fiy cay) nS nW)) (z0:S) (hok:SC stp D (Vo p tog ms) z0) {l:List At} {Z:AE} (hl:HL z0 l) (hs:Sat Z l) :
    Ar zP 206 [.f fn fiy cay,.rp [.f (.func g) fi ca],.rp (YP p gen ms)] Z fun r Z'=>r= .ret (.t [])/\ ∃l',HL (CL stp (Vo p tog ms) z0).2 l'/\Sat Z' l':=by
 refine xn kZ ?_
 conv=>whnf
 repeat'((first|clear U K|apply st|(apply zk;intro K U)|refine zY ?_|refine zs fun Z hs=>?_|refine zo fun nn hnn Z hs=>?_|fail)<;>conv=>whnf)
 refine BA (Ar.mono (oU h hcan (hy _ _) ms.length 0 0 z0 (by omega) (by decide) hok l Z hl hs) ?_);clear hs;rintro r Z ⟨rfl,l',hl',hs⟩
 conv=>whnf
 repeat'((first|clear U K|apply st|fail)<;>conv=>whnf)
 exact AI ⟨rfl,l',hl',hs.less (by simp)⟩
def pf (h8:ms.length<=8) {s:Nat} (hs64:s<18446744073709551616):Pure zP 101 [.a (YP p gen ms),eU s] (.l (iL (Jh ms s)) false):=by
 have hM:=Mx;refine yz kZ ?_;have hs:=Sn;refine zz ?_;(repeat clear U K);repeat intro K U
 refine CZ ms.length (fun k v=>[(5,v),(11,eI (BL k))]) (fun k v=>[.own v 1 (iL (D2 ms ((Ck s ms.length).take k)))]) (fun _ _=>True) (.l [] true) rfl trivial (by simpa[D2]using Gy hs 1) ?_;clear hs;rintro k v Z hk - hs;have hal:=ZX ms ((Ck s ms.length).take k);rw[Lq]at hal;rcases BF ms hk with⟨x,hx,hlt⟩|hke
 .have hck:BL k=k:=Ag (by omega)
  have hst:=X0 hx (Xc (s:=s) hlt);have c1:=aM s (BL k) hs64 (by omega) (by omega);rw[hck,HP,<-hck]at c1;generalize D2 ms ((Ck s ms.length).take k)=zl at *;have hll:zl.length<Ae/\(zl.length+1)*8<=140737488355328:=by omega
  cases hb:s.testBit k<;>rw[hb]at c1 hst
  .rw[if_neg (by decide),FE]at hst
   conv=>whnf
   repeat'((first|clear U K|apply st|(apply zk;intro K U)|refine zY ?_|refine zC ?_|fail)<;>conv=>whnf)
   exact⟨hlt,_,rfl,trivial,by rw[hst];exact hs⟩
  .rw[if_pos rfl]at hst
   conv=>whnf
   repeat'((first|clear U K|apply st|(apply zk;intro K U)|refine zY ?_|refine aq fun v Z hs hsl=>?_|refine zC ?_|fail)<;>conv=>whnf)
   exact⟨hlt,_,rfl,trivial,by rw[hst];exact hs⟩
 .rw[List.take_of_length_le (by rw[Tq];omega)]at hs
  refine zz ?_;(repeat clear U K);repeat intro K U
  exact BZ (hs.HQ 0 rfl)
abbrev s8 (f:Nat->List Int×Int) (y:Nat) (acc:List (List Int×Int)):Bool×List (List Int×Int):=(true,acc++[f y])
def kO (f:Nat->List Int×Int): ∀(l:List Nat) (acc:List (List Int×Int)),CL (s8 f) l acc=(true,acc++l.map f)
 | [],acc=>by simp[CL]
 | y::r,acc=>by simp[CL,kO f r]
def r9 (f:Nat->List Int×Int) {Q:Nat->Prop} {m:Nat}: ∀(l:List Nat) (acc:List (List Int×Int)),(∀y∈l,Q y)->acc.length+l.length<=m->SC (s8 f) (fun y acc=>Q y/\acc.length<m) l acc
 | [],_,_,_=>trivial
 | y::r,acc,h,hl=>⟨⟨h y (.head _),by rw[Lr]at hl;omega⟩,fun _=>r9 f r _ (fun z hz=>h z (.tail _ hz)) (by rw[SB,List.length_singleton];rw[Lr]at hl;omega)⟩
def mV {tog:List Fact->Bool} (h8:ms.length<=8):(Vo p tog ms).length<=256/\ ∀s∈Vo p tog ms,s<2 ^ ms.length:=by
 obtain⟨h1,h2⟩:=UX (so:=fun s n=>GA tog (Jb p ms) (Ck s n)) (E:=GA tog (Jb p ms)) ms.length 0 0 (by decide) (fun s n _=>rfl);rw[Gu]at h1 h2;refine⟨?_,h2⟩;have h3:=KZ (E:=GA tog (Jb p ms)) ms.length (Ck 0 0);have h4:=congrArg List.length h1;rw[Ca]at h4;have h5:2 ^ ms.length<=2 ^ 8:=Nat.pow_le_pow_right (by omega) h8;exact h4 ▸ Nat.le_trans h3 h5
def qb (h:YY p ms) (hcan:V0 g fi ca (AK p) tog) {stE:List Int->Int} (hst: ∀s∈Vo p tog ms,Pure zP 62 [.a (YP p gen ms),.l (iL (Jh ms s)) false] (eI (stE (Jh ms s)))) :
    Pure zP 72 [.a (YP p gen ms),gg g fi ca p gen ms] (.l ((Vo p tog ms).map fun s=>gM (Jh ms s,stE (Jh ms s))) false):=by
 have hM:=Mx;have hfew:=h.few;refine ABL kZ ?_;have hs:=Sn
 conv=>whnf
 repeat'((first|clear U K|apply st|(apply zk;intro K U)|refine zo fun nn hnn Z hs=>?_|fail)<;>conv=>whnf)
 rename_i _ n5 hn5 _ _;obtain⟨hgl,hgm⟩:=mV (p:=p) (tog:=tog) hfew;have hs2:Sat Z [_,.box n5 [.l [] true],.own (.l [] true) 2 (([]:List (List Int×Int)).map gM)]:=Gy hs 2;refine Ar.mono (u9 h hcan (hs:=hs2) (stp:=s8 fun y=>(Jh ms y,stE (Jh ms y))) (D:=fun y acc=>y∈Vo p tog ms/\acc.length<256) (fun nS nW=>ZD (HB:=fun(acc:List (List Int×Int)) l=> ∃v,l= [.box n5 [v],.own v 2 (acc.map gM)]) (fun _=> .ready) rfl (fun _ _ _=>rfl) ?_) [] (r9 _ _ _ (fun _ h=>h) (by simpa using hgl)) ⟨_,rfl,_,rfl⟩) ?_
 .clear hs hs2 hnn hn5
  rintro y acc ⟨hy,hacc⟩ _ ⟨v,rfl⟩ Z hs;have hy64:y<18446744073709551616:=Nat.lt_of_lt_of_le (hgm y hy) (Nat.le_trans (Nat.pow_le_pow_right (by omega) hfew) (by decide));have hl1:=pf (p:=p) (gen:=gen) hfew hy64;have hst:=hst y hy;have hll:acc.length<Ae/\(acc.length+1)*32<=140737488355328:=by omega
  conv=>whnf
  repeat'((first|clear U K|apply st|(apply zk;intro K U)|refine zY ?_|refine rk ?_ ?_|exact fun s e=>by cases e;rfl|refine zs fun Z hs=>?_|refine hl1.use ?_|refine hst.use ?_|refine aq (enc:=gM) (x:=(Jh ms y,stE (Jh ms y))) (fun v Z hs hsl=>?_) (hg:=qL)|fail)<;>conv=>whnf)
  intro hn;exact⟨rfl,_,⟨_,rfl⟩,hs.iE hn⟩
 .clear hs hs2 hnn hn5
  rw[kO];rintro r Z ⟨rfl,_,⟨_,rfl,v,rfl⟩,hs⟩;simp only[List.nil_append,zT]at hs;refine Ju hs fun Z hs=>?_
  refine zz ?_;(repeat clear U K);repeat intro K U
  exact BZ (hs.HQ 1 rfl)
end
end Go.Gl
namespace Go.Gl
open Go.Proofs
attribute [local irreducible] Ar Aj AZ AQ AL AX AP AR AJ AW AM AN Am Av Sat AT As Aa W
abbrev uL (us:List Nat):List (List V):=us.map fun u=>[eU u]
abbrev gB (w:AF) (v:V):List V:=[.l (En w.parents) false,.l (iL w.owner) false,v]
def jf:E0 (fun u:Nat=>[eU u]) 1:=fun x=>⟨rfl,fun v hv=>by rw[Lp.1 hv];rfl⟩
def o5 (w : AF) (hw:B3 w):Pure zP 205 [.a (A9 w)] (.rp (gW w (A5 w.parents))):=by
 obtain⟨⟨hl,hrow⟩,ho,how⟩:=hw;have hM:=Mx;refine xp kZ ?_;have hs:=Sn;have hi1:((En w.parents).length:Int)<=60:=by rw[Ca];omega
 conv=>whnf
 repeat'((first|clear U K|apply st|(apply zk;intro K U)|refine zY ?_|refine zo fun nn hnn Z hs=>?_|fail)<;>conv=>whnf)
 generalize nn=n0 at *;refine CZ 3 (fun k (_:V)=>[(13,eI (BL k))]) (fun k v=>[.box n0 (gB w v),.own v 1 (uL ([1,3,5].take k))]) (fun k _=>True) (.l [] true) rfl trivial (Gy hs 1) ?_;clear hs;rintro k v Z hk - hs;have hck:BL k=k:=Ag (by omega);have hlen:(([1,3,5]:List Nat).take k).length=k:=by simp;omega
 by_cases hlt:k<3
 .have hst:=up3 hlt
  generalize ([1,3,5]:List Nat).take k=zl at *;have hll:zl.length<Ae/\(zl.length+1)*8<=140737488355328:=by omega
  conv=>whnf
  repeat'((first|clear U K|apply st|(apply zk;intro K U)|refine zY ?_|refine rk ?_ ?_|exact fun s e=>by cases e;rfl|refine zs fun Z hs=>?_|refine Pure.use (Nb 1 _ (by decide) (by omega) (by omega)) ?_|refine aq (enc:=fun u:Nat=>[eU u]) (x:=1|||2 ^ (BL k).toNat) (fun v Z hs hsl=>?_) (hg:=jf)|(refine zb (fun hc=>?_) (fun hc=>?_)<;>try exact⟨⟩)|fail)<;>conv=>whnf)
  rw[hck,HP,hst]at hs;exact⟨hlt,_,rfl,trivial,hs⟩
 .have hke:k=3:=by omega
  subst hke;clear hk hck hlen hlt
  conv=>whnf
  repeat'((first|clear U K|apply st|(apply zk;intro K U)|refine zY ?_|(refine zb (fun hc=>?_) (fun hc=>?_)<;>try exact⟨⟩)|fail)<;>conv=>whnf)
  refine CZ w.parents.length (fun k (_:V)=>[(31,eI (BL k))]) (fun k v=>[.box n0 (gB w v),.own v 1 (uL (Bq w.parents k))]) (fun k _=>True) v rfl trivial hs ?_;clear hs;rintro k v Z hk - hs;have hck:BL k=k:=Ag (by omega);have hul:=C5 w.parents k;have huo:=E9 w.parents k (by omega);have hw3:IntKind.i64.wrap (3+(k:Int))=3+(k:Int):=wrap64 (by omega) (by omega);rcases BF w.parents hk with⟨row,hr,hlt⟩|hke
  .obtain⟨r1,r2,r3⟩:=hrow k row hr
   rw[<-hck]at hw3
   conv=>whnf
   repeat'((first|clear U K|apply st|(apply zk;intro K U)|refine zY ?_|refine Pure.use (Nb 1 _ (by decide) (by omega) (by omega)) ?_|fail)<;>conv=>whnf)
   have hst0:IntKind.i64.wrap (3+BL k)=3+(k:Int):=by rw[hck];exact wrap64 (by omega) (by omega)
   have hs0lt:1|||2 ^ (3+k)<18446744073709551616:=H2 (by decide) (Gc (by omega))
   have hs0e:1|||2 ^ (IntKind.i64.wrap (3+BL k)).toNat=1|||2 ^ (3+k):=by rw[hst0,show(3+(k:Int)).toNat=3+k by omega]
   rw[hs0e];refine CZ row.length (fun j (s:Nat)=>[(41,eI (BL j)),(7,eU s)]) (fun _ _=>[.box n0 (gB w v),.own v 1 (uL (Bq w.parents k))]) (fun j s=>s=T6 (Bq w.parents k) (row.take j) (1|||2 ^ (3+k))) (1|||2 ^ (3+k)) rfl rfl hs ?_;clear hs;rintro j s Z hj hse hs;rcases BF row hj with⟨c,hcj,hjlt⟩|hje
   .obtain⟨q1,q2⟩:=r3 c (CY hcj)
    conv=>whnf
    repeat'((first|clear U K|apply st|(apply zk;intro K U)|refine zY ?_|refine ze fun x hx=>?_|fail)<;>conv=>whnf)
    rename_i x hx;have hxd:(Bq w.parents k).getD c.toNat 0=x:=by rw[C6,hx];rfl
    have hsl:s<18446744073709551616:=by rw[hse];exact PO huo _ _ hs0lt
    refine⟨hjlt,s|||x,?_,?_,hs⟩
    .rw[HG hsl (huo x (CY hx))]
     rfl
    .rw[hse,AU hcj]
     simp only[T6,List.foldl_append];rw[<-hxd];rfl
   .have e:Bq w.parents (k+1)=Bq w.parents k++[s]:=by
     rw[hse,Bq,C6,hr,hje,List.take_length];rfl
    generalize Bq w.parents k=zl at *;have hll:zl.length<Ae/\(zl.length+1)*8<=140737488355328:=by omega
    conv=>whnf
    repeat'((first|clear U K|apply st|(apply zk;intro K U)|refine zY ?_|refine zs fun Z hs=>?_|refine aq (enc:=fun u:Nat=>[eU u]) (x:=s) (fun v Z hs hsl=>?_) (hg:=jf)|fail)<;>conv=>whnf)
    rw[<-e]at hs;exact⟨hlt,_,rfl,trivial,hs⟩
  .rw[hke]at hs
   refine zz ?_;(repeat clear U K);repeat intro K U
   exact BZ (hs.oJ 0 rfl (.cons (.refl _) (.cons (.refl _) (.cons (hs.HQ 1 rfl) .nil))))
end Go.Gl
namespace Go.Gl
open Go.Proofs
def AAV {p:Prog} {gen:Int} {togX togR:List Fact->Bool} {OK:(Int->GQ)->Prop} (hX: ∀l,(∀x∈l,DY (AK p) x)->(togX l=true↔ ∃M,OK M/\ ∀x∈l,FH (AK p) M x))
    (hR: ∀l,(∀x∈l,DY (AK p) x)->(togR l=true↔ ∃M,OK M/\ ∀x∈l,FH (AK p) M x)) (hn: ∀f∈Jr p gen,BN (AK p) f=true) :
    ((Vo p togX (Gw p gen)).map fun s=>gM (Jh (Gw p gen) s,cn p (Jh (Gw p gen) s)))=(G4 p gen togR).map gM:=by
 have hE: ∀l,GA togX (Jb p (Gw p gen)) l=Yc togR (Jr p gen) l:=fun l=>by
  rw[G3];exact(fm hX hn l).trans (Mv hR hn l).symm
 obtain⟨h1,-⟩:=UX (so:=fun s n=>GA togX (Jb p (Gw p gen)) (Ck s n)) (E:=GA togX (Jb p (Gw p gen))) (Gw p gen).length 0 0 (by decide) (fun s n _=>rfl);rw[Gu,Lf hE]at h1;rw[G4,show([]:List Bool)=Ck 0 0 from rfl,<-h1,zT,zT];rfl
def qf {p:Prog} {gen:Int} (h:FI p gen=true) (h8:(Gw p gen).length<=8):YY p (Gw p gen):=by
 rw[FI,A0]at h;refine⟨look_ok h.1,fun m hm=>?_,h8⟩;have:=Pe p gen m;rw[List.contains_iff_mem.2 hm]at this;exact(zrH.1 this.symm).1
def Ri (ms:List Int) (bs:List Bool):(D2 ms bs).Sublist ms:=by
 rw[D2]
 induction ms generalizing bs with
 | nil=>simp
 | cons m r ih=>
   cases bs with
   | nil=>simp
   | cons b q=>
     cases b
     .simpa using(ih q).cons m
     .simpa using ih q
def uy (p:Prog) (gen:Int):(Gw p gen).Pairwise (· < ·):=by
 rw[Gw,gN];exact List.Pairwise.filter _ (Hk _)
def au {p:Prog} {gen:Int} {l:List Int} (h:l.Sublist (Gw p gen)):JO p gen l=true:=by
 have hp:=(uy p gen).sublist h;refine an fun i hi=>?_
 have hm:=Pe p gen l[i];rw[List.contains_iff_mem.2 (h.subset (List.getElem_mem hi))]at hm;have hm:=zrH.1 hm.symm;rw[SM];have e1:l.getD i 0=l[i]:=by rw[C6,DC hi];rfl
 rw[e1,hm.1,hm.2,Cm,Cm,Bool.not_eq_true',Bool.and_eq_false_iff,decide_eq_false_iff_not,decide_eq_false_iff_not];by_cases h0:0<i
 .right
  have e2:l.getD (i - 1) 0=l[i - 1]'(by omega):=by rw[C6,DC (by omega)];rfl
  rw[e2];have:=List.pairwise_iff_getElem.1 hp (i - 1) i (by omega) hi (by omega);omega
 .exact .inl h0
attribute [local irreducible] Ar Aj AZ AQ AL AX AP AR AJ AW AM AN Am Av Sat AT As Aa W
def WX {p:Prog} {gen:Int} {ms:List Int} (h:(BQ p).isSome=true):Pure zP 138 [.a (YP p gen ms)] (.rp (gW (AK p) (A5 (AK p).parents))):=by
 have c1:=cY p;rw[if_pos h]at c1;have c2:=o5 (AK p) (QB h);refine yf kZ ?_;have hs:=Sn;exact zW
def lk {p:Prog} {gen:Int} {ms:List Int} (h:(BQ p).isSome=true):Pure zP 73 [.a (YP p gen ms)] (gg 140 [] [.rp [.rp (gW (AK p) (A5 (AK p).parents))]] p gen ms):=by
 have c1:=WX (gen:=gen) (ms:=ms) h;refine ABK kZ ?_;have hs:=Sn
 conv=>whnf
 repeat'((first|clear U K|apply st|(apply zk;intro K U)|refine zY ?_|refine zs fun Z hs=>?_|refine c1.use ?_|refine ak.use ?_|refine zo fun nn hnn Z hs=>?_|fail)<;>conv=>whnf)
 exact BZ (.f .nil (.cons (.rp (.cons (.f .nil (.cons (hs.oJ 0 rfl (.refl _ _ _)) .nil)) .nil)) (.cons (.refl _) .nil)))
def jC {p:Prog} {gen:Int} {ms:List Int} (h:(BQ p).isSome=true) (cs:List Int) (f:Bool):Pure zP 74 [.a (YP p gen ms),.l (iL cs) f] (gg 144 [] [.rp [.rp (gW (AK p) (A5 (AK p).parents))],.rp [.l (iL cs) f]] p gen ms):=by
 have c1:=WX (gen:=gen) (ms:=ms) h;refine ABJ kZ ?_;have hs:=Sn
 conv=>whnf
 repeat'((first|clear U K|apply st|(apply zk;intro K U)|refine zY ?_|refine zs fun Z hs=>?_|refine c1.use ?_|refine ak.use ?_|refine zo fun nn hnn Z hs=>?_|fail)<;>conv=>whnf)
 exact BZ (.f .nil (.cons (.rp (.cons (.f .nil (.cons (hs.oJ 0 rfl (.refl _ _ _)) (.cons (.refl _) .nil))) .nil)) (.cons (.refl _) .nil)))
def ig (v:List V):Pure zP 71 [.a v] (.b true):=by
 refine ABM kZ ?_;have hs:=Sn;exact zW
abbrev Yf (p:Prog) (gen:Int) (tog:List Fact->Bool):V:= .t [if NZ p gen true=0 then .l ((G4 p gen tog).map gM) false else .l [] true,eI (NZ p gen true)]
def fN {p:Prog} {gen:Int} (h:YY p (Gw p gen)): ∀f∈Jr p gen,BN (AK p) f=true:=fun f hf=>by
 obtain⟨m,hm,rfl⟩:=Hp.1 hf;have:=CX (h.L3 m hm);exact(h.ok.facts _ (CY this)).1
def U8 {p:Prog} {gen:Int} {g:FuncId} {fi ca:List V} {togX togR:List Fact->Bool} {OK:(Int->GQ)->Prop} (hX: ∀l,(∀x∈l,DY (AK p) x)->(togX l=true↔ ∃M,OK M/\ ∀x∈l,FH (AK p) M x))
    (hR: ∀l,(∀x∈l,DY (AK p) x)->(togR l=true↔ ∃M,OK M/\ ∀x∈l,FH (AK p) M x)) (h1:FI p gen=true) (h8:(Gw p gen).length<=8) (hcan:V0 g fi ca (AK p) togX) :
    Pure zP 72 [.a (na p gen),gg g fi ca p gen (Gw p gen)] (.l ((G4 p gen togR).map gM) false):=by
 have hfn:=qf h1 h8;have:=qb (gen:=gen) hfn hcan (stE:=cn p) (fun s _=>jB p gen _ false h1 (au (Ri _ _)));rw[AAV hX hR (fN hfn)]at this;exact this
def zA (p:Prog) (gen:Int):Pure zP 18 [.a (BR p),eI gen] (Yf p gen (HR (AK p))):=by
 have c1:=Ui p gen 71 [] true (fun _=>ig _);cases h1:FI p gen
 .rw[(H8 h1 true).1,(H8 h1 true).2]at c1
  rw[Yf,(H8 h1 true).2];refine iY kZ ?_;have hs:=Sn;exact zW
 rw[(Ga h1).1,(Ga h1).2]at c1;rw[Yf,(Ga h1).2];by_cases h8:(Gw p gen).length<=8
 .have hl:=h1
  rw[FI,A0]at hl;have hw:=(look_ok hl.1).nY;have c2:=lk (gen:=gen) (ms:=Gw p gen) hl.1;have c3:=U8 (fun l hl=>lH hw fun x hx=>GK (hl x hx)) (sI hw) h1 h8 (eH _ (QB hl.1));rw[if_pos h8]at c1 ⊢;rw[if_pos rfl];refine iY kZ ?_;have hs:=Sn
  conv=>whnf
  repeat'((first|clear U K|apply st|(apply zk;intro K U)|refine zY ?_|refine rk ?_ ?_|exact fun s e=>by cases e;rfl|refine zs fun Z hs=>?_|refine zC ?_|(refine zb (fun hc=>?_) (fun hc=>?_)<;>try exact⟨⟩)|refine zo fun nn hnn Z hs=>?_|fail)<;>conv=>whnf)
  all_goals exact AG rfl
 .rw[if_neg h8]at c1 ⊢
  rw[if_neg (by decide)];refine iY kZ ?_;have hs:=Sn;exact zW
def nT (p:Prog) (gen:Int):Pure zP 19 [.a (BR p),eI gen] (Yf p gen (T7 (AK p) [])):=by
 have c1:=Ui p gen 71 [] true (fun _=>ig _);cases h1:FI p gen
 .rw[(H8 h1 true).1,(H8 h1 true).2]at c1
  rw[Yf,(H8 h1 true).2];refine iX kZ ?_;have hs:=Sn;exact zW
 rw[(Ga h1).1,(Ga h1).2]at c1;rw[Yf,(Ga h1).2];by_cases h8:(Gw p gen).length<=8
 .have hl:=h1
  rw[FI,A0]at hl;have hw:=(look_ok hl.1).nY;have c2:=jC (gen:=gen) (ms:=Gw p gen) hl.1 [] true;have c3:=U8 (fun l hl=>Qe hw fun x hx=>GK (hl x hx)) (aL hw bQ) h1 h8 (aj _ (QB hl.1) [] true (by decide));rw[if_pos h8]at c1 ⊢;rw[if_pos rfl];refine iX kZ ?_;have hs:=Sn
  conv=>whnf
  repeat'((first|clear U K|apply st|(apply zk;intro K U)|refine zY ?_|refine rk ?_ ?_|exact fun s e=>by cases e;rfl|refine zs fun Z hs=>?_|refine zC ?_|(refine zb (fun hc=>?_) (fun hc=>?_)<;>try exact⟨⟩)|refine zo fun nn hnn Z hs=>?_|fail)<;>conv=>whnf)
  all_goals exact AG rfl
 .rw[if_neg h8]at c1 ⊢
  rw[if_neg (by decide)];refine iX kZ ?_;have hs:=Sn;exact zW
end Go.Gl
namespace Go.Gl
open Go.Proofs
attribute [local irreducible] Ar Aj AZ AQ AL AX AP AR AJ AW AM AN Am Av Sat AT As Aa W
def N3 {p:Prog} {gen:Int} {tog:List Fact->Bool} (h8:(Gw p gen).length<=8):(G4 p gen tog).length<=256:=by
 rw[G4,Ca];exact Nat.le_trans (KZ _ _) (Nat.le_trans (Nat.pow_le_pow_right (by omega) h8) (by decide))
end Go.Gl
