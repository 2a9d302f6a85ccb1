import Derived.Test.YtegbmnmnaijioaaGreatRows
import Derived.HandedShaped
import Derived.Test.YtegbmnmnaijioaaGreatB6
import Derived.Test.YtegbmnmnaijioaaGreatB9
import Derived.Test.YtegbmnmnaijioaaGreatB10
import Derived.Test.YtegbmnmnaijioaaGreatB11
import Derived.Test.YtegbmnmnaijioaaGreatB12
set_option linter.all false
set_option linter.defProp false
noncomputable section
namespace Go.Gl
open Go.Proofs
attribute [local irreducible] A8 Ap Ag AT AL Ae AS AU AK Ad AO AP Aw A2 Sat AX A0 Ai W
structure Iu (w:AM) (kf:Int→List Int→Kn):Prop where
 ok: ∀a p,kg 1000 (kf a p)
 low: ∀a p,-1000000000≤(kf a p).low∧(kf a p).low≤1000000000
 short: ∀a p,2≤p.length→(kf a p).AJ= []
 AJ: ∀a p,∀s∈(kf a p).AJ,0≤s∧s<w.owner.length
abbrev Hx (L:Nat) (pre post:List Cz) (e:Cz) (s:List Cz):List At:=
 .box e.b [eI e.k.low,eI e.k.high,e.vn,eU e.k.B2,eU e.k.GQ,.b e.k.whole,.b e.k.A6,e.vs]:: .own e.vn 1 (iL e.k.no)::HC L (pre++e::(post++s)) pre (post++s)
def sb {σ:AH} {L:Nat} {pre post:List Cz} {e:Cz} {s:List Cz} (h:Sat σ (B7 L (pre++e::(post++s)))):Sat σ (.own e.vs 1 (iL e.k.AJ)::Hx L pre post e s):=
 (HF (X:=[]) h).perm ((Ms _ _ _ _).symm)
def mV {σ:AH} {L:Nat} {pre post:List Cz} {e:Cz} {s:List Cz} (h:Sat σ (.own e.vs 1 (iL e.k.AJ)::Hx L pre post e s)):Sat σ (B7 L (pre++e::(post++s))):=
 EG (X:=[]) (e:=e) (e':=e) rfl rfl rfl (h.perm (Ms _ _ _ _))
def OI (kf:Int→List Int→Kn) (L:Nat) (es:List Cz) (post:List At):Prop:= ∃es',P4 es es'∧Du kf es'∧post=B7 L es'
def jn (w:AM) (us:List Nat) {kf:Int→List Int→Kn} {L:Nat} {pre post:List Cz} {e:Cz} {a:Int} {p:List Int} (hp:p.length<2) :
    M0 Tryz.prog (.f (.func 350) [] [.rp [TW w us L],.rp (KZ a p)]) eI (fun s=> .own e.vs 1 (iL e.k.AJ)::Hx L pre post e s) (fun y=> !(kf a (p++[y])).A6) (fun s=>Du kf (pre++e::(post++s))∧ ∀x∈s,x.k=k0) (fun _=>True):=by
 rintro y s - ⟨hj,hj0⟩ σ hs;refine Bs ?_;show A8 Tryz.prog 350 ([]++[eI y]++[.rp [TW w us L],.rp (KZ a p)]) σ _;refine pM kZ ?_
 conv=>whnf
 repeat'((first|apply st|(apply sq;intro K U)|(apply si;intro A B Y Z)|(apply Y;clear Z B Y A)|(apply U;clear U K)|apply dr|refine rk ?_ ?_|exact fun s e=>by cases e;rfl|refine⟨kZ,?_⟩|refine Pure.use (Nn a p y hp) ?_|fail)<;>conv=>whnf)
 refine(Kt w us hj (a:=a) (p:=p++[y]) (by simp;omega)).use (rest:=[]) (by simpa using mV hs) ?_;clear hs;rintro r post' σ ⟨es4,e4,got,rfl,rfl⟩ hs;have hek4:=got.k;obtain⟨new,he4,hnew⟩:=got.ext;have hinv:=got.inv;obtain⟨pre4,post4,he5⟩:=List.append_of_mem got.mem;rw[JW,he5]at hs;replace hs:=HF (X:=[]) hs
 conv=>whnf
 repeat'((first|apply st|(apply Y;clear Z B Y A)|(apply U;clear U K)|apply dr|refine ld ?_|fail)<;>conv=>whnf)
 refine Aa ⟨by rw[hek4],s++new,⟨?_,fun x hx=>?_⟩,?_⟩
 ·rw[he4]at hinv
  simpa using hinv
 ·rcases FJ.1 hx with hx|hx
  ·exact hj0 x hx
  ·exact hnew x hx
 ·have h2:=EG (X:=[]) (e:=e4) (e':=e4) rfl rfl rfl hs
  rw[←he5,he4]at h2;refine sb ?_;simpa using h2
def jo (w:AM) (us:List Nat) {kf:Int→List Int→Kn} (hr:Iu w kf) {L:Nat} {es:List Cz} (h:Du kf es) {a:Int} {p:List Int} (hp:p.length≤2) :
    By Tryz.prog 316 [TW w us L,EP a p] (B7 L es) fun r post=>r= .ret (.b (OL kf a p))∧OI kf L es post:=by
 intro σ hs;have hM:=Mx;refine pf kZ ?_
 conv=>whnf
 repeat'((first|apply st|(apply sq;intro K U)|(apply si;intro A B Y Z)|(apply Y;clear Z B Y A)|(apply U;clear U K)|refine⟨kZ,?_⟩|fail)<;>conv=>whnf)
 refine(Kt w us h (a:=a) (p:=p) hp).use (rest:=[]) (by simpa using hs) ?_;clear hs;rintro r post σ ⟨es4,e4,got,rfl,rfl⟩ hs;have hek:=got.k;obtain⟨pre,post,rfl⟩:=List.append_of_mem got.mem;rw[JW]at hs;replace hs:=HF (X:=[]) hs;have hsl:=(hr.ok a p).2.2.2;have hsh:=hr.short a p;rw[←hek]at hsl hsh
 have hst:p.length<2∨e4.k.AJ= []:=by
  rcases Nat.lt_or_ge p.length 2 with h'|h'
  ·exact .inl h'
  ·exact .inr (hsh h')
 have hE:OL kf a p=e4.k.AJ.all fun y=> !(kf a (p++[y])).A6:=by rw[OL,hek]
 conv=>whnf
 repeat'((first|refine ld ?_|fail)<;>conv=>whnf)
 have hall:By Tryz.prog 246 [e4.vs,.f (.func 350) [] [.rp [TW w us L],.rp (KZ a p)]] (.own e4.vs 1 (iL e4.k.AJ)::Hx L pre post e4 []) fun r post'=>r= .ret (.b (e4.k.AJ.all fun y=> !(kf a (p++[y])).A6))∧ ∃s',(Du kf (pre++e4::(post++s'))∧ ∀x∈s',x.k=k0)∧post'= .own e4.vs 1 (iL e4.k.AJ)::Hx L pre post e4 s':=by
  rcases hst with h'|h'
  ·exact Yy 350 [] [.rp [TW w us L],.rp (KZ a p)] (Hx L pre post e4) _ _ _ (jn w us h') (fun _ _=>trivial) (by omega) [] ⟨by simpa using got.inv,by simp⟩
  ·exact Yy 350 [] [.rp [TW w us L],.rp (KZ a p)] (Hx L pre post e4) _ _ (fun _=>False) (fun y s hf=>hf.elim) (fun x hx=>by rw[h']at hx;cases hx) (by omega) [] ⟨by simpa using got.inv,by simp⟩
 refine hall.use (rest:=[]) (by
  have h2:=sb (L:=L) (pre:=pre) (post:=post) (e:=e4) (s:=[]) (by simpa using EG (X:=[]) (e:=e4) (e':=e4) rfl rfl rfl hs)
  simpa using h2) ?_
 clear hs;rintro r post' σ ⟨rfl,s',⟨hi,hn⟩,rfl⟩ hs
 conv=>whnf
 repeat'((first|apply st|(apply Y;clear Z B Y A)|(apply U;clear U K)|fail)<;>conv=>whnf)
 refine Aa ⟨_,⟨by rw[hE],pre++e4::(post++s'),got.ext.trans ⟨s',by simp,hn⟩,hi,rfl⟩,mV (by simpa using hs)⟩
def fv {m u:Nat} (hm:m<18446744073709551616):(OC m u=0)↔P2 m u=true:=by
 rw[Of (by simpa using hm)];constructor
 ·intro h b hb
  have hlt:b<64:=by
   rcases Nat.lt_or_ge b 64 with h'|h'
   ·exact h'
   ·rw[Nat.testBit_lt_two_pow (Nat.lt_of_lt_of_le hm (by simpa using Nat.pow_le_pow_right (n:=2) (by decide) h'))]at hb;cases hb
  have:=O5 (a:=m) (b:=u) hlt;rw[h,Nat.zero_testBit,hb]at this;simpa using this
 ·intro h
  refine Nat.eq_of_testBit_eq fun i=>?_
  rw[Nat.zero_testBit];rcases Nat.lt_or_ge i 64 with hlt|hge
  ·rw[O5 hlt]
   cases hb:m.testBit i with
   | false=>rfl
   | true=>rw[h i hb];rfl
  ·exact Nat.testBit_lt_two_pow (Nat.lt_of_lt_of_le (S7 _ _) (by simpa using Nat.pow_le_pow_right (n:=2) (by decide) hge))
def Ud (w:AM) (us:List Nat) {kf:Int→List Int→Kn} (hr:Iu w kf) {L:Nat} {es:List Cz} (h:Du kf es) {a:Int} {p:List Int} (hp:p.length≤2) (c:Nat) (hc:c<64) :
    By Tryz.prog 270 [TW w us L,EP a p,eI c] (B7 L es) fun r post=>r= .ret (.b (Hk kf a p c))∧OI kf L es post:=by
 intro σ hs;refine qQ kZ ?_
 conv=>whnf
 repeat'((first|apply st|(apply sq;intro K U)|(apply si;intro A B Y Z)|(apply Y;clear Z B Y A)|(apply U;clear U K)|refine⟨kZ,?_⟩|fail)<;>conv=>whnf)
 refine(Kt w us h (a:=a) (p:=p) hp).use (rest:=[]) (by simpa using hs) ?_;clear hs;rintro r post σ ⟨es4,e4,got,rfl,rfl⟩ hs;have hek:=got.k;obtain⟨pre,post,rfl⟩:=List.append_of_mem got.mem;rw[JW]at hs;replace hs:=HF (X:=[]) hs;have hok:=hr.ok a p;rw[←hek]at hok;have hu:1|||2 ^ c<18446744073709551616:=Kk (by decide) (J0 hc)
 have hb1:bits .andNot .u64 (e4.k.B2:Int) ((1|||2 ^ c:Nat):Int)=((OC e4.k.B2 (1|||2 ^ c):Nat):Int):=RH;have hb2:bits .and .u64 (e4.k.GQ:Int) ((1|||2 ^ c:Nat):Int)=((e4.k.GQ&&&(1|||2 ^ c):Nat):Int):=LS hok.2.1 hu;have hb3:=fv (u:=1|||2 ^ c) hok.1;have F:Hk kf a p c=(P2 e4.k.B2 (1|||2 ^ c)&&(e4.k.GQ&&&(1|||2 ^ c)==0&&OL kf a p)):=by rw[Hk,hek]
 conv=>whnf
 repeat'((first|apply st|(apply sq;intro K U)|(apply si;intro A B Y Z)|(apply Y;clear Z B Y A)|(apply U;clear U K)|refine⟨rfl,?_⟩|refine⟨kZ,?_⟩|refine ld ?_|refine Pure.use (Xv 1 c (by decide) hc) ?_|(constructor<;>intro hc<;>(try rw[hc])<;>(replace hc:=bp hc))|fail)<;>conv=>whnf)
 ·have h1:P2 e4.k.B2 (1|||2 ^ c)=true:=hb3.1 (by omega)
  have h2:(e4.k.GQ&&&(1|||2 ^ c)==0)=true:=by rw[D4];omega
  refine(jo w us hr got.inv hp).use (rest:=[]) (by simpa using EG (X:=[]) (e:=e4) (e':=e4) rfl rfl rfl hs) ?_;clear hs;rintro r post' σ ⟨rfl,es5,hx,hi,rfl⟩ hs
  conv=>whnf
  repeat'((first|apply st|(apply Y;clear Z B Y A)|(apply U;clear U K)|fail)<;>conv=>whnf)
  exact Aa ⟨_,⟨by rw[F,h1,h2];rfl,es5,got.ext.trans hx,hi,rfl⟩,by simpa using hs⟩
 ·have h2:(e4.k.GQ&&&(1|||2 ^ c)==0)=false:=by rw[beq_eq_false_iff_ne];omega
  exact Aa ⟨_,⟨by rw[F,h2];simp,_,got.ext,got.inv,rfl⟩,by simpa using EG (X:=[]) (e:=e4) (e':=e4) rfl rfl rfl hs⟩
 ·have h1:P2 e4.k.B2 (1|||2 ^ c)=false:=by
   rw[←Bool.not_eq_true,←hb3];omega
  exact Aa ⟨_,⟨by rw[F,h1];simp,_,got.ext,got.inv,rfl⟩,by simpa using EG (X:=[]) (e:=e4) (e':=e4) rfl rfl rfl hs⟩
def Pb (w:AM) (us:List Nat) {kf:Int→List Int→Kn} (hr:Iu w kf) {L:Nat} {es:List Cz} (h:Du kf es) {a:Int} {p:List Int} (hp:p.length≤2) :
    By Tryz.prog 194 [TW w us L,EP a p] (B7 L es) fun r post=>r= .ret (.t [eI (J2 (kf a p)),.b (Rp kf a p)])∧OI kf L es post:=by
 intro σ hs;have hM:=Mx;refine qz kZ ?_
 conv=>whnf
 repeat'((first|apply st|(apply sq;intro K U)|(apply si;intro A B Y Z)|(apply Y;clear Z B Y A)|(apply U;clear U K)|refine⟨kZ,?_⟩|fail)<;>conv=>whnf)
 refine(Kt w us h (a:=a) (p:=p) hp).use (rest:=[]) (by simpa using hs) ?_;clear hs;rintro r post σ ⟨es4,e4,got,rfl,rfl⟩ hs;have hek:=got.k;obtain⟨pre,post,rfl⟩:=List.append_of_mem got.mem;rw[JW]at hs;replace hs:=HF (X:=[]) hs;have hok:=hr.ok a p;have hlo:=hr.low a p;rw[←hek]at hok hlo;have hno:=hok.2.2.1;have hle:=Ya e4.k.no e4.k.low;have hL:J2 (kf a p)=G4 e4.k.no (from_ e4.k.no e4.k.low) e4.k.low:=by rw[J2,←hek];exact Yz hle (He _)
 conv=>whnf
 repeat'((first|apply st|(apply sq;intro K U)|(apply si;intro A B Y Z)|(apply Y;clear Z B Y A)|(apply U;clear U K)|refine ld ?_|fail)<;>conv=>whnf)
 refine It (fun n:Int=>from_ e4.k.no n) (fun n=>[(7,eI n)]) (fun _=> .box e4.b [eI e4.k.low,eI e4.k.high,e4.vn,eU e4.k.B2,eU e4.k.GQ,.b e4.k.whole,.b e4.k.A6,e4.vs]:: .own e4.vn 1 (iL e4.k.no):: .own e4.vs 1 (iL e4.k.AJ)::([]++HC L (pre++e4::post) pre post)) (fun n=> -1000000000≤n∧n+from_ e4.k.no n≤1000001000∧J2 (kf a p)=G4 e4.k.no (from_ e4.k.no n) n) e4.k.low rfl ⟨by omega,by omega,hL⟩ hs ?_;clear hs hL hle;rintro n σ ⟨hn0,hn1,hL⟩ hs;have hct2:=fun b=>Dp e4.k.no b n
 cases hcB:e4.k.no.contains n<;>rw[hcB]at hct2
 ·have hout:n∉e4.k.no:=by simpa using hcB
  rw[kR hout]at hL;have hI:Rp kf a p=(decide (n≤e4.k.high)&&Hk kf a p 1):=by rw[Rp,hL,hek]
  conv=>whnf
  repeat'((first|apply st|(apply sq;intro K U)|(apply si;intro A B Y Z)|(apply Y;clear Z B Y A)|(apply U;clear U K)|refine⟨rfl,?_⟩|refine⟨kZ,?_⟩|refine ld ?_|refine Pure.ZM (hct2 false) (.cons (hs.G7 1 rfl) (.cons (.refl _) .nil)) rfl ?_|(constructor<;>intro hc<;>(try rw[hc])<;>(replace hc:=bp hc))|clear U K)<;>conv=>whnf)
  all_goals
   have hsc:Sat σ (B7 L (pre++e4::post)):=by simpa using EG (X:=[]) (e:=e4) (e':=e4) rfl rfl rfl hs
  ·refine(Ud w us hr got.inv hp 1 (by decide)).use (rest:=[]) (by simpa using hsc) ?_
   clear hs hsc;rintro r post' σ ⟨rfl,es5,hx,hi,rfl⟩ hs
   conv=>whnf
   repeat'((first|apply st|(apply Y;clear Z B Y A)|(apply U;clear U K)|fail)<;>conv=>whnf)
   exact Aa ⟨_,⟨by rw[hL,hI,decide_eq_true (by assumption)];rfl,es5,got.ext.trans hx,hi,rfl⟩,by simpa using hs⟩
  ·exact Aa ⟨_,⟨by rw[hL,hI,decide_eq_false (by omega)];rfl,_,got.ext,got.inv,rfl⟩,hsc⟩
 ·have hin:n∈e4.k.no:=by simpa using hcB
  have hlt:=Sz hin;have hwr:IntKind.i64.wrap (n+1)=n+1:=wrap64 (by omega) (by omega);obtain⟨m,hm⟩: ∃m,from_ e4.k.no n=m+1:=⟨from_ e4.k.no n - 1,by omega⟩
  have hL2:J2 (kf a p)=G4 e4.k.no (from_ e4.k.no (n+1)) (n+1):=by rw[hL,hm,sB hin];exact Yz (by omega) (He _)
  conv=>whnf
  repeat'((first|apply st|(apply sq;intro K U)|(apply si;intro A B Y Z)|(apply Y;clear Z B Y A)|(apply U;clear U K)|refine⟨rfl,?_⟩|refine ld ?_|refine Pure.ZM (hct2 false) (.cons (hs.G7 1 rfl) (.cons (.refl _) .nil)) rfl ?_|clear U K)<;>conv=>whnf)
  exact⟨n+1,hlt,by rw[hwr];rfl,⟨by omega,by omega,hL2⟩,hs⟩
def YO (w:AM) (us:List Nat) {kf:Int→List Int→Kn} (hr:Iu w kf) {L:Nat} {es:List Cz} (h:Du kf es) {a:Int} {p:List Int} (hp:p.length≤2) :
    By Tryz.prog 195 [TW w us L,EP a p] (B7 L es) fun r post=>r= .ret (.b (Kl kf a p))∧OI kf L es post:=by
 intro σ hs;refine qy kZ ?_
 conv=>whnf
 repeat'((first|apply st|(apply sq;intro K U)|(apply si;intro A B Y Z)|(apply Y;clear Z B Y A)|(apply U;clear U K)|refine⟨kZ,?_⟩|fail)<;>conv=>whnf)
 refine(Kt w us h (a:=a) (p:=p) hp).use (rest:=[]) (by simpa using hs) ?_;clear hs;rintro r post σ ⟨es4,e4,got,rfl,rfl⟩ hs;have hek:=got.k;obtain⟨pre,post,rfl⟩:=List.append_of_mem got.mem;rw[JW]at hs;have hsc:=hs;replace hs:=HF (X:=[]) hs;have hN:Kl kf a p=(!e4.k.whole&&Hk kf a p 2):=by rw[Kl,hek]
 cases hw:e4.k.whole<;>rw[hw]at hs hN
 ·conv=>whnf
  repeat'((first|apply st|refine⟨kZ,?_⟩|refine ld ?_|refine JB ?_|fail)<;>conv=>whnf)
  refine(Ud w us hr got.inv hp 2 (by decide)).use (rest:=[]) (by simpa using hsc) ?_;clear hs hsc;rintro r post' σ ⟨rfl,es5,hx,hi,rfl⟩ hs
  conv=>whnf
  repeat'((first|apply st|(apply Y;clear Z B Y A)|(apply U;clear U K)|fail)<;>conv=>whnf)
  exact Aa ⟨_,⟨by rw[hN];rfl,es5,got.ext.trans hx,hi,rfl⟩,by simpa using hs⟩
 ·conv=>whnf
  repeat'((first|apply st|(apply Y;clear Z B Y A)|(apply U;clear U K)|refine ld ?_|refine G3 ?_|fail)<;>conv=>whnf)
  exact Aa ⟨_,⟨by rw[hN];rfl,_,got.ext,got.inv,rfl⟩,hsc⟩
def R2 {σ:AH} {X:List At} {L:Nat} {pre post:List Cz} {e:Cz} {s:List Cz} (h:Sat σ (X++B7 L (pre++e::(post++s)))):Sat σ (.own e.vs 1 (iL e.k.AJ)::(X++Hx L pre post e s)):=by
 have h2:=HF h;refine h2.perm ((Ms _ _ _ _).symm.trans (.cons _ ?_));exact(List.perm_middle.trans (.cons _ List.perm_middle)).symm
def kF {σ:AH} {X:List At} {L:Nat} {pre post:List Cz} {e:Cz} {s:List Cz} (h:Sat σ (.own e.vs 1 (iL e.k.AJ)::(X++Hx L pre post e s))):Sat σ (X++B7 L (pre++e::(post++s))):=by
 refine EG (X:=X) (e:=e) (e':=e) rfl rfl rfl ?_;refine h.perm ?_;refine List.Perm.trans (.cons _ (List.perm_middle.trans (.cons _ List.perm_middle))) ?_;exact Ms _ _ _ _
def jS (s:Nat) (c:Int) (hs0:s<18446744073709551616) (h0:0≤c) (hc:c<64):Pure Tryz.prog 182 [eU s,eI c] (.b (s.testBit c.toNat)):=by
 have:=SB s c.toNat hs0 (by omega);rw[Int.toNat_of_nonneg h0]at this;exact this
def fw {m:Nat} (hm:m<18446744073709551616):OC m 1=HA m:=by
 refine Nat.eq_of_testBit_eq fun i=>?_
 rw[U5];rcases Nat.lt_or_ge i 64 with hlt|hge
 ·rw[O5 hlt,show(1:Nat)=2 ^ 0 from rfl,Nat.testBit_two_pow]
  congr 2;rw[JZ,DZ,D4];omega
 ·have h64:18446744073709551616≤2 ^ i:=by simpa using Nat.pow_le_pow_right (n:=2) (by decide) hge
  rw[Nat.testBit_lt_two_pow (Nat.lt_of_lt_of_le (S7 _ _) h64),Nat.testBit_lt_two_pow (Nat.lt_of_lt_of_le hm h64)];rfl
set_option maxHeartbeats 4000000 in
def Qp (w : AM) (hw:FO w) {kf:Int→List Int→Kn} (hr:Iu w kf) {a:Int} {p:List Int} (hp:p.length≤2) (can:Int→Bool)
    (hcan: ∀s∈(kf a p).AJ,∀L es,Du kf es→By Tryz.prog 267 [TW w (D5 w.parents) L,EP a (p++[s])] (B7 L es) fun r post=>r= .ret (.b (can s))∧OI kf L es post) {L:Nat} {es:List Cz} (h:Du kf es) :
    By Tryz.prog 196 [TW w (D5 w.parents) L,EP a p] (B7 L es) fun r post=>r= .ret (.t [eU (NS w (kf a p) (fun s=>(kf a (p++[s])).A6) can).1,.b (NS w (kf a p) (fun s=>(kf a (p++[s])).A6) can).2])∧OI kf L es post:=by
 intro σ hs;have hM:=Mx;generalize hus:D5 w.parents=us at *;refine qx kZ ?_
 conv=>whnf
 repeat'((first|apply st|(apply sq;intro K U)|(apply si;intro A B Y Z)|(apply Y;clear Z B Y A)|(apply U;clear U K)|refine⟨kZ,?_⟩|fail)<;>conv=>whnf)
 refine(Kt w us h (a:=a) (p:=p) hp).use (rest:=[]) (by simpa using hs) ?_;clear hs;rintro r post σ ⟨es4,e4,got,rfl,rfl⟩ hs;have hek:=got.k;obtain⟨pre,post,rfl⟩:=List.append_of_mem got.mem;rw[JW]at hs;have hsc:=hs;replace hs:=HF (X:=[]) hs;have hok:=hr.ok a p;have hsl:=(hr.ok a p).2.2.2;have hsh:=hr.short a p;have hsw:=hr.AJ a p;rw[←hek]at hok hsl hsh hsw hcan;have hO:NS w (kf a p) (fun s=>(kf a (p++[s])).A6) can=NS w e4.k (fun s=>(kf a (p++[s])).A6) can:=by rw[hek]
 have hOn:(e4.k.whole=true∨e4.k.B2.testBit 1=true∨e4.k.B2.testBit 2=true∨e4.k.GQ.testBit 0=true)→NS w (kf a p) (fun s=>(kf a (p++[s])).A6) can=(0,false):=fun h=>by
  rw[hO,NS,if_pos];rcases h with h|h|h|h<;>rw[h]<;>simp
 have hOy:e4.k.whole=false→e4.k.B2.testBit 1=false→e4.k.B2.testBit 2=false→e4.k.GQ.testBit 0=false→NS w (kf a p) (fun s=>(kf a (p++[s])).A6) can=match II w (fun s=>(kf a (p++[s])).A6) can e4.k.AJ (e4.k.B2,e4.k.GQ)with
  | none=>(0,false)
  | some u=>(HA (DU (D5 w.parents) w.parents.length u.1),HA (DU (D5 w.parents) w.parents.length u.1)&&&u.2==0):=fun h1 h2 h3 h4=>by
  rw[hO,NS,h1,h2,h3,h4];rfl
 clear hO;cases hb0:e4.k.whole<;>rw[hb0]at hs
 rotate_left
 ·conv=>whnf
  repeat'((first|apply st|(apply sq;intro K U)|(apply si;intro A B Y Z)|(apply Y;clear Z B Y A)|(apply U;clear U K)|apply dr|refine ld ?_|clear U K)<;>conv=>whnf)
  exact Aa ⟨_,⟨by rw[hOn (.inl hb0)];rfl,_,got.ext,got.inv,rfl⟩,hsc⟩
 ·conv => whnf
  repeat'((first|apply st|(apply sq;intro K U)|(apply si;intro A B Y Z)|(apply Y;clear Z B Y A)|(apply U;clear U K)|apply dr|refine lo ?_|refine ld ?_|refine Pure.use (SB e4.k.B2 1 hok.1 (by decide)) ?_|refine Pure.use (SB e4.k.B2 2 hok.1 (by decide)) ?_|refine Pure.use (SB e4.k.GQ 0 hok.2.1 (by decide)) ?_|(constructor<;>intro hc<;>(try rw[hc])<;>(replace hc:=bp hc))|clear U K)<;>conv=>whnf)
  all_goals first
   | exact Aa ⟨_,⟨by rw[hOn (by first|exact .inl (by assumption)|exact .inr (.inl (by assumption))|exact .inr (.inr (.inl (by assumption)))|exact .inr (.inr (.inr (by assumption))))];rfl,_,got.ext,got.inv,rfl⟩,hsc⟩
   | skip
  replace hOy:=hOy hb0 (by assumption) (by assumption) (by assumption);clear hOn;generalize hnf:(fun s=>(kf a (p++[s])).A6)=A6 at *
  have hs1:Sat σ (.own e4.vs 1 (iL e4.k.AJ)::Hx L pre post e4 []):=by
   have h2:=R2 (X:=[]) (L:=L) (pre:=pre) (post:=post) (e:=e4) (s:=[]) (by simpa using hsc);simpa using h2
  refine CD e4.k.AJ.length (fun k (x:(Nat×Nat)×List Cz)=>[(47,eI (BM k)),(7,eU x.1.1),(8,eU x.1.2)]) (fun k x=> .own e4.vs 1 (iL e4.k.AJ)::Hx L pre post e4 x.2) (fun k x=>(x.1.1<18446744073709551616∧x.1.2<18446744073709551616)∧(Du kf (pre++e4::(post++x.2))∧ ∀y∈x.2,y.k=k0)∧II w A6 can e4.k.AJ (e4.k.B2,e4.k.GQ)=II w A6 can (e4.k.AJ.drop k) x.1) ((e4.k.B2,e4.k.GQ),[]) rfl ⟨⟨hok.1,hok.2.1⟩,⟨by simpa using got.inv,by simp⟩,rfl⟩ hs1 ?_;clear hs hs1 hsc;rintro k ⟨⟨m,no⟩,new⟩ σ hk ⟨⟨hm,hno⟩,⟨hinv,hnew⟩,hF⟩ hs;simp only at hm hno hinv hnew hF hs;have hck:BM k=k:=AN (by have:=hok.2.2.2;omega);rcases BS e4.k.AJ hk with⟨s,hsk,hlt⟩|hke
  ·have hsm:=Ck hsk
   have hp2:p.length<2:=by
    rcases Nat.lt_or_ge p.length 2 with h'|h'
    ·exact h'
    ·rw[hsh h']at hsm;cases hsm
   obtain⟨hs0,hs1⟩:=hsw s hsm;rw[drop_cons hsk,II]at hF
   conv=>whnf
   repeat'((first|apply st|(apply sq;intro K U)|(apply si;intro A B Y Z)|(apply Y;clear Z B Y A)|(apply U;clear U K)|apply dr|refine⟨rfl,?_⟩|refine⟨kZ,?_⟩|refine ld ?_|refine CX fun σ hs=>?_|refine oi ?_|refine ol fun x hx=>?_|(refine C8 (fun hc=>?_)<;>(try rw[hc])<;>clear hc)|refine Pure.use (Nn a p _ hp2) ?_|(intro nn hnn;generalize hg:Az _ nn _=σ;refine CN hg fun hs=>?_;clear hg)|fail)<;>conv=>whnf)
   obtain rfl:x=s:=by rw[hck,Lm,hsk]at hx;exact(Option.some.inj hx).symm
   generalize nn=n7 at *;have hs2:Sat σ ([.box n7 (KZ a (p++[x]))]++B7 L (pre++e4::(post++new))):=kF (X:=[.box n7 (KZ a (p++[x]))]) (hs.perm (.swap _ _ _));clear hs;obtain⟨o,ho⟩: ∃o,w.owner[x.toNat]? =some o:=⟨_,Et (by omega)⟩
   have hoI:Dr w x=o:=by simp only[Dr,E2,ho];rfl
   obtain⟨ho1,ho2⟩:=hw.2.2 o (Ck ho);have hwp:=hw.1.1;have hcx:=hcan x hsm L;cases hnx:A6 x<;>cases hcy:can x
   all_goals
    rw[hcy]at hcx;rw[Xe,hnx,hcy,hoI]at hF;refine(Kt w us hinv (a:=a) (p:=p++[x]) (by simp;omega)).use (rest:=[.box n7 (KZ a (p++[x]))]) (hs2.perm TO) ?_;clear hs2;rintro r post' σ ⟨es5,e5,got5,rfl,rfl⟩ hs;have hek5:e5.k.A6=A6 x:=by rw[got5.k,←hnf]
    rw[hnx]at hek5;obtain⟨newA,heA,hnA⟩:=got5.ext;obtain⟨pre5,post5,he5⟩:=List.append_of_mem got5.mem;rw[he5]at hs;replace hs:=HF (X:=[.box n7 (KZ a (p++[x]))]) (hs.perm TO);rw[hek5]at hs
    conv=>whnf
    repeat'((first|apply dr|refine rk ?_ ?_|exact fun s e=>by cases e;rfl|refine⟨kZ,?_⟩|refine ld ?_|fail)<;>conv=>whnf)
    have hs2:Sat σ ([.box n7 (KZ a (p++[x]))]++B7 L (pre5++e5::post5)):=EG (X:=[.box n7 (KZ a (p++[x]))]) (e:=e5) (e':=e5) rfl rfl rfl (by rw[←hek5]at hs;exact hs);clear hs;refine(hcx es5 got5.inv).use (rest:=[.box n7 (KZ a (p++[x]))]) (by rw[he5];exact hs2.perm TO) ?_;clear hs2;rintro r post' σ ⟨rfl,es6,⟨new6,he6,hn6⟩,hi6,rfl⟩ hs;have he7:es6=pre5++e5::(post5++new6):=by rw[he6,he5];simp
    rw[he7]at hs;replace hs:=HF (X:=[.box n7 (KZ a (p++[x]))]) (hs.perm TO);rw[hek5]at hs
    conv=>whnf
    repeat'((first|apply st|(apply sq;intro K U)|(apply si;intro A B Y Z)|(apply Y;clear Z B Y A)|(apply U;clear U K)|apply dr|refine rk ?_ ?_|exact fun s e=>by cases e;rfl|refine⟨rfl,?_⟩|refine TX ?_|refine ld ?_|refine JB ?_|refine G3 ?_|refine Pure.use (HK m o hm (by omega) (by omega)) ?_|refine Pure.use (HK no o hno (by omega) (by omega)) ?_|clear U K)<;>conv=>whnf)
    simp only[Bool.not_false,Bool.not_true,Bool.and_true,Bool.and_false,Mp,if_false,if_true,Option.bind_some,Option.bind_none]at hF;have e7:es6=pre++e4::(post++(new++newA++new6)):=by rw[he6,heA];simp
    have hs2:Sat σ ([.box n7 (KZ a (p++[x]))]++B7 L (pre5++e5::(post5++new6))):=EG (X:=[.box n7 (KZ a (p++[x]))]) (e:=e5) (e':=e5) rfl rfl rfl (by rw[←hek5]at hs;exact hs)
    have hs3:Sat σ (B7 L (pre++e4::(post++(new++newA++new6)))):=by
     rw[←he7,e7]at hs2;exact hs2.less (List.sublist_append_right _ _)
    have hi7:Du kf (pre++e4::(post++(new++newA++new6))):=by rw[←e7];exact hi6
    have hn7: ∀y∈new++newA++new6,y.k=k0:=fun y hy=>by
     rcases FJ.1 hy with hy|hy
     ·rcases FJ.1 hy with hy|hy
      ·exact hnew y hy
      ·exact hnA y hy
     ·exact hn6 y hy
    have hob:2 ^ o.toNat<18446744073709551616:=J0 (by omega)
   ·exact⟨hlt,((m,no|||2 ^ o.toNat),new++newA++new6),rfl,⟨⟨hm,Kk hno hob⟩,⟨hi7,hn7⟩,hF⟩,R2 (X:=[]) hs3⟩
   ·exact⟨hlt,((m,no),new++newA++new6),rfl,⟨⟨hm,hno⟩,⟨hi7,hn7⟩,hF⟩,R2 (X:=[]) hs3⟩
   ·rw[hF]at hOy
    exact Aa ⟨_,⟨by rw[hOy];rfl,_,got.ext.trans ⟨_,by simp,hn7⟩,hi7,rfl⟩,hs3⟩
   ·exact⟨hlt,((m|||2 ^ o.toNat,no),new++newA++new6),rfl,⟨⟨Kk hm hob,hno⟩,⟨hi7,hn7⟩,hF⟩,R2 (X:=[]) hs3⟩
  ·rw [Al hke,II]at hF
   rw[hF]at hOy;simp only at hOy
   conv=>whnf
   repeat'((first|apply st|(apply sq;intro K U)|(apply si;intro A B Y Z)|(apply Y;clear Z B Y A)|(apply U;clear U K)|refine⟨rfl,?_⟩|(refine Es (fun hc=>?_)<;>(try rw[hc])<;>clear hc)|clear U K)<;>conv=>whnf)
   have hu:sW us:=by rw[←hus];exact LG _ _ (by have:=hw.1.1;omega)
   have hul:us.length=3+w.parents.length:=by rw[←hus];exact Fm _ _
   have hwp:=hw.1.1;have hwl:IntKind.i64.wrap (3+((EX w.parents).length:Nat))=3+(w.parents.length:Int):=by rw[BW,wrap64 (by omega) (by omega)]
   refine CD w.parents.length (fun k (x:Nat)=>[(14,eI (Kh 3 k)),(7,eU x)]) (fun _ _=> .own e4.vs 1 (iL e4.k.AJ)::Hx L pre post e4 new) (fun k x=>x<18446744073709551616∧x=DU us k m) m rfl ⟨hm,rfl⟩ hs ?_;clear hs;clear hke hck hk k;rintro k x σ hk ⟨hx64,hxe⟩ hs;have hc3:Kh 3 k=3+k:=Nw (by omega) (by omega);by_cases hlt:k<w.parents.length
   ·have hbt:DU us (k+1) m=if x.testBit (Kh 3 k).toNat then x|||us.getD (3+k) 0 else x:=by
     rw[DU,←hxe,hc3,show(3+(k:Int)).toNat=3+k by omega]
    have hup:(List.drop ((Kh 3 k).toNat*1) (List.drop 2 (wC w us)))[0]? =some (eU (us.getD (3+k) 0)):=by
     rw[sG,sG,←kz w us (i:=3+k) (by omega)];congr 1;omega
    conv=>whnf
    repeat'((first|apply st|(apply sq;intro K U)|(apply si;intro A B Y Z)|(apply Y;clear Z B Y A)|(apply U;clear U K)|refine⟨rfl,?_⟩|refine zG ?_|(rw[hup])|refine Pure.use (jS x (Kh 3 k) hx64 (by omega) (by omega)) ?_|(constructor<;>intro hc<;>(try rw[hc])<;>(replace hc:=bp hc)<;>(try simp(disch:=omega) only[BW,wrap64,AN]at hc)<;>try(exfalso;omega))|clear U K)<;>conv=>whnf)
    ·refine⟨hlt,x|||us.getD (3+k) 0,?_,⟨Kk hx64 (R3 hu _),by rw[hbt,if_pos (by assumption)]⟩,hs⟩
     rw[LC hx64 (R3 hu _)];rfl
    ·exact⟨hlt,x,rfl,⟨hx64,by rw[hbt,if_neg (by rw[‹x.testBit _=false›];decide)]⟩,hs⟩
   ·have hke:k=w.parents.length:=by omega
    rw[hus,←hke,←hxe]at hOy
    have Y:bits .andNot .u64 (x:Int) 1=((HA x:Nat):Int):=by
     have:=RH (a:=x) (b:=1);rw[fw hx64]at this;exact this
    have hcl:HA x<18446744073709551616:=by unfold HA;omega
    have Z:bits .and .u64 ((HA x:Nat):Int) (no:Int)=((HA x&&&no:Nat):Int):=LS hcl hno
    conv=>whnf
    repeat'((first|apply st|(apply sq;intro K U)|(apply si;intro A B Y Z)|(apply Y;clear Z B Y A)|(apply U;clear U K)|refine⟨rfl,?_⟩|(constructor<;>intro hc<;>(try rw[hc])<;>(replace hc:=bp hc)<;>(try simp(disch:=omega) only[BW,wrap64,AN]at hc)<;>try(exfalso;omega))|clear U K)<;>conv=>whnf)
    rw[Y,Z];refine Aa ⟨_,⟨?_,_,got.ext.trans ⟨new,by simp,hnew⟩,hinv,rfl⟩,mV hs⟩;rw[hOy]
    have hz:(((HA x&&&no:Nat):Int)==0)=(HA x&&&no==0):=by
     rw[JZ,D4,D4];omega
    rw[←hz]
def rq (w:AM) (hw:FO w) {kf:Int→List Int→Kn} (hr:Iu w kf) (a:Int): ∀(d:Nat) (p:List Int),p.length+d=2→ ∀(L:Nat) (es:List Cz),Du kf es→
    By Tryz.prog 267 [TW w (D5 w.parents) L,EP a p] (B7 L es) fun r post=>r= .ret (.b (NV w kf a d p))∧OI kf L es post:=by
 intro d
 induction d with
 | zero=>
   intro p hp L es h σ hs;have hint:=Pb w (D5 w.parents) hr h (L:=L) (a:=a) (p:=p) (by omega);have hnone:=fun es h=>YO w (D5 w.parents) hr (es:=es) h (L:=L) (a:=a) (p:=p) (by omega)
   have hobj:=fun es h=>Qp w hw hr (a:=a) (p:=p) (by omega) (fun _=>false) (by rw[hr.short a p (by omega)];intro s hs;cases hs) (L:=L) (es:=es) h
   rw[NV];cases hI:Rp kf a p<;>cases hN:Kl kf a p<;>rw[hI]at hint<;>rw[hN]at hnone
   all_goals
    refine dI kZ ?_
    conv=>whnf
    repeat'((first|apply st|(apply sq;intro K U)|(apply si;intro A B Y Z)|(apply Y;clear Z B Y A)|(apply U;clear U K)|refine⟨kZ,?_⟩|fail)<;>conv=>whnf)
    refine hint.use (rest:=[]) (by simpa using hs) ?_;clear hs;rintro r post σ ⟨rfl,es2,hx2,hi2,rfl⟩ hs;rw[JW]at hs
    conv=>whnf
    repeat'((first|apply st|(apply sq;intro K U)|(apply si;intro A B Y Z)|(apply Y;clear Z B Y A)|(apply U;clear U K)|refine⟨kZ,?_⟩|clear U K)<;>conv=>whnf)
   rotate_left 2
   ·exact Aa ⟨_,⟨rfl,es2,hx2,hi2,rfl⟩,hs⟩
   ·exact Aa ⟨_,⟨rfl,es2,hx2,hi2,rfl⟩,hs⟩
   all_goals
    refine(hnone es2 hi2).use (rest:=[]) (by simpa using hs) ?_;clear hs;rintro r post σ ⟨rfl,es3,hx3,hi3,rfl⟩ hs;rw[JW]at hs
    conv=>whnf
    repeat'((first|apply st|(apply sq;intro K U)|(apply si;intro A B Y Z)|(apply Y;clear Z B Y A)|(apply U;clear U K)|refine⟨kZ,?_⟩|refine JB ?_|refine G3 ?_|clear U K)<;>conv=>whnf)
   rotate_left 1
   ·exact Aa ⟨_,⟨rfl,es3,hx2.trans hx3,hi3,rfl⟩,hs⟩
   ·refine(hobj es3 hi3).use (rest:=[]) (by simpa using hs) ?_
    clear hs;rintro r post σ ⟨rfl,es4,hx4,hi4,rfl⟩ hs;rw[JW]at hs
    conv=>whnf
    repeat'((first|apply st|(apply sq;intro K U)|(apply si;intro A B Y Z)|(apply Y;clear Z B Y A)|(apply U;clear U K)|fail)<;>conv=>whnf)
    exact Aa ⟨_,⟨rfl,es4,(hx2.trans hx3).trans hx4,hi4,rfl⟩,hs⟩
 | succ d ih=>
   intro p hp L es h σ hs;have hint:=Pb w (D5 w.parents) hr h (L:=L) (a:=a) (p:=p) (by omega);have hnone:=fun es h=>YO w (D5 w.parents) hr (es:=es) h (L:=L) (a:=a) (p:=p) (by omega)
   have hobj:=fun es h=>Qp w hw hr (a:=a) (p:=p) (by omega) (fun s=>NV w kf a d (p++[s])) (fun s hs L es h=>ih (p++[s]) (by simp;omega) L es h) (L:=L) (es:=es) h
   rw[NV];cases hI:Rp kf a p<;>cases hN:Kl kf a p<;>rw[hI]at hint<;>rw[hN]at hnone
   all_goals
    refine dI kZ ?_
    conv=>whnf
    repeat'((first|apply st|(apply sq;intro K U)|(apply si;intro A B Y Z)|(apply Y;clear Z B Y A)|(apply U;clear U K)|refine⟨kZ,?_⟩|fail)<;>conv=>whnf)
    refine hint.use (rest:=[]) (by simpa using hs) ?_;clear hs;rintro r post σ ⟨rfl,es2,hx2,hi2,rfl⟩ hs;rw[JW]at hs
    conv=>whnf
    repeat'((first|apply st|(apply sq;intro K U)|(apply si;intro A B Y Z)|(apply Y;clear Z B Y A)|(apply U;clear U K)|refine⟨kZ,?_⟩|clear U K)<;>conv=>whnf)
   rotate_left 2
   ·exact Aa ⟨_,⟨rfl,es2,hx2,hi2,rfl⟩,hs⟩
   ·exact Aa ⟨_,⟨rfl,es2,hx2,hi2,rfl⟩,hs⟩
   all_goals
    refine(hnone es2 hi2).use (rest:=[]) (by simpa using hs) ?_;clear hs;rintro r post σ ⟨rfl,es3,hx3,hi3,rfl⟩ hs;rw[JW]at hs
    conv=>whnf
    repeat'((first|apply st|(apply sq;intro K U)|(apply si;intro A B Y Z)|(apply Y;clear Z B Y A)|(apply U;clear U K)|refine⟨kZ,?_⟩|refine JB ?_|refine G3 ?_|clear U K)<;>conv=>whnf)
   rotate_left 1
   ·exact Aa ⟨_,⟨rfl,es3,hx2.trans hx3,hi3,rfl⟩,hs⟩
   ·refine(hobj es3 hi3).use (rest:=[]) (by simpa using hs) ?_
    clear hs;rintro r post σ ⟨rfl,es4,hx4,hi4,rfl⟩ hs;rw[JW]at hs
    conv=>whnf
    repeat'((first|apply st|(apply sq;intro K U)|(apply si;intro A B Y Z)|(apply Y;clear Z B Y A)|(apply U;clear U K)|fail)<;>conv=>whnf)
    exact Aa ⟨_,⟨rfl,es4,(hx2.trans hx3).trans hx4,hi4,rfl⟩,hs⟩
abbrev lq:V:= .Er 260 (.a [])
def dx (w:AM) (hw:FO w) {kf:Int→List Int→Kn} (hr:Iu w kf) {L:Nat} {es:List Cz} (h:Du kf es) :
    By Tryz.prog 192 [TW w (D5 w.parents) L] (B7 L es) fun r post=>r=(if bQ w kf then .ret (.t [])else .Bf lq)∧post= []:=by
 intro σ hs;refine rB kZ ?_
 conv=>whnf
 repeat'((first|apply st|(apply sq;intro K U)|(apply si;intro A B Y Z)|(apply Y;clear Z B Y A)|(apply U;clear U K)|fail)<;>conv=>whnf)
 refine CD 3 (fun k (x:List Cz)=>[(3,eI (BM k))]) (fun k x=>B7 L x) (fun k x=>Du kf x∧bQ w kf=((Ca 3).drop k).all fun a=>NV w kf a 2 []) es rfl ⟨h,rfl⟩ hs ?_;clear hs h;rintro k es σ hk ⟨h,hn⟩ hs;have hck:BM k=k:=AN (by simp only[Aj];omega);have hl3:(Ca 3).length=3:=rfl;rcases BS (Ca 3) hk with⟨a,ha,hlt⟩|hke
 ·rw[drop_cons ha,NN]at hn
  have hak:a=BM k:=by
   rw[hck];simp only[Ca,QK,List.getElem?_range (show k<3 from hlt),bK]at ha;exact(Option.some.inj ha).symm
  subst hak;have hcan:=rq w hw hr (BM k) 2 [] rfl L es h;cases hC:NV w kf (BM k) 2 []<;>rw[hC]at hcan hn
  all_goals
   conv=>whnf
   repeat'((first|apply st|(apply sq;intro K U)|(apply si;intro A B Y Z)|(apply Y;clear Z B Y A)|(apply U;clear U K)|refine⟨rfl,?_⟩|(constructor<;>intro hc<;>(try rw[hc])<;>(replace hc:=bp hc)<;>(try simp(disch:=omega) only[BW,wrap64,AN]at hc)<;>try(exfalso;omega))|fail)<;>conv=>whnf)
   refine hcan.use (rest:=[]) (by simpa using hs) ?_;clear hs;rintro r post σ ⟨rfl,es2,hx2,hi2,rfl⟩ hs;rw[JW]at hs
   conv=>whnf
   repeat'((first|apply st|(apply si;intro A B Y Z)|(apply Y;clear Z B Y A)|(refine Z _ _ _ ?_;clear Z B Y A)|(apply U;clear U K)|refine⟨rfl,?_⟩|refine JB ?_|refine G3 ?_|clear U K)<;>conv=>whnf)
  ·exact DE ⟨_,⟨by rw[hn];rfl,rfl⟩,hs.less (QI _)⟩
  ·exact⟨by omega,es2,rfl,⟨hi2,by simpa using hn⟩,hs⟩
 ·rw[Al hke]at hn
  conv=>whnf
  repeat'((first|apply st|(apply sq;intro K U)|(apply si;intro A B Y Z)|(apply Y;clear Z B Y A)|(apply U;clear U K)|refine⟨rfl,?_⟩|(constructor<;>intro hc<;>(try rw[hc])<;>(replace hc:=bp hc)<;>(try simp(disch:=omega) only[BW,wrap64,AN]at hc)<;>try(exfalso;omega))|clear U K)<;>conv=>whnf)
  exact Aa ⟨_,⟨by rw[hn];rfl,rfl⟩,hs.less (QI _)⟩
def Y0 {w:AM} {ls:List Fact} (hw:w.parents.length≤60) (h: ∀x∈ls,Ia w x):Wf ls:=by
 intro l hl;obtain⟨-,hc,hsm,hsh⟩:=LN h;obtain⟨-,hn,hlf⟩:=I0 (h l hl);exact⟨Gd hlf,hsh l hl,fun ho=>by have:=hc l hl ho;omega,hsm l hl⟩
def oO {ls:List Fact} (h:Jx ls) (a:Int) (p:List Int): -1000000000≤(kn ls a p).low∧(kn ls a p).low≤1000000000:=by
 have key: ∀(ls:List Fact) (k:Kn),Jx ls→(-1000000000≤k.low∧k.low≤1000000000)→ -1000000000≤(ls.foldl (DA a p) k).low∧(ls.foldl (DA a p) k).low≤1000000000:=by
  intro ls
  induction ls with
  | nil=>intro k _ h;exact h
  | cons l r ih=>
    intro k hs hk;refine ih _ (fun x hx=>hs x (.tail _ hx)) ?_;have hn:=hs l (.head _);unfold DA Cn Dd gG
    repeat' split
    all_goals first
     | exact hk
     | exact hn
     | (simp only;exact hk)
     | (simp only;exact hn)
 exact key ls k0 h ⟨by decide,by decide⟩
def YF {w:AM} {ls:List Fact} (h: ∀x∈ls,Ia w x):Hl w.owner.length ls:=by
 intro l hl s hs;obtain⟨-,hn,-⟩:=I0 (h l hl);rw[CM,BU]at hn;have:=hn.1;simp only[Cq,Ee,BU,GP,Il,DZ]at this;exact this.2.2.2.2.1.1 s hs
def iP {w:AM} (hw:FO w) {ls:List Fact} (h: ∀x∈ls,Ia w x) (hlen:ls.length<900):Iu w (kn ls):=by
 have hadd:=Y0 (by have:=hw.1.1;omega) h;obtain⟨-,-,hsm,hsh⟩:=LN h;have hp:=YF h;refine⟨fun a p=>?_,oO hsm,fun a p hpl=>?_,fun a p s hs=>?_⟩
 ·obtain⟨h1,h2,h3,h4⟩:=cn hadd a p
  exact⟨h1,h2,by omega,by omega⟩
 ·rw[LO hp]
  exact Qc hsh hpl
 ·rw[LO hp]at hs
  exact ML hs
def m5 {w:AM} (hw:FO w) {ls:List Fact} (h: ∀x∈ls,Ia w x):bQ w (kn ls)=Hg w ls:=by
 obtain⟨-,hc,-,-⟩:=LN h;refine m6 ?_ (fun s h0 h1=>?_) (by have:=hw.1.1;omega) (fun l hl ho=>by have:=hc l hl ho;omega) (YF h)
 ·exact JR hw.1
 ·obtain⟨o,ho⟩: ∃o,w.owner[s.toNat]? =some o:=⟨_,Et (by omega)⟩
  have hoI:Dr w s=o:=by simp only[Dr,E2,ho];rfl
  rw[hoI];exact hw.2.2 o (Ck ho)
def jx {σ:AH} {n:Nat} {x:V} {rest:List At} (hs:Sat σ (.box n [x]::rest)) {Q:AH→Prop} (hq: ∀σ',Sat σ' (.box n [.b false]::rest)→Q σ'):HB Tryz.prog 191 [.p n 0] (some lq) σ Q:=by
 refine Yo kZ ?_
 conv=>whnf
 repeat'((first|apply st|(apply sq;intro K U)|(apply si;intro A B Y Z)|(apply Y;clear Z B Y A)|(apply U;clear U K)|refine IA fun σ hs=>?_|refine CX fun σ hs=>?_|refine mM rfl ?_|(intro nn hnn;generalize hg:Az _ nn _=σ;refine CN hg fun hs=>?_;clear hg)|fail)<;>conv=>whnf)
 exact hq _ (hs.less (IV _ _))
def jy {σ:AH} {n:Nat} {x:V} {rest:List At} (hs:Sat σ (.box n [x]::rest)) {Q:AH→Prop} (hq: ∀σ',Sat σ' (.box n [x]::rest)→Q σ'):HB Tryz.prog 191 [.p n 0] none σ Q:=by
 refine Yo kZ ?_
 conv=>whnf
 repeat'((first|apply st|(apply sq;intro K U)|(apply si;intro A B Y Z)|(apply Y;clear Z B Y A)|(apply U;clear U K)|refine⟨rfl,?_⟩|refine CX fun σ hs=>?_|(intro nn hnn;generalize hg:Az _ nn _=σ;refine CN hg fun hs=>?_;clear hg)|fail)<;>conv=>whnf)
 exact hq _ (hs.less (IV _ _))
attribute [local irreducible] HB
def VJ (w:AM) (hw:FO w) (ls:List Fact) (b:Bool) (hl: ∀x∈ls,Ia w x) (hlen:ls.length<900):Pure Tryz.prog 127 [.rp (wC w (D5 w.parents)),.l (Ew ls) b] (.b (Hg w ls)):=by
 refine Pure.of ?_;refine ra kZ ?_;have hs:=Sn
 conv=>whnf
 repeat'((first|(apply sq;intro K U)|(apply si;intro A B Y Z)|(apply Y;clear Z B Y A)|(apply U;clear U K)|(intro nn hnn;generalize hg:Az _ nn _=σ;refine CN hg fun hs=>?_;clear hg)|fail)<;>conv=>whnf)
 refine(eK w (D5 w.parents) ls b (Y0 (by have:=hw.1.1;omega) hl) hlen).use (rest:=[.box nn [.b false]]) (by simpa using hs) ?_;clear hs;rintro r post σ ⟨L,es,rfl,hinv,rfl⟩ hs;have hwh:=dx w hw (iP hw hl hlen) hinv (L:=L);rw[m5 hw hl]at hwh;cases ht:Hg w ls<;>rw[ht]at hwh
 all_goals
  conv=>whnf
  refine hwh.use (rest:=[.box nn [.b false]]) hs ?_;clear hs;rintro r post σ ⟨rfl,rfl⟩ hs
  conv=>whnf
  repeat'((first|apply st|(apply sq;intro K U)|(apply si;intro A B Y Z)|(apply Y;clear Z B Y A)|(refine Z _ _ _ ?_;clear Z B Y A)|(apply U;clear U K)|refine IA fun σ hs=>?_|clear U K)<;>conv=>whnf)
 ·refine jx (rest:=[]) hs fun σ hs=>?_
  conv=>whnf
  repeat'((first|refine ld ?_|fail)<;>conv=>whnf)
  exact Aa (by rw[ht];rfl)
 ·refine jy (rest:=[]) (x:= .b true) hs fun σ hs=>?_
  conv=>whnf
  repeat'((first|refine ld ?_|fail)<;>conv=>whnf)
  exact Aa (by rw[ht];rfl)
end Go.Gl
namespace Go.Gl
open Go.Proofs
attribute [local irreducible] A8 Ap Ag AT AL Ae AS AU AK Ad AO AP Aw A2 Sat AX A0 Ai W
def TT {α S:Type} (stp:α→S→Bool×S) (D:α→S→Prop):List α→S→Prop
 | [],_=>True
 | y::r,s=>D y s∧((stp y s).1=true→TT stp D r (stp y s).2)
section
variable {α β S:Type} {stp:α→S→Bool×S} {D:α→S→Prop}
def O6: ∀(A B:List α) (s:S),Cd stp (A++B) s=if(Cd stp A s).1 then Cd stp B (Cd stp A s).2 else(false,(Cd stp A s).2)
 | [],B,s=>by simp[Cd]
 | y::r,B,s=>by
   rw[List.cons_append,Cd,Cd];cases(stp y s).1
   ·rfl
   ·simpa using O6 r B (stp y s).2
def U9 (l:α) (s:S):Cd stp [l] s=stp l s:=by
 rw[Cd,Cd];rcases stp l s with⟨b,s'⟩;cases b<;>rfl
def Se: ∀ {A B:List α} {s:S},TT stp D (A++B) s→TT stp D A s∧((Cd stp A s).1=true→TT stp D B (Cd stp A s).2)
 | [],B,s,h=>⟨trivial,fun _=>h⟩
 | y ::r,B,s,h=>by
   obtain⟨h1,h2⟩:=h;rw[TT,Cd];cases hy:(stp y s).1
   ·exact⟨⟨h1,fun h=>(by cases h)⟩,fun h=>(by simp at h)⟩
   ·obtain⟨h3,h4⟩:=Se (h2 hy)
    exact⟨⟨h1,fun _=>h3⟩,by simpa using h4⟩
def Nk {A:List α}: ∀ {B:List α} {s:S},(∀y∈B,y∈A)→TT stp D B s→TT stp (fun y s=>y∈A∧D y s) B s
 | [],_,_,_=>trivial
 | y::r,_,hm,h=>⟨⟨hm y (.head _),h.1⟩,fun hy=>Nk (fun z hz=>hm z (.tail _ hz)) (h.2 hy)⟩
def YI {g:β→α}: ∀ {B:List β} {s:S},TT stp D (B.map g) s→TT (fun b s=>stp (g b) s) (fun b s=>D (g b) s) B s
 | [],_,_=>trivial
 | y::r,_,h=>⟨h.1,fun hy=>YI (h.2 hy)⟩
end
section
variable {S:Type} {stp:List Fact→S→Bool×S} {D:List Fact→S→Prop}
def RN (B:List (List Fact)): ∀(A:List (List Fact)) (s:S),Cd stp (D7 A B) s=Cd (fun x s=>Cd (fun y s=>stp (Ce x y) s) B s) A s
 | [],s=>rfl
 | x::r,s=>by
   have ih:=RN B r;rw[D7,List.flatMap_cons,O6,LV,Cd];simp only[D7]at ih;rw[ih]
def Uf (B:List (List Fact)): ∀ {A:List (List Fact)} {s:S},TT stp D (D7 A B) s→TT (fun x s=>Cd (fun y s=>stp (Ce x y) s) B s) (fun x s=>TT (fun y s=>stp (Ce x y) s) (fun y s=>D (Ce x y) s) B s) A s
 | [],_,_=>trivial
 | x::r,s,h=>by
   rw[D7,List.flatMap_cons]at h;obtain⟨h1,h2⟩:=Se h;refine⟨YI h1,fun hy=>?_⟩;rw[LV]at h2;exact Uf B (h2 hy)
end
abbrev V1 (l:List Fact) (b:Bool):V:= .l (Ew l) b
def QV {S:Type} (x:V) (H:S→List At) (stp:List Fact→S→Bool×S) (D:List Fact→S→Prop):Prop:= ∀b,Cy Tryz.prog x (fun l=>V1 l b) H stp D
abbrev Tu (n:Nat):V:= .f (.func 187) [] [.p n 0]
def Zx {f:Fact} (hl:Bt f=true) (c:Bool):Ju (if c then ED f else f)=xF f++[.b c]:=by
 have:=Gd hl;cases c with
 | true=>rfl
 | false=>
   have h5: ¬f.op=5:=by omega
   simp only[Ju,Mp,if_false,BN,if_neg h5]
def WalkC (f:Fact):Prop:= ∀(c:Bool) (S:Type) (fn:Fn) (fi ca:List V) (H:S→List At) (stp:List Fact→S→Bool×S) (D:List Fact→S→Prop) (nW:Nat) (s:S),
 QV (.f fn fi ca) (fun s=> .box nW [Tu nW]::H s) stp D→TT stp D (BT f c) s→ ∀σ,Sat σ (.box nW [Tu nW]::H s)→
  Aw Tryz.prog (Tu nW) [.a (xF f),.b c,.f fn fi ca] σ fun r σ'=>r= .ret (.b (Cd stp (BT f c) s).1)∧Sat σ' (.box nW [Tu nW]::H (Cd stp (BT f c) s).2)
def ff {w:AM} {S:Type} {fn:Fn} {fi ca:List V} {H:S→List At} {stp:List Fact→S→Bool×S} {D:List Fact→S→Prop} (hT:QV (.f fn fi ca) H stp D) {k0 k1:Fact} {c:Bool} (hn0:A9 w k0=true) (hn1:A9 w k1=true) (hv0:lv k0≤100) (hv1:lv k1≤100) {a:List Fact} (ha:a∈BT k0 c) (fa:Bool) :
    QV (.f (.func 189) [] [.rp [.f fn fi ca],.rp [V1 a fa]]) H (fun y s=>stp (Ce a y) s) (fun y s=>y∈BT k1 c∧D (Ce a y) s):=by
 rintro b y s ⟨hy,hd⟩ σ hs;refine Bs ?_;show A8 Tryz.prog 189 ([]++[V1 y b]++[.rp [.f fn fi ca],.rp [V1 a fa]]) σ _;have hla:=(EN k0 (A7 _ hn0) c).2 a ha;have hly:=(EN k1 (A7 _ hn1) c).2 y hy;have hM:=Mx;refine rD kZ ?_
 conv=>whnf
 repeat'((first|apply st|(apply sq;intro K U)|(apply si;intro A B Y Z)|(apply Y;clear Z B Y A)|(apply U;clear U K)|apply dr|refine rk ?_ ?_|exact fun s e=>by cases e;rfl|refine Pure.use (Z4 (w:=w) a y fa b (Gi k0 hn0 c a ha) (Gi k1 hn1 c y hy) (by omega)) ?_|fail)<;>conv=>whnf)
 refine(hT false).use hd hs ?_;clear hs;intro σ hs
 conv=>whnf
 repeat'((first|apply st|(apply Y;clear Z B Y A)|(apply U;clear U K)|apply dr|fail)<;>conv=>whnf)
 exact Aa ⟨rfl,hs⟩
def fg {w:AM} {S:Type} {fn:Fn} {fi ca:List V} {H:S→List At} {stp:List Fact→S→Bool×S} {D:List Fact→S→Prop} {nW:Nat} (hT:QV (.f fn fi ca) (fun s=> .box nW [Tu nW]::H s) stp D) {f k0 k1:Fact} (hk:f.kids= [k0,k1]) {c:Bool} (hn0:A9 w k0=true) (hn1:A9 w k1=true) (hv0:lv k0≤100) (hv1:lv k1≤100) (hw1:WalkC k1) :
    QV (.f (.func 188) [] [.p nW 0,.rp (xF f),.rp [.b c],.rp [.f fn fi ca]]) (fun s=> .box nW [Tu nW]::H s) (fun a s=>Cd (fun y s=>stp (Ce a y) s) (BT k1 c) s) (fun a s=>a∈BT k0 c∧TT (fun y s=>stp (Ce a y) s) (fun y s=>D (Ce a y) s) (BT k1 c) s):=by
 rintro fa a s ⟨ha,hd⟩ σ hs;refine Bs ?_;show A8 Tryz.prog 188 ([]++[V1 a fa]++[.p nW 0,.rp (xF f),.rp [.b c],.rp [.f fn fi ca]]) σ _;have h1:f.kids[(1:Int).toNat]? =some k1:=by rw[hk];rfl
 refine rE kZ ?_
 conv=>whnf
 repeat'((first|apply st|(apply sq;intro K U)|(apply si;intro A B Y Z)|(apply Y;clear Z B Y A)|(apply U;clear U K)|apply dr|refine⟨kZ,?_⟩|refine Lt ?_|refine ld ?_|fail)<;>conv=>whnf)
 refine(hw1 c S _ _ _ H _ _ nW s (ff hT hn0 hn1 hv0 hv1 ha fa) (Nk (fun y hy=>hy) hd) σ hs).mono ?_;clear hs;rintro r σ ⟨rfl,hs⟩
 conv=>whnf
 repeat'((first|apply st|(apply Y;clear Z B Y A)|(apply U;clear U K)|apply dr|fail)<;>conv=>whnf)
 exact Aa ⟨rfl,hs⟩
set_option maxHeartbeats 2000000 in
def gr {w : AM} (f:Fact):A9 w f=true→lv f≤100→WalkC f:=by
 induction f using Fact.ind with
 | h f ih=>
   intro hn hv c S fn fi ca H stp D nW s hT hd σ hs;have har:=A7 _ hn
   have hnk: ∀k∈f.kids,A9 w k=true:=by
    rw[CM,BU,GP]at hn;exact hn.2
   have hop:f.op=1∨f.op=5∨Bt f=true∨f.op=6∨f.op=7:=by
    rw[CM,BU]at hn;have h1:=hn.1;simp only[Cq,RY,BU]at h1;rw[Oq];simp only[BU,DZ];have h2:=h1.1;split at h2
    ·omega
    ·split at h2
     ·omega
     ·simp only[Gj,D4]at h2
      omega
   refine Bs ?_;show A8 Tryz.prog 187 ([]++[.a (xF f),.b c,.f fn fi ca]++[.p nW 0]) σ _;refine rF kZ ?_;rw[Hd,FX]at hd;have hcs:=Hd f c;rw[FX]at hcs;rcases hop with h1|h5|hl|h67
   ·rw[if_pos h1]at hd hcs
    rw[hcs];cases c
    ·rw[if_neg (by decide)]at hd ⊢
     rw[U9]
     conv=>whnf
     repeat'((first|apply st|(apply sq;intro K U)|(apply si;intro A B Y Z)|(apply Y;clear Z B Y A)|(apply U;clear U K)|refine⟨rfl,?_⟩|(constructor<;>intro hc<;>(try rw[hc])<;>(replace hc:=bp hc)<;>try(exfalso;omega))|fail)<;>conv=>whnf)
     refine(hT true).use (y:=[]) hd.1 hs ?_;clear hs;intro σ hs
     conv=>whnf
     repeat'((first|apply st|(apply Y;clear Z B Y A)|(apply U;clear U K)|clear U K)<;>conv=>whnf)
     exact Aa ⟨rfl,hs⟩
    ·rw[if_pos rfl]at hd ⊢
     conv=>whnf
     repeat'((first|apply st|(apply sq;intro K U)|(apply si;intro A B Y Z)|(apply Y;clear Z B Y A)|(apply U;clear U K)|refine⟨rfl,?_⟩|(constructor<;>intro hc<;>(try rw[hc])<;>(replace hc:=bp hc)<;>try(exfalso;omega))|clear U K)<;>conv=>whnf)
     exact Aa ⟨rfl,hs⟩
   ·obtain⟨k,hk,-⟩:=Fj har h5
    have hkm:k∈f.kids:=by rw[hk];exact .head _
    have hvk:lv k≤100:=by
     rw[Km,ZC,if_pos h5,hk]at hv;exact hv
    rw[if_neg (by omega),if_pos h5,hk]at hd hcs;have hcs2:BT f c=BT k (!c):=hcs;have h0:f.kids[(0:Int).toNat]? =some k:=by rw[hk];rfl
    rw[hcs2]
    conv=>whnf
    repeat'((first|apply st|(apply sq;intro K U)|(apply si;intro A B Y Z)|(apply Y;clear Z B Y A)|(apply U;clear U K)|apply dr|refine⟨rfl,?_⟩|refine⟨kZ,?_⟩|refine Lt ?_|refine ld ?_|(constructor<;>intro hc<;>(try rw[hc])<;>(replace hc:=bp hc)<;>try(exfalso;omega))|fail)<;>conv=>whnf)
    refine(ih k hkm (hnk k hkm) hvk (!c) S _ _ _ H stp D nW s hT hd σ hs).mono ?_;clear hs;rintro r σ ⟨rfl,hs⟩
    conv=>whnf
    repeat'((first|apply st|(apply Y;clear Z B Y A)|(apply U;clear U K)|apply dr|clear U K)<;>conv=>whnf)
    exact Aa ⟨rfl,hs⟩
   ·have hlo:=Gd hl
    have hlB:=Sm f;rw[hl]at hlB;rw[if_neg (by omega),if_neg (by omega),if_neg (by omega)]at hd hcs;have hcs2:BT f c= [[if c then ED f else f]]:=by rw[hcs];cases c<;>rfl
    rw[←hcs,hcs2]at hd;rw[hcs2,U9]
    have e:V1 [if c then ED f else f] true= .l [xF f++[.b c]] true:=by
     show V.l [Ju (if c then ED f else f)] true=_;rw[Zx hl]
    have hst:=(hT true) [if c then ED f else f] s hd.1;simp only[e]at hst
    conv=>whnf
    repeat'((first|apply st|(apply sq;intro K U)|(apply si;intro A B Y Z)|(apply Y;clear Z B Y A)|(apply U;clear U K)|refine⟨rfl,?_⟩|refine⟨kZ,?_⟩|refine hlB.use ?_|(constructor<;>intro hc<;>(try rw[hc])<;>(replace hc:=bp hc)<;>try(exfalso;omega))|fail)<;>conv=>whnf)
    refine(hst σ hs).mono ?_;clear hs;rintro r σ ⟨rfl,hs⟩
    conv=>whnf
    repeat'((first|apply st|(apply Y;clear Z B Y A)|(apply U;clear U K)|clear U K)<;>conv=>whnf)
    exact Aa ⟨rfl,hs⟩
   ·obtain⟨k0,k1,hk,-,-⟩:=Fi har h67
    have hkm0:k0∈f.kids:=by rw[hk];exact .head _
    have hkm1:k1∈f.kids:=by rw[hk];exact .tail _ (.head _)
    have hlf:Bt f=false:=by rw[Oq,decide_eq_false (show¬f.op≤4 by omega),Bool.and_false]
    have hlB:=Sm f;rw[hlf]at hlB
    have hvk:lv k0+lv k1≤100:=by
     rw[Km,ZC,if_neg (by omega),if_pos h67,hk]at hv;exact hv
    rw[if_neg (by omega),if_neg (by omega),if_pos h67,hk]at hd hcs;have h0:f.kids[(0:Int).toNat]? =some k0:=by rw[hk];rfl
    have h1:f.kids[(1:Int).toNat]? =some k1:=by rw[hk];rfl
    have i0:=ih k0 hkm0 (hnk k0 hkm0) (by omega);have i1:=ih k1 hkm1 (hnk k1 hkm1) (by omega);by_cases hap:(c != (f.op==7))=true
    ·rw [if_pos hap]at hd hcs
     have hcs2:BT f c=BT k0 c++BT k1 c:=hcs;have hd2:TT stp D (BT k0 c++BT k1 c) s:=hd;obtain⟨hd3,hd4⟩:=Se hd2;rw[hcs2,O6];clear hcs hcs2 hd hd2;rcases h67 with h6|h7
     ·have h6b:(f.op==6)=true:=by rw[h6];rfl
      have hct:c=true:=by rw[h6]at hap;cases c<;>simp_all
      subst hct
      conv=>whnf
      repeat'((first|apply st|(apply sq;intro K U)|(apply si;intro A B Y Z)|(apply Y;clear Z B Y A)|(apply U;clear U K)|apply dr|refine⟨rfl,?_⟩|refine⟨kZ,?_⟩|refine Lt ?_|refine ld ?_|refine JB ?_|refine hlB.use ?_|(rw[h6b])|(constructor<;>intro hc<;>(try rw[hc])<;>(replace hc:=bp hc)<;>try(exfalso;omega))|fail)<;>conv=>whnf)
      refine(i0 true S _ _ _ H stp D nW s hT hd3 σ hs).mono ?_;clear hs;rintro r σ ⟨rfl,hs⟩;generalize Cd stp (BT k0 true) s=x at *;obtain⟨b1,s1⟩:=x;cases b1
      ·conv=>whnf
       repeat'((first|apply st|(apply Y;clear Z B Y A)|(apply U;clear U K)|apply dr|clear U K)<;>conv=>whnf)
       exact Aa ⟨rfl,hs⟩
      ·conv=>whnf
       repeat'((first|apply st|apply dr|refine⟨kZ,?_⟩|refine Lt ?_|refine ld ?_|fail)<;>conv=>whnf)
       refine(i1 true S _ _ _ H stp D nW s1 hT (hd4 rfl) σ hs).mono ?_;clear hs;rintro r σ ⟨rfl,hs⟩
       conv=>whnf
       repeat'((first|apply st|(apply Y;clear Z B Y A)|(apply U;clear U K)|apply dr|clear U K)<;>conv=>whnf)
       exact Aa ⟨rfl,hs⟩
     ·have h6b:(f.op==6)=false:=by rw[h7];rfl
      have hct:c=false:=by rw[h7]at hap;cases c<;>simp_all
      subst hct
      conv=>whnf
      repeat'((first|apply st|(apply sq;intro K U)|(apply si;intro A B Y Z)|(apply Y;clear Z B Y A)|(apply U;clear U K)|apply dr|refine⟨rfl,?_⟩|refine⟨kZ,?_⟩|refine Lt ?_|refine ld ?_|refine JB ?_|refine hlB.use ?_|(rw[h6b])|(constructor<;>intro hc<;>(try rw[hc])<;>(replace hc:=bp hc)<;>try(exfalso;omega))|fail)<;>conv=>whnf)
      refine(i0 false S _ _ _ H stp D nW s hT hd3 σ hs).mono ?_;clear hs;rintro r σ ⟨rfl,hs⟩;generalize Cd stp (BT k0 false) s=x at *;obtain⟨b1,s1⟩:=x;cases b1
      ·conv=>whnf
       repeat'((first|apply st|(apply Y;clear Z B Y A)|(apply U;clear U K)|apply dr|clear U K)<;>conv=>whnf)
       exact Aa ⟨rfl,hs⟩
      ·conv=>whnf
       repeat'((first|apply st|apply dr|refine⟨kZ,?_⟩|refine Lt ?_|refine ld ?_|fail)<;>conv=>whnf)
       refine(i1 false S _ _ _ H stp D nW s1 hT (hd4 rfl) σ hs).mono ?_;clear hs;rintro r σ ⟨rfl,hs⟩
       conv=>whnf
       repeat'((first|apply st|(apply Y;clear Z B Y A)|(apply U;clear U K)|apply dr|clear U K)<;>conv=>whnf)
       exact Aa ⟨rfl,hs⟩
    ·rw[if_neg hap]at hd hcs
     have hcs2:BT f c=D7 (BT k0 c) (BT k1 c):=hcs;have hd2:TT stp D (D7 (BT k0 c) (BT k1 c)) s:=hd;have hd3:=Uf _ hd2;have hT2:=fg hT hk (c:=c) (hnk k0 hkm0) (hnk k1 hkm1) (by omega) (by omega) i1;rw[hcs2,RN];clear hcs hcs2 hd hd2;rcases h67 with h6|h7
     ·have h6b:(f.op==6)=true:=by rw[h6];rfl
      have hct:c=false:=by rw[h6]at hap;cases c<;>simp_all
      subst hct
      conv=>whnf
      repeat'((first|apply st|(apply sq;intro K U)|(apply si;intro A B Y Z)|(apply Y;clear Z B Y A)|(apply U;clear U K)|apply dr|refine⟨rfl,?_⟩|refine⟨kZ,?_⟩|refine Lt ?_|refine ld ?_|refine G3 ?_|refine hlB.use ?_|(rw[h6b])|(constructor<;>intro hc<;>(try rw[hc])<;>(replace hc:=bp hc)<;>try(exfalso;omega))|fail)<;>conv=>whnf)
      refine(i0 false S _ _ _ H _ _ nW s hT2 (Nk (fun y hy=>hy) hd3) σ hs).mono ?_;clear hs;rintro r σ ⟨rfl,hs⟩
      conv=>whnf
      repeat'((first|apply st|(apply Y;clear Z B Y A)|(apply U;clear U K)|apply dr|fail)<;>conv=>whnf)
      exact Aa ⟨rfl,hs⟩
     ·have h6b:(f.op==6)=false:=by rw[h7];rfl
      have hct:c=true:=by rw[h7]at hap;cases c<;>simp_all
      subst hct
      conv=>whnf
      repeat'((first|apply st|(apply sq;intro K U)|(apply si;intro A B Y Z)|(apply Y;clear Z B Y A)|(apply U;clear U K)|apply dr|refine⟨rfl,?_⟩|refine⟨kZ,?_⟩|refine Lt ?_|refine ld ?_|refine G3 ?_|refine hlB.use ?_|(rw[h6b])|(constructor<;>intro hc<;>(try rw[hc])<;>(replace hc:=bp hc)<;>try(exfalso;omega))|fail)<;>conv=>whnf)
      refine(i0 true S _ _ _ H _ _ nW s hT2 (Nk (fun y hy=>hy) hd3) σ hs).mono ?_;clear hs;rintro r σ ⟨rfl,hs⟩
      conv=>whnf
      repeat'((first|apply st|(apply Y;clear Z B Y A)|(apply U;clear U K)|apply dr|fail)<;>conv=>whnf)
      exact Aa ⟨rfl,hs⟩
def oW {w:AM} (f:Fact) (hn:A9 w f=true) (hv:lv f≤100) (c:Bool) {S:Type} {fn:Fn} {fi ca:List V} {H:S→List At} {stp:List Fact→S→Bool×S} {D:List Fact→S→Prop} {s:S} (hT: ∀nW,QV (.f fn fi ca) (fun s=> .box nW [Tu nW]::H s) stp D) (hd:TT stp D (BT f c) s) (σ:AH) (hs:Sat σ (H s)) :
    A8 Tryz.prog 186 [.f fn fi ca,.rp (xF f),.rp [.b c]] σ fun r σ'=>r= .ret (.t [])∧Sat σ' (H (Cd stp (BT f c) s).2):=by
 refine rG kZ ?_
 conv=>whnf
 repeat'((first|apply st|(apply sq;intro K U)|(apply si;intro A B Y Z)|(apply Y;clear Z B Y A)|(apply U;clear U K)|refine⟨kZ,?_⟩|refine ld ?_|refine IA fun σ hs=>?_|(intro nn hnn;generalize hg:Az _ nn _=σ;refine CN hg fun hs=>?_;clear hg)|fail)<;>conv=>whnf)
 refine(gr f hn hv c S fn fi ca H stp D nn s (hT nn) hd σ hs).mono ?_;clear hs;rintro r σ ⟨rfl,hs⟩
 conv=>whnf
 repeat'((first|(apply Y;clear Z B Y A)|fail)<;>conv=>whnf)
 exact Aa ⟨rfl,hs.less (IV _ _)⟩
def fh (f:Fact) (c:Bool):Pure Tryz.prog 126 [.a (xF f),.b c] (.f (.func 186) [] [.rp (xF f),.rp [.b c]]):=by
 refine rb kZ ?_;have hs:=Sn
 conv=>whnf
 repeat'((first|apply st|(apply sq;intro K U)|(apply si;intro A B Y Z)|(apply Y;clear Z B Y A)|(apply U;clear U K)|fail)<;>conv=>whnf)
 all_goals exact AI rfl
abbrev N3 (w:AM) (l:List Fact) (s:Bool):Bool×Bool:=if Hg w l then(false,true)else(true,s)
def VA {w:AM}: ∀(cs:List (List Fact)),Cd (N3 w) cs false=(!cs.any (Hg w),cs.any (Hg w))
 | []=>rfl
 | l::r=>by
   rw[Cd,QH];simp only[N3];cases h:Hg w l
   ·simpa using VA r
   ·rfl
def YJ {w:AM} {AD:List Fact→Prop}: ∀ {cs:List (List Fact)},(∀l∈cs,AD l)→TT (N3 w) (fun l s=>s=false∧AD l) cs false
 | [],_=>trivial
 | l ::r,h=>⟨⟨rfl,h l (.head _)⟩,fun hy=>by
     cases ht:Hg w l
     ·have e:(N3 w l false).2=false:=by simp[N3,ht]
      rw[e];exact YJ fun x hx=>h x (.tail _ hx)
     ·simp[N3,ht]at hy⟩
abbrev sE (w:AM) (L:Nat) (E:Env) (ok:FuncId→Array Tmp→Code→Code→Nat→Prop) (nF:Nat):Prop:=
 ME Tryz.prog L E ok (fun(x:List Fact×Bool)=>[V1 x.1 x.2]) (fun s:Bool=>[.box nF [.b s]]) (fun _=>True) (fun x s=>if Hg w x.1 then .stop (.exit 0) true else .go s) (fun x s=>s=false∧(∀y∈x.1,Ia w y)∧x.1.length<900)
def jY {w:AM} (f:Fact) (hn:A9 w f=true) (hv:lv f≤100) {L:Nat} {E:Env} {ok:FuncId→Array Tmp→Code→Code→Nat→Prop} {nF:Nat} (hY:sE w L E ok nF) (σ:AH) (hs:Sat σ [.obj L (.loop .ready E ok),.box nF [.b false]]) :
    A8 Tryz.prog 186 [.f (.yield L) [] [],.rp (xF f),.rp [.b false]] σ fun r σ'=>r= .ret (.t [])∧Sat σ' [.obj L (.loop (if Td w f then .exit 0 else .ready) E ok),.box nF [.b (Td w f)]]:=by
 have hg:=oW f hn hv false (fn:= .yield L) (fi:=[]) (ca:=[]) (H:=fun s:Bool=>[.obj L (.loop (if s then .exit 0 else .ready) E ok),.box nF [.b s]]) (stp:=N3 w) (D:=fun l s=>s=false∧(∀y∈l,Ia w y)∧l.length<900) (s:=false) (by
  rintro nW b l s ⟨rfl,hl,hlen⟩ σ hs;refine hY.use (y:=(l,b)) (s:=false) ⟨rfl,hl,hlen⟩ (rest:=[.box nW [Tu nW]]) (hs.perm (Ms _ _ _ _)) ?_;intro r σ' hq;cases ht:Hg w l
  ·simp only[ht,Mp,if_false]at hq
   obtain⟨rfl,hs'⟩:=hq;have e:N3 w l false=(true,false):=by simp[N3,ht]
   rw[e];exact⟨rfl,hs'.perm (Ms _ _ _ _).symm⟩
  ·simp only[ht,if_true]at hq
   obtain⟨rfl,hs'⟩:=hq;have e:N3 w l false=(false,true):=by simp[N3,ht]
   rw[e]
   exact⟨rfl,hs'.perm (Ms _ _ _ _).symm⟩) (YJ fun l hl=>⟨Gi f hn false l hl,by have:=(EN f (A7 _ hn) false).2 l hl;omega⟩) σ hs
 rw[VA]at hg;exact hg
def ry (w:AM) (hw:FO w) (f:Fact) (hn:A9 w f=true) (hv:lv f≤100):Pure Tryz.prog 125 [.rp (wC w (D5 w.parents)),.a (xF f)] (.b (Td w f)):=by
 refine Pure.of ?_;refine rf kZ ?_;have hs:=Sn
 conv=>whnf
 repeat'((first|apply st|(apply sq;intro K U)|(apply si;intro A B Y Z)|(apply Y;clear Z B Y A)|(apply U;clear U K)|refine⟨kZ,?_⟩|refine IA fun σ hs=>?_|refine Pure.use (fh _ _) ?_|(intro nn hnn;generalize hg:Az _ nn _=σ;refine CN hg fun hs=>?_;clear hg)|fail)<;>conv=>whnf)
 rename_i _ nF hnF _ _ _ _;refine A8.mono (jY (w:=w) f hn hv (L:=nn) (nF:=nF) ?_ σ hs) ?_
 ·refine M6 (fun y=>rfl) ?_
  clear hs hnn hnF;rintro⟨l,b⟩ s ⟨rfl,hl,hlen⟩ rest σ hs;dsimp only at hl hlen;have htg:=VJ w hw l b hl hlen;dsimp only;cases ht:Hg w l<;>rw[ht]at htg
  ·conv=>whnf
   repeat'((first|apply st|(apply sq;intro K U)|(apply si;intro A B Y Z)|(apply Y;clear Z B Y A)|(apply U;clear U K)|refine htg.use ?_|clear U K)<;>conv=>whnf)
   intro hn;exact UZ (H:=fun s:Bool=>[.box nF [.b s]]) (J:=fun _=>True) (s:=false) rfl hs hn
  ·conv=>whnf
   repeat'((first|apply st|(apply sq;intro K U)|(apply si;intro A B Y Z)|(apply Y;clear Z B Y A)|(apply U;clear U K)|refine IA fun σ hs=>?_|refine htg.use ?_|clear U K)<;>conv=>whnf)
   intro hn;exact Wq (H:=fun s:Bool=>[.box nF [.b s]]) (J:=fun _=>True) (s:=true) (st:= .exit 0) rfl hs hn
 ·clear hs hnn hnF
  cases hp:Td w f
  ·rintro r σ ⟨rfl,hs⟩
   refine Ua hs fun σ hs=>?_
   conv=>whnf
   repeat'((first|apply st|(apply sq;intro K U)|(apply si;intro A B Y Z)|(apply Y;clear Z B Y A)|(apply U;clear U K)|refine ld ?_|fail)<;>conv=>whnf)
   exact Aa (by rw[hp])
  ·rintro r σ ⟨rfl,hs⟩
   refine Wt hs fun σ hs=>?_
   conv=>whnf
   repeat'((first|apply st|(apply sq;intro K U)|(apply si;intro A B Y Z)|(apply Y;clear Z B Y A)|(apply U;clear U K)|refine ld ?_|fail)<;>conv=>whnf)
   exact Aa (by rw[hp])
def ng (f:Fact):Pure Tryz.prog 224 [.a (xF f)] (.a (xF (ED f))):=by
 refine dO kZ ?_;have hs:=Sn
 conv=>whnf
 repeat'((first|apply st|(apply sq;intro K U)|(apply si;intro A B Y Z)|(apply Y;clear Z B Y A)|(apply U;clear U K)|refine⟨kZ,?_⟩|refine ld ?_|refine sn fun σ hs=>?_|(intro nn hnn;generalize hg:Az _ nn _=σ;refine al hg fun hs=>?_;clear hg)|fail)<;>conv=>whnf)
 refine An (.a (.cons (.refl _) (.cons (.refl _) (.cons CQ (.cons (.refl _) (.cons (.refl _) (.cons ?_ .nil)))))));refine .l (fun h=>by cases h) ?_;simp only[ED,Fact.kids,List.map,BC];exact CA _
def r8 (f g:Fact):Pure Tryz.prog 295 [.a (xF f),.a (xF g)] (.a (xF (P8 f g))):=by
 refine qB kZ ?_;have hs:=Sn
 conv=>whnf
 repeat'((first|apply st|(apply sq;intro K U)|(apply si;intro A B Y Z)|(apply Y;clear Z B Y A)|(apply U;clear U K)|refine⟨kZ,?_⟩|refine ld ?_|refine sn fun σ hs=>?_|(intro nn hnn;generalize hg:Az _ nn _=σ;refine al hg fun hs=>?_;clear hg)|fail)<;>conv=>whnf)
 refine An (.a (.cons (.refl _) (.cons (.refl _) (.cons CQ (.cons (.refl _) (.cons (.refl _) (.cons ?_ .nil)))))));refine .l (fun h=>by cases h) ?_;simp only[P8,Fact.kids,List.map,BC];exact CA _
def Pd (w:AM) (hw:FO w) (a b:Fact) (ha:A9 w a=true) (hb:A9 w b=true) (hl:lv a+lv b≤100):Pure Tryz.prog 229 [.rp (wC w (D5 w.parents)),.a (xF a),.a (xF b)] (.b (Tj w a b)):=by
 have hcan:=ry w hw (P8 a (ED b)) (Uj ha hb) (by rw[cb];exact hl);refine ql kZ ?_;have hs:=Sn
 conv=>whnf
 repeat'((first|apply st|(apply sq;intro K U)|(apply si;intro A B Y Z)|(apply Y;clear Z B Y A)|(apply U;clear U K)|apply dr|refine rk ?_ ?_|exact fun s e=>by cases e;rfl|refine⟨kZ,?_⟩|refine Pure.use (ng _) ?_|refine Pure.use (r8 _ _) ?_|refine hcan.use ?_|fail)<;>conv=>whnf)
 all_goals exact AI rfl
attribute [local irreducible] HB
def ue (p:Prog) (nO:Nat) (r:R) (post:List At):Prop:=
 match Bg p with
 | some s=>r= .ret (.t [])∧ ∃v,post= [.box nO [v],.own v 1 (iL s)]
 | none=>r= .Bf Dj∧ ∃v s,post= [.box nO [v],.own v 1 (iL s)]
def Zd (p:Prog) (nO:Nat):By Tryz.prog 281 [.rp (Ba p),.p nO 0] [.box nO [.l [] true]] (ue p nO):=fun σ hs=>
 A8.mono (eP p nO σ hs) fun r σ' hq=>by
  unfold sI at hq;unfold ue;cases h:Bg p with
  | some s=>
    rw[h]at hq;obtain⟨h1,v,h2⟩:=hq;exact⟨_,⟨h1,v,rfl⟩,h2⟩
  | none=>
    rw[h]at hq;obtain⟨h1,v,s,h2⟩:=hq;exact⟨_,⟨h1,v,s,rfl⟩,h2⟩
def jz {σ:AH} {n:Nat} {x:V} {rest:List At} (hs:Sat σ (.box n [x]::rest)) {Q:AH→Prop} (hq: ∀σ',Sat σ' (.box n [.b false]::rest)→Q σ'):HB Tryz.prog 322 [.p n 0] (some Dj) σ Q:=by
 refine Yn kZ ?_
 conv=>whnf
 repeat'((first|apply st|(apply sq;intro K U)|(apply si;intro A B Y Z)|(apply Y;clear Z B Y A)|(apply U;clear U K)|refine IA fun σ hs=>?_|refine CX fun σ hs=>?_|refine G3 ?_|refine mM rfl ?_|(intro nn hnn;generalize hg:Az _ nn _=σ;refine CN hg fun hs=>?_;clear hg)|fail)<;>conv=>whnf)
 exact hq _ (hs.less (IV _ _))
def kA {σ:AH} {n:Nat} {x:V} {rest:List At} (hs:Sat σ (.box n [x]::rest)) {Q:AH→Prop} (hq: ∀σ',Sat σ' (.box n [x]::rest)→Q σ'):HB Tryz.prog 322 [.p n 0] none σ Q:=by
 refine Yn kZ ?_
 conv=>whnf
 repeat'((first|apply st|(apply sq;intro K U)|(apply si;intro A B Y Z)|(apply Y;clear Z B Y A)|(apply U;clear U K)|refine G3 ?_|fail)<;>conv=>whnf)
 exact hq _ hs
def aH (p:Prog) (nO:Nat):By Tryz.prog 280 [.f (.func 281) [] [.rp (Ba p),.p nO 0]] [.box nO [.l [] true]] fun r post=>r= .ret (.b (Bg p).isSome)∧ ∃v s,post= [.box nO [v],.own v 1 (iL s)]∧(Bg p=none∨Bg p=some s):=by
 intro σ hs;refine qO kZ ?_
 conv=>whnf
 repeat'((first|(apply sq;intro K U)|(apply si;intro A B Y Z)|(apply Y;clear Z B Y A)|(apply U;clear U K)|(intro nn hnn;generalize hg:Az _ nn _=σ;refine CN hg fun hs=>?_;clear hg)|fail)<;>conv=>whnf)
 refine Bs ?_;refine(Zd p nO).use (rest:=[.box nn [.b false]]) (hs.perm (.swap _ _ _)) ?_;clear hs hnn;rintro r post σ hq hs;unfold ue at hq;cases h:Bg p with
 | none=>
   rw[h]at hq;obtain⟨rfl,v,s,rfl⟩:=hq
   conv=>whnf
   repeat'((first|(refine Z _ _ _ ?_;clear Z B Y A)|clear U K)<;>conv=>whnf)
   refine jz (rest:=[.box nO [v],.own v 1 (iL s)]) (hs.perm TO) fun σ hs=>?_
   conv=>whnf
   repeat'((first|refine ld ?_|fail)<;>conv=>whnf)
   exact Aa ⟨_,⟨by rw[h];rfl,v,s,rfl,.inl h⟩,hs.less (IV _ _)⟩
 | some s=>
   rw[h]at hq;obtain⟨rfl,v,rfl⟩:=hq
   conv=>whnf
   repeat'((first|apply st|(apply sq;intro K U)|(apply si;intro A B Y Z)|(apply Y;clear Z B Y A)|(apply U;clear U K)|refine IA fun σ hs=>?_|fail)<;>conv=>whnf)
   replace hs:Sat σ ([.box nO [v],.own v 1 (iL s)]++[.box nn [.b true]]):=hs;refine kA (x:= .b true) (rest:=[.box nO [v],.own v 1 (iL s)]) (hs.perm TO) fun σ hs=>?_
   conv=>whnf
   repeat'((first|refine ld ?_|fail)<;>conv=>whnf)
   exact Aa ⟨_,⟨by rw[h];rfl,v,s,rfl,.inr h⟩,hs.less (IV _ _)⟩
def eQ (p:Prog):By Tryz.prog 222 [.a (Ba p)] [] fun r post=> ∃v s,r= .ret (.t [v,.b (Bg p).isSome])∧post= [.own v 1 (iL s)]∧(Bg p=none∨Bg p=some s):=by
 intro σ hs;refine qp kZ ?_
 conv=>whnf
 repeat'((first|(apply sq;intro K U)|(apply si;intro A B Y Z)|(apply Y;clear Z B Y A)|(apply U;clear U K)|(intro nn hnn;generalize hg:Az _ nn _=σ;refine CN hg fun hs=>?_;clear hg)|fail)<;>conv=>whnf)
 refine(aH p nn).use (rest:=[]) (by simpa using hs) ?_;clear hs;rintro r post σ ⟨rfl,v,s,rfl,hl⟩ hs
 conv=>whnf
 repeat'((first|apply st|(apply sq;intro K U)|(apply si;intro A B Y Z)|(apply Y;clear Z B Y A)|(apply U;clear U K)|refine ld ?_|fail)<;>conv=>whnf)
 exact Aa ⟨_,⟨v,s,rfl,rfl,hl⟩,hs.less (.cons _ (.cons₂ _ (QI _)))⟩
def VH (p:Prog):Pure Tryz.prog 150 [.a (Ba p)] (eI (if(Bg p).isSome then 0 else 2)):=by
 refine Pure.of ?_;have hz:=eQ p;cases h:(Bg p).isSome<;>rw[h]at hz
 all_goals
  refine rT kZ ?_;have hs:=Sn
  conv=>whnf
  repeat'((first|apply st|(apply sq;intro K U)|(apply si;intro A B Y Z)|(apply Y;clear Z B Y A)|(apply U;clear U K)|refine⟨kZ,?_⟩|fail)<;>conv=>whnf)
  refine hz.use (rest:=[]) (by simpa using hs) ?_;clear hs;rintro r post σ ⟨v,s,rfl,rfl,-⟩ hs
  conv=>whnf
  repeat'((first|apply st|(apply sq;intro K U)|(apply si;intro A B Y Z)|(apply Y;clear Z B Y A)|(apply U;clear U K)|refine JB ?_|refine G3 ?_|clear U K)<;>conv=>whnf)
  exact Aa rfl
def tQ {p:Prog} (h:(Bg p).isSome=true):Bk p.AQ≤40:=by
 obtain⟨hh,-⟩:=JQ h;simp only[C3,BU,DZ]at hh;exact(LR hh.1).2.1
def r5 {p:Prog} (h:(Bg p).isSome=true):p.AQ.length≤10:=by
 obtain⟨hh,-⟩:=JQ h;simp only[C3,BU,DZ]at hh;exact(LR hh.1).2.2
def lR {p:Prog} (h:(Bg p).isSome=true):FO (AW p):=by
 obtain⟨hh,-⟩:=JQ h;simp only[C3,BU,DZ]at hh;exact(LR hh.1).1
def Y7 (p:Prog):Pure Tryz.prog 92 [.a (Ba p)] (if(Bg p).isSome then .t [.a (BI (AW p)),eI 0]else .t [.a [.l [] true,.l [] true],eI 2]):=by
 have hz:=VH p;have hM:=Mx;cases h:(Bg p).isSome<;>rw[h]at hz
 ·simp only[Mp,if_false]at hz ⊢
  refine lg kZ ?_;have hs:=Sn
  conv=>whnf
  repeat'((first|apply st|(apply sq;intro K U)|(apply si;intro A B Y Z)|(apply Y;clear Z B Y A)|(apply U;clear U K)|refine⟨rfl,?_⟩|refine⟨kZ,?_⟩|refine ld ?_|refine CX fun σ hs=>?_|refine hz.use ?_|(constructor<;>intro hc<;>(try rw[hc])<;>(replace hc:=bp hc)<;>try(exfalso;omega))|(intro nn hnn;generalize hg:Az _ nn _=σ;refine CN hg fun hs=>?_;clear hg)|clear U K)<;>conv=>whnf)
  all_goals exact AI rfl
 ·simp only[if_true]at hz ⊢
  have hm:=tQ h;have hc10:=r5 h;refine lg kZ ?_;have hs:=Sn
  conv=>whnf
  repeat'((first|apply st|(apply sq;intro K U)|(apply si;intro A B Y Z)|(apply Y;clear Z B Y A)|(apply U;clear U K)|refine⟨rfl,?_⟩|refine⟨kZ,?_⟩|refine ld ?_|refine CX fun σ hs=>?_|refine hz.use ?_|refine Pure.use (UH p (by omega) (by omega)) ?_|(constructor<;>intro hc<;>(try rw[hc])<;>(replace hc:=bp hc)<;>(try simp(disch:=omega) only[BW,wrap64,AN]at hc)<;>try(exfalso;omega))|(intro nn hnn;generalize hg:Az _ nn _=σ;refine CN hg fun hs=>?_;clear hg)|fail)<;>conv=>whnf)
  all_goals exact AI rfl
end Go.Gl
namespace Go.Gl
open Go.Proofs
attribute [local irreducible] A8 Ap Ag AT AL Ae AS AU AK Ad AO AP Aw A2 Sat AX A0 Ai W
structure ZH (T:List (List Bool)) (l:List Int):Prop where
 len:T.length≤16
 sq: ∀r∈T,r.length=T.length
 ins: ∀x∈l,0≤x∧x<(T.length:Int)
 many:l.length≤16
def ZH.less {T:List (List Bool)} {l:List Int} (h:ZH T l) (i:Nat):ZH T (l.eraseIdx i):=
 ⟨h.len,h.sq,fun x hx=>h.ins x (List.mem_of_mem_eraseIdx hx),Nat.le_trans (List.length_eraseIdx_le _ _) h.many⟩
abbrev RW:=Nat×List Bool
structure mR (n:Nat) (R:List RW):Prop where
 len:R.length=n
 row: ∀r∈R,r.2.length=n
def mR.put {n:Nat} {R:List RW} {r:RW} (h:mR n R) {j k:Nat} {b:Bool} (hr:R[j]? =some r):mR n (R.set j (r.1,r.2.set k b)):=by
 refine⟨by rw[List.length_set];exact h.len,fun q hq=>?_⟩;rcases List.mem_or_eq_of_mem_set hq with hq|rfl
 ·exact h.row q hq
 ·rw[List.length_set];exact h.row r (Ck hr)
structure oG (p:Prog) (l:List Int):Prop where
 lK: ∀x∈l,Jg p x=true
 alike: ∀x∈l,∀y∈l,dZ p x y=true
 many:l.length≤16
abbrev pI (p:Int×Int):List V:=[eI p.1,eI p.2]
abbrev pP (l:List (Int×Int)):List (List V):=l.map pI
def V2 (p:Prog) (g:Int):Bool:=decide (0≤g)&&decide (g<(p.Dc.length:Int))
def tY (p:Prog) (g:Int):Pure Tryz.prog 87 [.a (Ba p),eI g] (.b (V2 p g)):=by
 refine Pure.fit (by kernel_rfl) fun hf=>?_
 have⟨p1,p2,p3,p4⟩:=Fx hf.1;refine tk kZ ?_;have hs:=Sn
 conv=>whnf
 repeat'((first|apply st|(apply sq;intro K U)|(apply si;intro A B Y Z)|(apply Y;clear Z B Y A)|(apply U;clear U K)|refine⟨rfl,?_⟩|(constructor<;>intro hc<;>(try rw[hc])<;>(replace hc:=bp hc))|fail)<;>conv=>whnf)
 all_goals exact AI (by simp[V2, *]<;>omega)
abbrev Ob:=Int×List (Int×Int)
abbrev zI (o:Ob):List V:=[eI o.1,.l (pP o.2) false]
end Go.Gl
namespace Go.Gl
open Go.Proofs
section
variable {H:Type} {enc:TypeId×Value→H} {W:World}
end
structure uW where
 p:Prog
 gen:Int
 ms:List Int
 cl:List Int
 st:Int
abbrev V5 (g:uW):List V:=Ba g.p++([eI g.gen]++([.l (iL g.ms) false]++([.l (iL g.cl) false]++([eI g.st]++[]))))
section
variable {H:Type} {enc:TypeId×Value→H} {W:World}
def tD:Ta enc Tryz.prog W 30 V5:=fun n=>
 Hp (Fo Tryz.underlying30
  (fun n=>BO (c:=6) rfl (by kernel_rfl) (fun _=>rfl) (nH n)
   (BO (c:=1) rfl (by kernel_rfl) (fun _=>rfl) (NR n) (BO (c:=1) rfl (by kernel_rfl) (fun _=>rfl) (OE n)
    (BO (c:=1) rfl (by kernel_rfl) (fun _=>rfl) (OE n) (BO (c:=1) rfl (by kernel_rfl) (fun _=>rfl) (OR Tryz.underlying28 n) Hq))))) (fun _=>(show _=10 from rfl).trans (by kernel_rfl)) n) (fun x=>⟨x.1,x.2.1,x.2.2.1,x.2.2.2.1,x.2.2.2.2.1⟩) fun _=>rfl
end
end Go.Gl
namespace Go.Proofs.YtegbmnmnaijioaaGreat
open Go.Gl Go.ChangeShapes Go.WideShapes Go.ChangeAt Go.RowKit
theorem own:ownKnob Tryz.prog.godebug=none:=by kernel_rfl
def laidOut:laidOutB Tryz.prog=true:=by kernel_rfl
def Ea {a b:Bool} (h1:a=true) (h2:b=true):(a&&b)=true:=by rw[h1,h2];rfl
abbrev HE (w:World):=Hh (fun _=>False) emp w
def uz {w:World} {cs:Array Value} {g:uW} (hp:cs.toList.length=(V5 g).length∧BZ (HE w) (fun i=>cs.toList[i]?) 0 (V5 g)):Ah (HE w) (.a (V5 g)) (.agg cs):=by
 simp only[Ah];exact⟨cs,rfl,by simpa using hp.1,by simpa using hp.2⟩
end Go.Proofs.YtegbmnmnaijioaaGreat
namespace Go.Gl
open Go.Proofs
attribute [local irreducible] A8 Ap Ag AT AL Ae AS AU AK Ad AO AP Aw A2 Sat AX A0 Ai W
end Go.Gl
namespace Go.Gl
open Go.Proofs
attribute [local irreducible] A8 Ap Ag AT AL Ae AS AU AK Ad AO AP Aw A2 Sat AX A0 Ai W
end Go.Gl
namespace Go.Gl
open Go.Proofs
def uV (t t':BB):Prop:=t.1.length=t'.1.length∧t.2.length=t'.2.length∧(∀c,t.1.getD c false=true→t'.1.getD c false=true)∧ ∀c,t.2.getD c false=true→t'.2.getD c false=true
def uV.trans {t u v:BB} (h:uV t u) (k:uV u v):uV t v:=⟨h.1.trans k.1,h.2.1.trans k.2.1,fun c hc=>k.2.2.1 c (h.2.2.1 c hc),fun c hc=>k.2.2.2 c (h.2.2.2 c hc)⟩
end Go.Gl
namespace Go.Gl
open Go.Proofs
attribute [local irreducible] A8 Ap Ag AT AL Ae AS AU AK Ad AO AP Aw A2 Sat AX A0 Ai W
end Go.Gl
namespace Go.Gl
variable {P:Program} {σ:AH}
end Go.Gl
namespace Go.Gl
open Go.Proofs
attribute [local irreducible] A8 Ap Ag AT AL Ae AS AU AK Ad AO AP Aw A2 Sat AX A0 Ai W
def l8 (g:FuncId) (fi ca:List V) (q:Int×Int→Bool):Prop:= ∀v,Pure Tryz.prog g (fi++[.a (pI v)]++ca) (.b (q v))
def l8.use {g:FuncId} {fi ca:List V} {q:Int×Int→Bool} (h:l8 g fi ca q) {v:Int×Int} {σ:AH} {k kp:V→AH→Prop} (hk:k (.b (q v)) σ):Aw Tryz.prog (.f (.func g) fi ca) [.a (pI v)] σ (qk k kp):=Bs ((h v).use hk)
end Go.Gl
namespace Go.Gl
variable {P:Program} {σ:AH}
def A8.tS {f:FuncId} {args args':List V} {σ σ2:AH} {Q:R→AH→Prop} (h:A8 P f args' σ2 Q) (hsub:Sub σ2 σ) (hf:DS σ σ2 args args'):A8 P f args σ Q:=by
 refine⟨h.1,fun Λ w cs G hv=>?_⟩;exact Calls.mono (h.2 Λ w cs (G.drop hsub) ⟨by rw[hf.length];exact hv.1,hf.rel G hsub (fun _ _ e=>e) hv.2⟩) fun e w' ⟨r,σ',hr,h1,h2,h3⟩=>⟨r,σ',hr,h1,h2,(Bx.drop w hsub).trans h3⟩
def Pure.arg {f:FuncId} {args args':List V} {v:V} (h:Pure P f args' v) (hf:DS emp emp args args'):Pure P f args v:=A8.tS h (Sub.refl _) hf
def Own.mf {v:V} {sz:Nat} {es es':List (List V)} (h:Own σ v sz es) (G:E3 σ emp es es'):FF σ emp v (.l es' false):=by
 rcases h with⟨rfl,_⟩|⟨n,cap,rfl,hn⟩
 ·exact .l (fun h=>(by cases h)) G
 ·exact .arr hn rfl rfl G
inductive WC (σ σ':AH):Env→Env→Prop
 | nil:WC σ σ' [] []
 | cons {k:Nat} {v v':V} {e e':Env}:FF σ σ' v v'→WC σ σ' e e'→WC σ σ' ((k,v)::e) ((k,v')::e')
def WC.zH {σ σ':AH} {e e':Env} (h:WC σ σ' e e'):uw σ σ' e e':=by
 induction h with
 | nil=>intro j v2 hv;cases hv
 | cons h1 h2 ih=>
   rename_i k v v' e e';intro j v2 hv;simp only[get]at hv ⊢;cases hb:Nat.beq k j with
   | true=>
     rw[hb]at hv;simp only[cond_true,I9]at hv ⊢;subst hv;exact⟨v,rfl,h1⟩
   | false=>
     rw[hb]at hv;simp only[cond_false]at hv ⊢;exact ih j v2 hv
def mK {env:Env} {K:Env→AH→Prop} (h:K env σ):Fz env σ K:= .inl h
def lS {env env2:Env} {K:Env→AH→Prop} {l:List At} (hs:Sat σ l) (i:Nat) {v:V} {sz:Nat} {es:List (List V)} (hi:l[i]? =some (.own v sz es))
    (he: ∀σ2,FF σ σ2 v (.l es false)→WC σ σ2 env env2) (hk: ∀σ2,Sat σ2 (l.eraseIdx i)→K env2 σ2):Fz env σ K:=by
 obtain⟨σ2,h1,h2,h3⟩:=OH hs i hi;exact .inr ⟨env2,σ2,⟨fun n o2 ho=> .inl (h1 n o2 ho)⟩,(he σ2 h2).zH,hk σ2 h3⟩
def tZ {env env2:Env} {K:Env→AH→Prop} {l:List At} (hs:Sat σ l) (i j:Nat) {v:V} {sz n:Nat} {es:List (List V)} {vs vs2:List V} (hi:l[i]? =some (.own v sz es)) (hj:l[j]? =some (.box n vs))
    (hv: ∀σ2,FF σ σ2 v (.l es false)→DS σ σ2 vs vs2) (he: ∀σ2,FF σ σ2 v (.l es false)→WC σ σ2 env env2) (hk: ∀σ2,Sat σ2 ((l.set j (.box n vs2)).eraseIdx i)→K env2 σ2):Fz env σ K:=by
 have hn:σ n=some (.cs vs):=hs.get hj;have hij:j≠i:=fun e=>by subst e;rw[hj]at hi;cases hi
 have hi2:(l.set j (.box n vs2))[i]? =some (.own v sz es):=by rw[List.getElem?_set_ne hij];exact hi
 obtain⟨σ2,h1,h2,h3⟩:=OH (gh hs hj (.cs vs2)) i hi2
 have hf:FF σ σ2 v (.l es false):=by
  rcases hs.get hi with⟨rfl,_⟩|⟨m,cap,rfl,hm⟩
  ·exact .l (fun h=>(by cases h)) (.refl _ _ _)
  ·have hmn:m≠n:=fun e=>by
    subst e;rw[hm]at hn;cases hn
   refine .arr hm ?_ rfl (.refl _ _ _);cases h2 with
   | arr _ q _ _=>exact q
 refine .inr ⟨env2,σ2,⟨fun m o2 ho=>?_⟩,(he σ2 hf).zH,hk σ2 h3⟩;have:=h1 m o2 ho;by_cases hmn:m=n
 ·subst hmn
  rw[C6]at this;cases this;exact .inr ⟨vs,vs2,hn,rfl,hv σ2 hf⟩
 ·rw[CZ _ _ hmn]at this
  exact .inl this
def gM {l:List Nat} {a b:AY} {Q:Af→Env→AH→Prop} {env:Env} (h: ∀K:Env→AH→Prop,(∀env σ,(pk l env fun E=>Fz E σ (W P b Q))→K env σ)→W P a (Af.andThen K Q) env σ):W P (.seq l a b) Q env σ:=sD h
end Go.Gl
namespace Go.Gl
open Go.Proofs
end Go.Gl
namespace Go.Gl
open Go.Proofs
attribute [local irreducible] A8 Ap Ag AT AL Ae AS AU AK Ad AO AP Aw A2 Sat AX A0 Ai W
def uQ (p:Prog) (l:List Int) (k:Int):List Int:=l.filter fun m=>(De p m).kind==k
end Go.Gl
namespace Go.Gl
open Go.Proofs
structure lM (p:Prog) (l:List Int):Prop where
 lK: ∀x∈l,Jg p x=true
 gen: ∀x∈l,∀y∈l,(De p x).gen=(De p y).gen
 nodup:l.Nodup
 many:l.length≤16
def K0 {p:Prog} {l:List Int} {k x:Int} (h:x∈uQ p l k):x∈l∧(De p x).kind=k:=by
 have:=Pz.1 h;exact⟨this.1,by simpa using this.2⟩
def ik {p:Prog} {l:List Int} {k:Int}:(uQ p l k).length≤l.length:=QJ _ _
def lM.of {p:Prog} {l:List Int} (h:lM p l) (k:Int):oG p (uQ p l k)∧(uQ p l k).Nodup:=by
 refine⟨⟨fun x hx=>h.lK x (K0 hx).1,fun x hx y hy=>?_,Nat.le_trans ik h.many⟩,h.nodup.sublist (List.filter_sublist ..)⟩;rw[dZ,h.gen x (K0 hx).1 y (K0 hy).1,(K0 hx).2,(K0 hy).2];simp
def ZH.sub {T:List (List Bool)} {l l':List Int} (h:ZH T l) (hs: ∀x∈l',x∈l) (hl:l'.length≤l.length):ZH T l':=⟨h.len,h.sq,fun x hx=>h.ins x (hs x hx),Nat.le_trans hl h.many⟩
attribute [local irreducible] A8 Ap Ag AT AL Ae AS AU AK Ad AO AP Aw A2 Sat AX A0 Ai W
end Go.Gl
namespace Go.Gl
open Go.Proofs
attribute [local irreducible] A8 Ap Ag AT AL Ae AS AU AK Ad AO AP Aw A2 Sat AX A0 Ai W
def l9 (g:FuncId) (fi ca:List V) (q:Ob→Bool):Prop:= ∀v,Pure Tryz.prog g (fi++[.a (zI v)]++ca) (.b (q v))
def l9.use {g:FuncId} {fi ca:List V} {q:Ob→Bool} (h:l9 g fi ca q) {v:Ob} {σ:AH} {k kp:V→AH→Prop} (hk:k (.b (q v)) σ):Aw Tryz.prog (.f (.func g) fi ca) [.a (zI v)] σ (qk k kp):=Bs ((h v).use hk)
abbrev CK:Fact:=Fact.mk 1 0 [] 0 0 []
def bF (p:Prog) (gen:Int) (k:Nat):List Int:=(Ca k).filter fun m=>(De p m).gen==gen
def Jr (p:Prog) (gen:Int):List Int:=bF p gen p.methods.length
def Ut (p:Prog) (gen:Int) (k:Nat):bF p gen (k+1)=if(De p (k:Int)).gen==gen then bF p gen k++[(k:Int)]else bF p gen k:=by
 rw[bF,I3,List.filter_append];cases hp:(De p (k:Int)).gen==gen<;>simp[bF,hp]
def Nt (p:Prog) (gen:Int) (k:Nat):(bF p gen k).length≤k:=by
 have:=QJ (fun m=>(De p m).gen==gen) (Ca k)
 rwa [GC]at this
def jW (p:Prog) (gen:Int) (m:Int):(Jr p gen).contains m=(Jg p m&&(De p m).gen==gen):=by
 rw[JZ,List.contains_iff_mem,Jr,bF,Pz,PK,BU,Jg];simp only[BU,DZ]
def YQ {p:Prog} {k:Nat} {x:NW} (hx:p.methods[k]? =some x):De p (k:Int)=x:=by
 have hlt:=(Mn.1 hx).1;have:=Oo (p:=p) (m:=k) (by simp[Jg];omega);rw[Lm,hx]at this;exact(Option.some.inj this).symm
def Gm (p:Prog) (gen:Int):Bool:=(Bg p).isSome&&V2 p gen
def VF (p:Prog) (gen:Int) (h16:p.methods.length≤16):Pure Tryz.prog 89 [.a (Ba p),eI gen] (.l (iL (Jr p gen)) false):=by
 refine Pure.fit (by kernel_rfl) fun hf=>?_
 have F:=IJ hf.1;have hM:=Mx;refine ti kZ ?_;have hs:=Sn
 conv=>whnf
 repeat'((first|apply st|(apply sq;intro K U)|(apply si;intro A B Y Z)|(apply Y;clear Z B Y A)|(apply U;clear U K)|fail)<;>conv=>whnf)
 refine CD p.methods.length (fun k v=>[(5,v),(11,eI (BM k))]) (fun k v=>[.own v 1 (iL (bF p gen k))]) (fun _ _=>True) (.l [] true) rfl trivial (Ed hs 1) ?_;clear hs;rintro k v σ hk - hs;have hal:=Nt p gen k;rcases BS p.methods hk with⟨x,hx,hlt⟩|hke
 ·have hck:BM k=k:=AN (by omega)
  have hxe:=YQ hx;have hst:=Ut p gen k;rw[hxe]at hst;generalize bF p gen k=zs at *;have hll:zs.length<Aj∧(zs.length+1)*8≤140737488355328:=by omega
  by_cases hg:x.gen=gen
  ·rw[if_pos (D4.2 hg)]at hst
   conv=>whnf
   repeat'((first|apply st|(apply sq;intro K U)|(apply si;intro A B Y Z)|(apply Y;clear Z B Y A)|(apply U;clear U K)|refine⟨rfl,?_⟩|refine⟨kZ,?_⟩|refine ix ?_|refine ld ?_|refine CX fun σ hs=>?_|refine aq fun v σ hs hsl=>?_|(refine C8 (fun hc=>?_)<;>(try rw[hc])<;>clear hc)|(constructor<;>intro hc<;>(try rw[hc])<;>(replace hc:=bp hc)<;>try(exfalso;omega))|(intro nn hnn;generalize hg:Az _ nn _=σ;refine CN hg fun hs=>?_;clear hg)|clear U K)<;>conv=>whnf)
   exact⟨hlt,_,rfl,trivial,by rw[hst,←hck];exact hs.less (IV _ _)⟩
  ·rw[if_neg (by simpa using hg)]at hst
   conv=>whnf
   repeat'((first|apply st|(apply sq;intro K U)|(apply si;intro A B Y Z)|(apply Y;clear Z B Y A)|(apply U;clear U K)|refine⟨rfl,?_⟩|refine⟨kZ,?_⟩|refine ix ?_|refine ld ?_|refine CX fun σ hs=>?_|(refine C8 (fun hc=>?_)<;>(try rw[hc])<;>clear hc)|(constructor<;>intro hc<;>(try rw[hc])<;>(replace hc:=bp hc)<;>try(exfalso;omega))|(intro nn hnn;generalize hg:Az _ nn _=σ;refine CN hg fun hs=>?_;clear hg)|clear U K)<;>conv=>whnf)
   exact⟨hlt,_,rfl,trivial,by rw[hst];exact hs.less (IV _ _)⟩
 ·rw[hke]at hs
  conv=>whnf
  repeat'((first|apply st|(apply sq;intro K U)|(apply si;intro A B Y Z)|(apply Y;clear Z B Y A)|(apply U;clear U K)|refine⟨rfl,?_⟩|(refine Es (fun hc=>?_)<;>(try rw[hc])<;>clear hc)|clear U K)<;>conv=>whnf)
  exact An (hs.G7 0 rfl)
def dt (p:Prog) (gen:Int):Pure Tryz.prog 28 [.a (Ba p),eI gen] (eI (if Gm p gen then 0 else 2)):=by
 have c1:=nS p;have c2:=tY p gen;rw[Gm];cases h1:(Bg p).isSome<;>rw[h1]at c1<;>cases h2:V2 p gen<;>rw[h2]at c2
 all_goals
  refine uA kZ ?_;have hs:=Sn
  conv=>whnf
  repeat'((first|apply st|(apply sq;intro K U)|(apply si;intro A B Y Z)|(apply Y;clear Z B Y A)|(apply U;clear U K)|refine⟨kZ,?_⟩|refine JB ?_|refine G3 ?_|refine s5 ?_|refine ml ?_|refine Pure.use (by assumption) ?_|clear U K)<;>conv=>whnf)
  all_goals exact AI rfl
def tN (p:Prog) (gen:Int) (h16:p.methods.length≤16):Pure Tryz.prog 64 [.a (Ba p),eI gen] (eI (if(Jr p gen).length≤8 then 0 else 3)):=by
 have c1:=VF p gen h16;have hl:=Nt p gen p.methods.length;rw[←Jr]at hl;generalize Jr p gen=ms at *;have e1:((iL ms).length:Int)=ms.length:=by simp
 refine ts kZ ?_;have hs:=Sn
 conv=>whnf
 repeat'((first|apply st|(apply sq;intro K U)|(apply si;intro A B Y Z)|(apply Y;clear Z B Y A)|(apply U;clear U K)|refine⟨rfl,?_⟩|refine⟨kZ,?_⟩|(constructor<;>intro hc<;>(try rw[hc])<;>(replace hc:=bp hc)<;>(try simp(disch:=omega) only[BW,wrap64,AN]at hc))|refine Pure.use (by assumption) ?_|clear U K)<;>conv=>whnf)
 ·exact AI (by rw[if_neg (by omega)])
 ·exact AI (by rw[if_pos (by omega)])
end Go.Gl
