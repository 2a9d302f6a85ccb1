import Derived.Test.YtegbmnmnaijioaaGreatA12
set_option linter.all false
set_option linter.defProp false
noncomputable section
namespace Go.Gl
open Go.Proofs
attribute [local irreducible] BC Aw Ai AV AM Ah AU AW AN Ag AQ AS A3 BA Sat Ab A8 Ak W
structure JD (w:AL) (kf:Int→List Int→Kn):Prop where
 ok: ∀a p,nC 1000 (kf a p)
 low: ∀a p,-1000000000≤(kf a p).low∧(kf a p).low≤1000000000
 short: ∀a p,2≤p.length→(kf a p).AJ= []
 AJ: ∀a p,∀s∈(kf a p).AJ,0≤s∧s<w.owner.length
abbrev Hx (L:Nat) (pre post:List C6) (e:C6) (s:List C6):List At:=
 .box e.b [eI e.k.low,eI e.k.high,e.vn,eU e.k.CE,eU e.k.Ga,.b e.k.whole,.b e.k.A6,e.vs]:: .own e.vn 1 (iL e.k.no)::HQ L (pre++e::(post++s)) pre (post++s)
def vQ {σ:AH} {L:Nat} {pre post:List C6} {e:C6} {s:List C6} (h:Sat σ (CI L (pre++e::(post++s)))):Sat σ (.own e.vs 1 (iL e.k.AJ)::Hx L pre post e s):=
 (HS (X:=[]) h).perm ((LF _ _ _ _).symm)
def ow {σ:AH} {L:Nat} {pre post:List C6} {e:C6} {s:List C6} (h:Sat σ (.own e.vs 1 (iL e.k.AJ)::Hx L pre post e s)):Sat σ (CI L (pre++e::(post++s))):=
 ET (X:=[]) (e:=e) (e':=e) rfl rfl rfl (h.perm (LF _ _ _ _))
def Ox (kf:Int→List Int→Kn) (L:Nat) (es:List C6) (post:List At):Prop:= ∃es',Qf es es'∧D1 kf es'∧post=CI L es'
def mJ (w:AL) (us:List Nat) {kf:Int→List Int→Kn} {L:Nat} {pre post:List C6} {e:C6} {a:Int} {p:List Int} (hp:p.length<2) :
    Nh Tryz.prog (.f (.func 350) [] [.rp [UE w us L],.rp (K3 a p)]) eI (fun s=> .own e.vs 1 (iL e.k.AJ)::Hx L pre post e s) (fun y=> !(kf a (p++[y])).A6) (fun s=>D1 kf (pre++e::(post++s))∧ ∀x∈s,x.k=k0) (fun _=>True):=by
 rintro y s - ⟨hj,hj0⟩ σ hs;refine B2 ?_;show BC Tryz.prog 350 ([]++[eI y]++[.rp [UE w us L],.rp (K3 a p)]) σ _;refine rX kZ ?_
 conv=>whnf
 repeat'((first|apply st|(apply sq;intro K U)|(apply si;intro A B Y Z)|(apply Y;clear Z B Y A)|(apply U;clear U K)|apply dr|refine rk ?_ ?_|exact fun s e=>by cases e;rfl|refine⟨kZ,?_⟩|refine Pure.use (OO a p y hp) ?_|fail)<;>conv=>whnf)
 refine(LN w us hj (a:=a) (p:=p++[y]) (by simp;omega)).use (rest:=[]) (by simpa using ow hs) ?_;clear hs;rintro r post' σ ⟨es4,e4,got,rfl,rfl⟩ hs;have hek4:=got.k;obtain⟨new,he4,hnew⟩:=got.ext;have hinv:=got.inv;obtain⟨pre4,post4,he5⟩:=List.append_of_mem got.mem;rw[Im,he5]at hs;replace hs:=HS (X:=[]) hs
 conv=>whnf
 repeat'((first|apply st|(apply Y;clear Z B Y A)|(apply U;clear U K)|apply dr|refine ld ?_|fail)<;>conv=>whnf)
 refine AX ⟨by rw[hek4],s++new,⟨?_,fun x hx=>?_⟩,?_⟩
 ·rw[he4]at hinv
  simpa using hinv
 ·rcases E7.1 hx with hx|hx
  ·exact hj0 x hx
  ·exact hnew x hx
 ·have h2:=ET (X:=[]) (e:=e4) (e':=e4) rfl rfl rfl hs
  rw[←he5,he4]at h2;refine vQ ?_;simpa using h2
def mK (w:AL) (us:List Nat) {kf:Int→List Int→Kn} (hr:JD w kf) {L:Nat} {es:List C6} (h:D1 kf es) {a:Int} {p:List Int} (hp:p.length≤2) :
    Bj Tryz.prog 316 [UE w us L,Eb a p] (CI L es) fun r post=>r= .ret (.b (Oz kf a p))∧Ox kf L es post:=by
 intro σ hs;have hM:=Mx;refine sF kZ ?_
 conv=>whnf
 repeat'((first|apply st|(apply sq;intro K U)|(apply si;intro A B Y Z)|(apply Y;clear Z B Y A)|(apply U;clear U K)|refine⟨kZ,?_⟩|fail)<;>conv=>whnf)
 refine(LN w us h (a:=a) (p:=p) hp).use (rest:=[]) (by simpa using hs) ?_;clear hs;rintro r post σ ⟨es4,e4,got,rfl,rfl⟩ hs;have hek:=got.k;obtain⟨pre,post,rfl⟩:=List.append_of_mem got.mem;rw[Im]at hs;replace hs:=HS (X:=[]) hs;have hsl:=(hr.ok a p).2.2.2;have hsh:=hr.short a p;rw[←hek]at hsl hsh
 have hst:p.length<2∨e4.k.AJ= []:=by
  rcases Nat.lt_or_ge p.length 2 with h'|h'
  ·exact .inl h'
  ·exact .inr (hsh h')
 have hE:Oz kf a p=e4.k.AJ.all fun y=> !(kf a (p++[y])).A6:=by rw[Oz,hek]
 conv=>whnf
 repeat'((first|refine ld ?_|fail)<;>conv=>whnf)
 have hall:Bj Tryz.prog 246 [e4.vs,.f (.func 350) [] [.rp [UE w us L],.rp (K3 a p)]] (.own e4.vs 1 (iL e4.k.AJ)::Hx L pre post e4 []) fun r post'=>r= .ret (.b (e4.k.AJ.all fun y=> !(kf a (p++[y])).A6))∧ ∃s',(D1 kf (pre++e4::(post++s'))∧ ∀x∈s',x.k=k0)∧post'= .own e4.vs 1 (iL e4.k.AJ)::Hx L pre post e4 s':=by
  rcases hst with h'|h'
  ·exact Zt 350 [] [.rp [UE w us L],.rp (K3 a p)] (Hx L pre post e4) _ _ _ (mJ w us h') (fun _ _=>trivial) (by omega) [] ⟨by simpa using got.inv,by simp⟩
  ·exact Zt 350 [] [.rp [UE w us L],.rp (K3 a p)] (Hx L pre post e4) _ _ (fun _=>False) (fun y s hf=>hf.elim) (fun x hx=>by rw[h']at hx;cases hx) (by omega) [] ⟨by simpa using got.inv,by simp⟩
 refine hall.use (rest:=[]) (by
  have h2:=vQ (L:=L) (pre:=pre) (post:=post) (e:=e4) (s:=[]) (by simpa using ET (X:=[]) (e:=e4) (e':=e4) rfl rfl rfl hs)
  simpa using h2) ?_
 clear hs;rintro r post' σ ⟨rfl,s',⟨hi,hn⟩,rfl⟩ hs
 conv=>whnf
 repeat'((first|apply st|(apply Y;clear Z B Y A)|(apply U;clear U K)|fail)<;>conv=>whnf)
 refine AX ⟨_,⟨by rw[hE],pre++e4::(post++s'),got.ext.trans ⟨s',by simp,hn⟩,hi,rfl⟩,ow (by simpa using hs)⟩
def jH {m u:Nat} (hm:m<18446744073709551616):(On m u=0)↔Qc m u=true:=by
 rw[PI (by simpa using hm)];constructor
 ·intro h b hb
  have hlt:b<64:=by
   rcases Nat.lt_or_ge b 64 with h'|h'
   ·exact h'
   ·rw[Nat.testBit_lt_two_pow (Nat.lt_of_lt_of_le hm (by simpa using Nat.pow_le_pow_right (n:=2) (by decide) h'))]at hb;cases hb
  have:=Pj (a:=m) (b:=u) hlt;rw[h,Nat.zero_testBit,hb]at this;simpa using this
 ·intro h
  refine Nat.eq_of_testBit_eq fun i=>?_
  rw[Nat.zero_testBit];rcases Nat.lt_or_ge i 64 with hlt|hge
  ·rw[Pj hlt]
   cases hb:m.testBit i with
   | false=>rfl
   | true=>rw[h i hb];rfl
  ·exact Nat.testBit_lt_two_pow (Nat.lt_of_lt_of_le (Tp _ _) (by simpa using Nat.pow_le_pow_right (n:=2) (by decide) hge))
def VH (w:AL) (us:List Nat) {kf:Int→List Int→Kn} (hr:JD w kf) {L:Nat} {es:List C6} (h:D1 kf es) {a:Int} {p:List Int} (hp:p.length≤2) (c:Nat) (hc:c<64) :
    Bj Tryz.prog 270 [UE w us L,Eb a p,eI c] (CI L es) fun r post=>r= .ret (.b (Hv kf a p c))∧Ox kf L es post:=by
 intro σ hs;refine su kZ ?_
 conv=>whnf
 repeat'((first|apply st|(apply sq;intro K U)|(apply si;intro A B Y Z)|(apply Y;clear Z B Y A)|(apply U;clear U K)|refine⟨kZ,?_⟩|fail)<;>conv=>whnf)
 refine(LN w us h (a:=a) (p:=p) hp).use (rest:=[]) (by simpa using hs) ?_;clear hs;rintro r post σ ⟨es4,e4,got,rfl,rfl⟩ hs;have hek:=got.k;obtain⟨pre,post,rfl⟩:=List.append_of_mem got.mem;rw[Im]at hs;replace hs:=HS (X:=[]) hs;have hok:=hr.ok a p;rw[←hek]at hok;have hu:1|||2 ^ c<18446744073709551616:=LG (by decide) (KQ hc)
 have hb1:bits .andNot .u64 (e4.k.CE:Int) ((1|||2 ^ c:Nat):Int)=((On e4.k.CE (1|||2 ^ c):Nat):Int):=SP;have hb2:bits .and .u64 (e4.k.Ga:Int) ((1|||2 ^ c:Nat):Int)=((e4.k.Ga&&&(1|||2 ^ c):Nat):Int):=L0 hok.2.1 hu;have hb3:=jH (u:=1|||2 ^ c) hok.1;have F:Hv kf a p c=(Qc e4.k.CE (1|||2 ^ c)&&(e4.k.Ga&&&(1|||2 ^ c)==0&&Oz kf a p)):=by rw[Hv,hek]
 conv=>whnf
 repeat'((first|apply st|(apply sq;intro K U)|(apply si;intro A B Y Z)|(apply Y;clear Z B Y A)|(apply U;clear U K)|refine⟨rfl,?_⟩|refine⟨kZ,?_⟩|refine ld ?_|refine Pure.use (Yi 1 c (by decide) hc) ?_|(constructor<;>intro hc<;>(try rw[hc])<;>(replace hc:=bp hc))|fail)<;>conv=>whnf)
 ·have h1:Qc e4.k.CE (1|||2 ^ c)=true:=hb3.1 (by omega)
  have h2:(e4.k.Ga&&&(1|||2 ^ c)==0)=true:=by rw[D9];omega
  refine(mK w us hr got.inv hp).use (rest:=[]) (by simpa using ET (X:=[]) (e:=e4) (e':=e4) rfl rfl rfl hs) ?_;clear hs;rintro r post' σ ⟨rfl,es5,hx,hi,rfl⟩ hs
  conv=>whnf
  repeat'((first|apply st|(apply Y;clear Z B Y A)|(apply U;clear U K)|fail)<;>conv=>whnf)
  exact AX ⟨_,⟨by rw[F,h1,h2];rfl,es5,got.ext.trans hx,hi,rfl⟩,by simpa using hs⟩
 ·have h2:(e4.k.Ga&&&(1|||2 ^ c)==0)=false:=by rw[beq_eq_false_iff_ne];omega
  exact AX ⟨_,⟨by rw[F,h2];simp,_,got.ext,got.inv,rfl⟩,by simpa using ET (X:=[]) (e:=e4) (e':=e4) rfl rfl rfl hs⟩
 ·have h1:Qc e4.k.CE (1|||2 ^ c)=false:=by
   rw[←Bool.not_eq_true,←hb3];omega
  exact AX ⟨_,⟨by rw[F,h1];simp,_,got.ext,got.inv,rfl⟩,by simpa using ET (X:=[]) (e:=e4) (e':=e4) rfl rfl rfl hs⟩
def QB (w:AL) (us:List Nat) {kf:Int→List Int→Kn} (hr:JD w kf) {L:Nat} {es:List C6} (h:D1 kf es) {a:Int} {p:List Int} (hp:p.length≤2) :
    Bj Tryz.prog 194 [UE w us L,Eb a p] (CI L es) fun r post=>r= .ret (.t [eI (KU (kf a p)),.b (Sr kf a p)])∧Ox kf L es post:=by
 intro σ hs;have hM:=Mx;refine tg kZ ?_
 conv=>whnf
 repeat'((first|apply st|(apply sq;intro K U)|(apply si;intro A B Y Z)|(apply Y;clear Z B Y A)|(apply U;clear U K)|refine⟨kZ,?_⟩|fail)<;>conv=>whnf)
 refine(LN w us h (a:=a) (p:=p) hp).use (rest:=[]) (by simpa using hs) ?_;clear hs;rintro r post σ ⟨es4,e4,got,rfl,rfl⟩ hs;have hek:=got.k;obtain⟨pre,post,rfl⟩:=List.append_of_mem got.mem;rw[Im]at hs;replace hs:=HS (X:=[]) hs;have hok:=hr.ok a p;have hlo:=hr.low a p;rw[←hek]at hok hlo;have hno:=hok.2.2.1;have hle:=ZU e4.k.no e4.k.low;have hL:KU (kf a p)=HG e4.k.no (from_ e4.k.no e4.k.low) e4.k.low:=by rw[KU,←hek];exact Zu hle (Iu _)
 conv=>whnf
 repeat'((first|apply st|(apply sq;intro K U)|(apply si;intro A B Y Z)|(apply Y;clear Z B Y A)|(apply U;clear U K)|refine ld ?_|fail)<;>conv=>whnf)
 refine EA (fun n:Int=>from_ e4.k.no n) (fun n=>[(7,eI n)]) (fun _=> .box e4.b [eI e4.k.low,eI e4.k.high,e4.vn,eU e4.k.CE,eU e4.k.Ga,.b e4.k.whole,.b e4.k.A6,e4.vs]:: .own e4.vn 1 (iL e4.k.no):: .own e4.vs 1 (iL e4.k.AJ)::([]++HQ L (pre++e4::post) pre post)) (fun n=> -1000000000≤n∧n+from_ e4.k.no n≤1000001000∧KU (kf a p)=HG e4.k.no (from_ e4.k.no n) n) e4.k.low rfl ⟨by omega,by omega,hL⟩ hs ?_;clear hs hL hle;rintro n σ ⟨hn0,hn1,hL⟩ hs;have hct2:=fun b=>C1 e4.k.no b n
 cases hcB:e4.k.no.contains n<;>rw[hcB]at hct2
 ·have hout:n∉e4.k.no:=by simpa using hcB
  rw[m5 hout]at hL;have hI:Sr kf a p=(decide (n≤e4.k.high)&&Hv kf a p 1):=by rw[Sr,hL,hek]
  conv=>whnf
  repeat'((first|apply st|(apply sq;intro K U)|(apply si;intro A B Y Z)|(apply Y;clear Z B Y A)|(apply U;clear U K)|refine⟨rfl,?_⟩|refine⟨kZ,?_⟩|refine ld ?_|refine Pure.aH (hct2 false) (.cons (hs.GX 1 rfl) (.cons (.refl _) .nil)) rfl ?_|(constructor<;>intro hc<;>(try rw[hc])<;>(replace hc:=bp hc))|clear U K)<;>conv=>whnf)
  all_goals
   have hsc:Sat σ (CI L (pre++e4::post)):=by simpa using ET (X:=[]) (e:=e4) (e':=e4) rfl rfl rfl hs
  ·refine(VH w us hr got.inv hp 1 (by decide)).use (rest:=[]) (by simpa using hsc) ?_
   clear hs hsc;rintro r post' σ ⟨rfl,es5,hx,hi,rfl⟩ hs
   conv=>whnf
   repeat'((first|apply st|(apply Y;clear Z B Y A)|(apply U;clear U K)|fail)<;>conv=>whnf)
   exact AX ⟨_,⟨by rw[hL,hI,decide_eq_true (by assumption)];rfl,es5,got.ext.trans hx,hi,rfl⟩,by simpa using hs⟩
  ·exact AX ⟨_,⟨by rw[hL,hI,decide_eq_false (by omega)];rfl,_,got.ext,got.inv,rfl⟩,hsc⟩
 ·have hin:n∈e4.k.no:=by simpa using hcB
  have hlt:=Ti hin;have hwr:IntKind.i64.wrap (n+1)=n+1:=wrap64 (by omega) (by omega);obtain⟨m,hm⟩: ∃m,from_ e4.k.no n=m+1:=⟨from_ e4.k.no n - 1,by omega⟩
  have hL2:KU (kf a p)=HG e4.k.no (from_ e4.k.no (n+1)) (n+1):=by rw[hL,hm,ug hin];exact Zu (by omega) (Iu _)
  conv=>whnf
  repeat'((first|apply st|(apply sq;intro K U)|(apply si;intro A B Y Z)|(apply Y;clear Z B Y A)|(apply U;clear U K)|refine⟨rfl,?_⟩|refine ld ?_|refine Pure.aH (hct2 false) (.cons (hs.GX 1 rfl) (.cons (.refl _) .nil)) rfl ?_|clear U K)<;>conv=>whnf)
  exact⟨n+1,hlt,by rw[hwr];rfl,⟨by omega,by omega,hL2⟩,hs⟩
def ZC (w:AL) (us:List Nat) {kf:Int→List Int→Kn} (hr:JD w kf) {L:Nat} {es:List C6} (h:D1 kf es) {a:Int} {p:List Int} (hp:p.length≤2) :
    Bj Tryz.prog 195 [UE w us L,Eb a p] (CI L es) fun r post=>r= .ret (.b (LH kf a p))∧Ox kf L es post:=by
 intro σ hs;refine tf kZ ?_
 conv=>whnf
 repeat'((first|apply st|(apply sq;intro K U)|(apply si;intro A B Y Z)|(apply Y;clear Z B Y A)|(apply U;clear U K)|refine⟨kZ,?_⟩|fail)<;>conv=>whnf)
 refine(LN w us h (a:=a) (p:=p) hp).use (rest:=[]) (by simpa using hs) ?_;clear hs;rintro r post σ ⟨es4,e4,got,rfl,rfl⟩ hs;have hek:=got.k;obtain⟨pre,post,rfl⟩:=List.append_of_mem got.mem;rw[Im]at hs;have hsc:=hs;replace hs:=HS (X:=[]) hs;have hN:LH kf a p=(!e4.k.whole&&Hv kf a p 2):=by rw[LH,hek]
 cases hw:e4.k.whole<;>rw[hw]at hs hN
 ·conv=>whnf
  repeat'((first|apply st|refine⟨kZ,?_⟩|refine ld ?_|refine HK ?_|fail)<;>conv=>whnf)
  refine(VH w us hr got.inv hp 2 (by decide)).use (rest:=[]) (by simpa using hsc) ?_;clear hs hsc;rintro r post' σ ⟨rfl,es5,hx,hi,rfl⟩ hs
  conv=>whnf
  repeat'((first|apply st|(apply Y;clear Z B Y A)|(apply U;clear U K)|fail)<;>conv=>whnf)
  exact AX ⟨_,⟨by rw[hN];rfl,es5,got.ext.trans hx,hi,rfl⟩,by simpa using hs⟩
 ·conv=>whnf
  repeat'((first|apply st|(apply Y;clear Z B Y A)|(apply U;clear U K)|refine ld ?_|refine FP ?_|fail)<;>conv=>whnf)
  exact AX ⟨_,⟨by rw[hN];rfl,_,got.ext,got.inv,rfl⟩,hsc⟩
def S1 {σ:AH} {X:List At} {L:Nat} {pre post:List C6} {e:C6} {s:List C6} (h:Sat σ (X++CI L (pre++e::(post++s)))):Sat σ (.own e.vs 1 (iL e.k.AJ)::(X++Hx L pre post e s)):=by
 have h2:=HS h;refine h2.perm ((LF _ _ _ _).symm.trans (.cons _ ?_));exact(List.perm_middle.trans (.cons _ List.perm_middle)).symm
def ma {σ:AH} {X:List At} {L:Nat} {pre post:List C6} {e:C6} {s:List C6} (h:Sat σ (.own e.vs 1 (iL e.k.AJ)::(X++Hx L pre post e s))):Sat σ (X++CI L (pre++e::(post++s))):=by
 refine ET (X:=X) (e:=e) (e':=e) rfl rfl rfl ?_;refine h.perm ?_;refine List.Perm.trans (.cons _ (List.perm_middle.trans (.cons _ List.perm_middle))) ?_;exact LF _ _ _ _
def lh (s:Nat) (c:Int) (hs0:s<18446744073709551616) (h0:0≤c) (hc:c<64):Pure Tryz.prog 182 [eU s,eI c] (.b (s.testBit c.toNat)):=by
 have:=S8 s c.toNat hs0 (by omega);rw[Int.toNat_of_nonneg h0]at this;exact this
def jJ {m:Nat} (hm:m<18446744073709551616):On m 1=HN m:=by
 refine Nat.eq_of_testBit_eq fun i=>?_
 rw[Vi];rcases Nat.lt_or_ge i 64 with hlt|hge
 ·rw[Pj hlt,show(1:Nat)=2 ^ 0 from rfl,Nat.testBit_two_pow]
  congr 2;rw[JU,Cn,D9];omega
 ·have h64:18446744073709551616≤2 ^ i:=by simpa using Nat.pow_le_pow_right (n:=2) (by decide) hge
  rw[Nat.testBit_lt_two_pow (Nat.lt_of_lt_of_le (Tp _ _) h64),Nat.testBit_lt_two_pow (Nat.lt_of_lt_of_le hm h64)];rfl
set_option maxHeartbeats 4000000 in
def Rq (w : AL) (hw:D7 w) {kf:Int→List Int→Kn} (hr:JD w kf) {a:Int} {p:List Int} (hp:p.length≤2) (can:Int→Bool)
    (hcan: ∀s∈(kf a p).AJ,∀L es,D1 kf es→Bj Tryz.prog 267 [UE w (En w.parents) L,Eb a (p++[s])] (CI L es) fun r post=>r= .ret (.b (can s))∧Ox kf L es post) {L:Nat} {es:List C6} (h:D1 kf es) :
    Bj Tryz.prog 196 [UE w (En w.parents) L,Eb a p] (CI L es) fun r post=>r= .ret (.t [eU (N3 w (kf a p) (fun s=>(kf a (p++[s])).A6) can).1,.b (N3 w (kf a p) (fun s=>(kf a (p++[s])).A6) can).2])∧Ox kf L es post:=by
 intro σ hs;have hM:=Mx;generalize hus:En w.parents=us at *;refine te kZ ?_
 conv=>whnf
 repeat'((first|apply st|(apply sq;intro K U)|(apply si;intro A B Y Z)|(apply Y;clear Z B Y A)|(apply U;clear U K)|refine⟨kZ,?_⟩|fail)<;>conv=>whnf)
 refine(LN w us h (a:=a) (p:=p) hp).use (rest:=[]) (by simpa using hs) ?_;clear hs;rintro r post σ ⟨es4,e4,got,rfl,rfl⟩ hs;have hek:=got.k;obtain⟨pre,post,rfl⟩:=List.append_of_mem got.mem;rw[Im]at hs;have hsc:=hs;replace hs:=HS (X:=[]) hs;have hok:=hr.ok a p;have hsl:=(hr.ok a p).2.2.2;have hsh:=hr.short a p;have hsw:=hr.AJ a p;rw[←hek]at hok hsl hsh hsw hcan;have hO:N3 w (kf a p) (fun s=>(kf a (p++[s])).A6) can=N3 w e4.k (fun s=>(kf a (p++[s])).A6) can:=by rw[hek]
 have hOn:(e4.k.whole=true∨e4.k.CE.testBit 1=true∨e4.k.CE.testBit 2=true∨e4.k.Ga.testBit 0=true)→N3 w (kf a p) (fun s=>(kf a (p++[s])).A6) can=(0,false):=fun h=>by
  rw[hO,N3,if_pos];rcases h with h|h|h|h<;>rw[h]<;>simp
 have hOy:e4.k.whole=false→e4.k.CE.testBit 1=false→e4.k.CE.testBit 2=false→e4.k.Ga.testBit 0=false→N3 w (kf a p) (fun s=>(kf a (p++[s])).A6) can=match Ic w (fun s=>(kf a (p++[s])).A6) can e4.k.AJ (e4.k.CE,e4.k.Ga)with
  | none=>(0,false)
  | some u=>(HN (Dc (En w.parents) w.parents.length u.1),HN (Dc (En w.parents) w.parents.length u.1)&&&u.2==0):=fun h1 h2 h3 h4=>by
  rw[hO,N3,h1,h2,h3,h4];rfl
 clear hO;cases hb0:e4.k.whole<;>rw[hb0]at hs
 rotate_left
 ·conv=>whnf
  repeat'((first|apply st|(apply sq;intro K U)|(apply si;intro A B Y Z)|(apply Y;clear Z B Y A)|(apply U;clear U K)|apply dr|refine ld ?_|clear U K)<;>conv=>whnf)
  exact AX ⟨_,⟨by rw[hOn (.inl hb0)];rfl,_,got.ext,got.inv,rfl⟩,hsc⟩
 ·conv => whnf
  repeat'((first|apply st|(apply sq;intro K U)|(apply si;intro A B Y Z)|(apply Y;clear Z B Y A)|(apply U;clear U K)|apply dr|refine lo ?_|refine ld ?_|refine Pure.use (S8 e4.k.CE 1 hok.1 (by decide)) ?_|refine Pure.use (S8 e4.k.CE 2 hok.1 (by decide)) ?_|refine Pure.use (S8 e4.k.Ga 0 hok.2.1 (by decide)) ?_|(constructor<;>intro hc<;>(try rw[hc])<;>(replace hc:=bp hc))|clear U K)<;>conv=>whnf)
  all_goals first
   | exact AX ⟨_,⟨by rw[hOn (by first|exact .inl (by assumption)|exact .inr (.inl (by assumption))|exact .inr (.inr (.inl (by assumption)))|exact .inr (.inr (.inr (by assumption))))];rfl,_,got.ext,got.inv,rfl⟩,hsc⟩
   | skip
  replace hOy:=hOy hb0 (by assumption) (by assumption) (by assumption);clear hOn;generalize hnf:(fun s=>(kf a (p++[s])).A6)=A6 at *
  have hs1:Sat σ (.own e4.vs 1 (iL e4.k.AJ)::Hx L pre post e4 []):=by
   have h2:=S1 (X:=[]) (L:=L) (pre:=pre) (post:=post) (e:=e4) (s:=[]) (by simpa using hsc);simpa using h2
  refine CA e4.k.AJ.length (fun k (x:(Nat×Nat)×List C6)=>[(47,eI (BG k)),(7,eU x.1.1),(8,eU x.1.2)]) (fun k x=> .own e4.vs 1 (iL e4.k.AJ)::Hx L pre post e4 x.2) (fun k x=>(x.1.1<18446744073709551616∧x.1.2<18446744073709551616)∧(D1 kf (pre++e4::(post++x.2))∧ ∀y∈x.2,y.k=k0)∧Ic w A6 can e4.k.AJ (e4.k.CE,e4.k.Ga)=Ic w A6 can (e4.k.AJ.drop k) x.1) ((e4.k.CE,e4.k.Ga),[]) rfl ⟨⟨hok.1,hok.2.1⟩,⟨by simpa using got.inv,by simp⟩,rfl⟩ hs1 ?_;clear hs hs1 hsc;rintro k ⟨⟨m,no⟩,new⟩ σ hk ⟨⟨hm,hno⟩,⟨hinv,hnew⟩,hF⟩ hs;simp only at hm hno hinv hnew hF hs;have hck:BG k=k:=AK (by have:=hok.2.2.2;omega);rcases BI e4.k.AJ hk with⟨s,hsk,hlt⟩|hke
  ·have hsm:=B9 hsk
   have hp2:p.length<2:=by
    rcases Nat.lt_or_ge p.length 2 with h'|h'
    ·exact h'
    ·rw[hsh h']at hsm;cases hsm
   obtain⟨hs0,hs1⟩:=hsw s hsm;rw[drop_cons hsk,Ic]at hF
   conv=>whnf
   repeat'((first|apply st|(apply sq;intro K U)|(apply si;intro A B Y Z)|(apply Y;clear Z B Y A)|(apply U;clear U K)|apply dr|refine⟨rfl,?_⟩|refine⟨kZ,?_⟩|refine ld ?_|refine Cw fun σ hs=>?_|refine oi ?_|refine ol fun x hx=>?_|(refine CU (fun hc=>?_)<;>(try rw[hc])<;>clear hc)|refine Pure.use (OO a p _ hp2) ?_|(intro nn hnn;generalize hg:A0 _ nn _=σ;refine CZ hg fun hs=>?_;clear hg)|fail)<;>conv=>whnf)
   obtain rfl:x=s:=by rw[hck,Iv,hsk]at hx;exact(Option.some.inj hx).symm
   generalize nn=n7 at *;have hs2:Sat σ ([.box n7 (K3 a (p++[x]))]++CI L (pre++e4::(post++new))):=ma (X:=[.box n7 (K3 a (p++[x]))]) (hs.perm (.swap _ _ _));clear hs;obtain⟨o,ho⟩: ∃o,w.owner[x.toNat]? =some o:=⟨_,C7 (by omega)⟩
   have hoI:Cx w x=o:=by simp only[Cx,DZ,ho];rfl
   obtain⟨ho1,ho2⟩:=hw.2.2 o (B9 ho);have hwp:=hw.1.1;have hcx:=hcan x hsm L;cases hnx:A6 x<;>cases hcy:can x
   all_goals
    rw[hcy]at hcx;rw[YT,hnx,hcy,hoI]at hF;refine(LN w us hinv (a:=a) (p:=p++[x]) (by simp;omega)).use (rest:=[.box n7 (K3 a (p++[x]))]) (hs2.perm Qu) ?_;clear hs2;rintro r post' σ ⟨es5,e5,got5,rfl,rfl⟩ hs;have hek5:e5.k.A6=A6 x:=by rw[got5.k,←hnf]
    rw[hnx]at hek5;obtain⟨newA,heA,hnA⟩:=got5.ext;obtain⟨pre5,post5,he5⟩:=List.append_of_mem got5.mem;rw[he5]at hs;replace hs:=HS (X:=[.box n7 (K3 a (p++[x]))]) (hs.perm Qu);rw[hek5]at hs
    conv=>whnf
    repeat'((first|apply dr|refine rk ?_ ?_|exact fun s e=>by cases e;rfl|refine⟨kZ,?_⟩|refine ld ?_|fail)<;>conv=>whnf)
    have hs2:Sat σ ([.box n7 (K3 a (p++[x]))]++CI L (pre5++e5::post5)):=ET (X:=[.box n7 (K3 a (p++[x]))]) (e:=e5) (e':=e5) rfl rfl rfl (by rw[←hek5]at hs;exact hs);clear hs;refine(hcx es5 got5.inv).use (rest:=[.box n7 (K3 a (p++[x]))]) (by rw[he5];exact hs2.perm Qu) ?_;clear hs2;rintro r post' σ ⟨rfl,es6,⟨new6,he6,hn6⟩,hi6,rfl⟩ hs;have he7:es6=pre5++e5::(post5++new6):=by rw[he6,he5];simp
    rw[he7]at hs;replace hs:=HS (X:=[.box n7 (K3 a (p++[x]))]) (hs.perm Qu);rw[hek5]at hs
    conv=>whnf
    repeat'((first|apply st|(apply sq;intro K U)|(apply si;intro A B Y Z)|(apply Y;clear Z B Y A)|(apply U;clear U K)|apply dr|refine rk ?_ ?_|exact fun s e=>by cases e;rfl|refine⟨rfl,?_⟩|refine HI ?_|refine ld ?_|refine HK ?_|refine FP ?_|refine Pure.use (HX m o hm (by omega) (by omega)) ?_|refine Pure.use (HX no o hno (by omega) (by omega)) ?_|clear U K)<;>conv=>whnf)
    simp only[Bool.not_false,Bool.not_true,Bool.and_true,Bool.and_false,MO,if_false,if_true,Option.bind_some,Option.bind_none]at hF;have e7:es6=pre++e4::(post++(new++newA++new6)):=by rw[he6,heA];simp
    have hs2:Sat σ ([.box n7 (K3 a (p++[x]))]++CI L (pre5++e5::(post5++new6))):=ET (X:=[.box n7 (K3 a (p++[x]))]) (e:=e5) (e':=e5) rfl rfl rfl (by rw[←hek5]at hs;exact hs)
    have hs3:Sat σ (CI L (pre++e4::(post++(new++newA++new6)))):=by
     rw[←he7,e7]at hs2;exact hs2.less (List.sublist_append_right _ _)
    have hi7:D1 kf (pre++e4::(post++(new++newA++new6))):=by rw[←e7];exact hi6
    have hn7: ∀y∈new++newA++new6,y.k=k0:=fun y hy=>by
     rcases E7.1 hy with hy|hy
     ·rcases E7.1 hy with hy|hy
      ·exact hnew y hy
      ·exact hnA y hy
     ·exact hn6 y hy
    have hob:2 ^ o.toNat<18446744073709551616:=KQ (by omega)
   ·exact⟨hlt,((m,no|||2 ^ o.toNat),new++newA++new6),rfl,⟨⟨hm,LG hno hob⟩,⟨hi7,hn7⟩,hF⟩,S1 (X:=[]) hs3⟩
   ·exact⟨hlt,((m,no),new++newA++new6),rfl,⟨⟨hm,hno⟩,⟨hi7,hn7⟩,hF⟩,S1 (X:=[]) hs3⟩
   ·rw[hF]at hOy
    exact AX ⟨_,⟨by rw[hOy];rfl,_,got.ext.trans ⟨_,by simp,hn7⟩,hi7,rfl⟩,hs3⟩
   ·exact⟨hlt,((m|||2 ^ o.toNat,no),new++newA++new6),rfl,⟨⟨LG hm hob,hno⟩,⟨hi7,hn7⟩,hF⟩,S1 (X:=[]) hs3⟩
  ·rw [As hke,Ic]at hF
   rw[hF]at hOy;simp only at hOy
   conv=>whnf
   repeat'((first|apply st|(apply sq;intro K U)|(apply si;intro A B Y Z)|(apply Y;clear Z B Y A)|(apply U;clear U K)|refine⟨rfl,?_⟩|(refine Dl (fun hc=>?_)<;>(try rw[hc])<;>clear hc)|clear U K)<;>conv=>whnf)
   have hu:vK us:=by rw[←hus];exact Lh _ _ (by have:=hw.1.1;omega)
   have hul:us.length=3+w.parents.length:=by rw[←hus];exact Fx _ _
   have hwp:=hw.1.1;have hwl:IntKind.i64.wrap (3+((Eh w.parents).length:Nat))=3+(w.parents.length:Int):=by rw[A9,wrap64 (by omega) (by omega)]
   refine CA w.parents.length (fun k (x:Nat)=>[(14,eI (LC 3 k)),(7,eU x)]) (fun _ _=> .own e4.vs 1 (iL e4.k.AJ)::Hx L pre post e4 new) (fun k x=>x<18446744073709551616∧x=Dc us k m) m rfl ⟨hm,rfl⟩ hs ?_;clear hs;clear hke hck hk k;rintro k x σ hk ⟨hx64,hxe⟩ hs;have hc3:LC 3 k=3+k:=OX (by omega) (by omega);by_cases hlt:k<w.parents.length
   ·have hbt:Dc us (k+1) m=if x.testBit (LC 3 k).toNat then x|||us.getD (3+k) 0 else x:=by
     rw[Dc,←hxe,hc3,show(3+(k:Int)).toNat=3+k by omega]
    have hup:(List.drop ((LC 3 k).toNat*1) (List.drop 2 (wC w us)))[0]? =some (eU (us.getD (3+k) 0)):=by
     rw[ur,ur,←nJ w us (i:=3+k) (by omega)];congr 1;omega
    conv=>whnf
    repeat'((first|apply st|(apply sq;intro K U)|(apply si;intro A B Y Z)|(apply Y;clear Z B Y A)|(apply U;clear U K)|refine⟨rfl,?_⟩|refine iar ?_|(rw[hup])|refine Pure.use (lh x (LC 3 k) hx64 (by omega) (by omega)) ?_|(constructor<;>intro hc<;>(try rw[hc])<;>(replace hc:=bp hc)<;>(try simp(disch:=omega) only[A9,wrap64,AK]at hc)<;>try(exfalso;omega))|clear U K)<;>conv=>whnf)
    ·refine⟨hlt,x|||us.getD (3+k) 0,?_,⟨LG hx64 (S2 hu _),by rw[hbt,if_pos (by assumption)]⟩,hs⟩
     rw[Le hx64 (S2 hu _)];rfl
    ·exact⟨hlt,x,rfl,⟨hx64,by rw[hbt,if_neg (by rw[‹x.testBit _=false›];decide)]⟩,hs⟩
   ·have hke:k=w.parents.length:=by omega
    rw[hus,←hke,←hxe]at hOy
    have Y:bits .andNot .u64 (x:Int) 1=((HN x:Nat):Int):=by
     have:=SP (a:=x) (b:=1);rw[jJ hx64]at this;exact this
    have hcl:HN x<18446744073709551616:=by unfold HN;omega
    have Z:bits .and .u64 ((HN x:Nat):Int) (no:Int)=((HN x&&&no:Nat):Int):=L0 hcl hno
    conv=>whnf
    repeat'((first|apply st|(apply sq;intro K U)|(apply si;intro A B Y Z)|(apply Y;clear Z B Y A)|(apply U;clear U K)|refine⟨rfl,?_⟩|(constructor<;>intro hc<;>(try rw[hc])<;>(replace hc:=bp hc)<;>(try simp(disch:=omega) only[A9,wrap64,AK]at hc)<;>try(exfalso;omega))|clear U K)<;>conv=>whnf)
    rw[Y,Z];refine AX ⟨_,⟨?_,_,got.ext.trans ⟨new,by simp,hnew⟩,hinv,rfl⟩,ow hs⟩;rw[hOy]
    have hz:(((HN x&&&no:Nat):Int)==0)=(HN x&&&no==0):=by
     rw[JU,D9,D9];omega
    rw[←hz]
def uX (w:AL) (hw:D7 w) {kf:Int→List Int→Kn} (hr:JD w kf) (a:Int): ∀(d:Nat) (p:List Int),p.length+d=2→ ∀(L:Nat) (es:List C6),D1 kf es→
    Bj Tryz.prog 267 [UE w (En w.parents) L,Eb a p] (CI L es) fun r post=>r= .ret (.b (N6 w kf a d p))∧Ox kf L es post:=by
 intro d
 induction d with
 | zero=>
   intro p hp L es h σ hs;have hint:=QB w (En w.parents) hr h (L:=L) (a:=a) (p:=p) (by omega);have hnone:=fun es h=>ZC w (En w.parents) hr (es:=es) h (L:=L) (a:=a) (p:=p) (by omega)
   have hobj:=fun es h=>Rq w hw hr (a:=a) (p:=p) (by omega) (fun _=>false) (by rw[hr.short a p (by omega)];intro s hs;cases hs) (L:=L) (es:=es) h
   rw[N6];cases hI:Sr kf a p<;>cases hN:LH kf a p<;>rw[hI]at hint<;>rw[hN]at hnone
   all_goals
    refine fS kZ ?_
    conv=>whnf
    repeat'((first|apply st|(apply sq;intro K U)|(apply si;intro A B Y Z)|(apply Y;clear Z B Y A)|(apply U;clear U K)|refine⟨kZ,?_⟩|fail)<;>conv=>whnf)
    refine hint.use (rest:=[]) (by simpa using hs) ?_;clear hs;rintro r post σ ⟨rfl,es2,hx2,hi2,rfl⟩ hs;rw[Im]at hs
    conv=>whnf
    repeat'((first|apply st|(apply sq;intro K U)|(apply si;intro A B Y Z)|(apply Y;clear Z B Y A)|(apply U;clear U K)|refine⟨kZ,?_⟩|clear U K)<;>conv=>whnf)
   rotate_left 2
   ·exact AX ⟨_,⟨rfl,es2,hx2,hi2,rfl⟩,hs⟩
   ·exact AX ⟨_,⟨rfl,es2,hx2,hi2,rfl⟩,hs⟩
   all_goals
    refine(hnone es2 hi2).use (rest:=[]) (by simpa using hs) ?_;clear hs;rintro r post σ ⟨rfl,es3,hx3,hi3,rfl⟩ hs;rw[Im]at hs
    conv=>whnf
    repeat'((first|apply st|(apply sq;intro K U)|(apply si;intro A B Y Z)|(apply Y;clear Z B Y A)|(apply U;clear U K)|refine⟨kZ,?_⟩|refine HK ?_|refine FP ?_|clear U K)<;>conv=>whnf)
   rotate_left 1
   ·exact AX ⟨_,⟨rfl,es3,hx2.trans hx3,hi3,rfl⟩,hs⟩
   ·refine(hobj es3 hi3).use (rest:=[]) (by simpa using hs) ?_
    clear hs;rintro r post σ ⟨rfl,es4,hx4,hi4,rfl⟩ hs;rw[Im]at hs
    conv=>whnf
    repeat'((first|apply st|(apply sq;intro K U)|(apply si;intro A B Y Z)|(apply Y;clear Z B Y A)|(apply U;clear U K)|fail)<;>conv=>whnf)
    exact AX ⟨_,⟨rfl,es4,(hx2.trans hx3).trans hx4,hi4,rfl⟩,hs⟩
 | succ d ih=>
   intro p hp L es h σ hs;have hint:=QB w (En w.parents) hr h (L:=L) (a:=a) (p:=p) (by omega);have hnone:=fun es h=>ZC w (En w.parents) hr (es:=es) h (L:=L) (a:=a) (p:=p) (by omega)
   have hobj:=fun es h=>Rq w hw hr (a:=a) (p:=p) (by omega) (fun s=>N6 w kf a d (p++[s])) (fun s hs L es h=>ih (p++[s]) (by simp;omega) L es h) (L:=L) (es:=es) h
   rw[N6];cases hI:Sr kf a p<;>cases hN:LH kf a p<;>rw[hI]at hint<;>rw[hN]at hnone
   all_goals
    refine fS kZ ?_
    conv=>whnf
    repeat'((first|apply st|(apply sq;intro K U)|(apply si;intro A B Y Z)|(apply Y;clear Z B Y A)|(apply U;clear U K)|refine⟨kZ,?_⟩|fail)<;>conv=>whnf)
    refine hint.use (rest:=[]) (by simpa using hs) ?_;clear hs;rintro r post σ ⟨rfl,es2,hx2,hi2,rfl⟩ hs;rw[Im]at hs
    conv=>whnf
    repeat'((first|apply st|(apply sq;intro K U)|(apply si;intro A B Y Z)|(apply Y;clear Z B Y A)|(apply U;clear U K)|refine⟨kZ,?_⟩|clear U K)<;>conv=>whnf)
   rotate_left 2
   ·exact AX ⟨_,⟨rfl,es2,hx2,hi2,rfl⟩,hs⟩
   ·exact AX ⟨_,⟨rfl,es2,hx2,hi2,rfl⟩,hs⟩
   all_goals
    refine(hnone es2 hi2).use (rest:=[]) (by simpa using hs) ?_;clear hs;rintro r post σ ⟨rfl,es3,hx3,hi3,rfl⟩ hs;rw[Im]at hs
    conv=>whnf
    repeat'((first|apply st|(apply sq;intro K U)|(apply si;intro A B Y Z)|(apply Y;clear Z B Y A)|(apply U;clear U K)|refine⟨kZ,?_⟩|refine HK ?_|refine FP ?_|clear U K)<;>conv=>whnf)
   rotate_left 1
   ·exact AX ⟨_,⟨rfl,es3,hx2.trans hx3,hi3,rfl⟩,hs⟩
   ·refine(hobj es3 hi3).use (rest:=[]) (by simpa using hs) ?_
    clear hs;rintro r post σ ⟨rfl,es4,hx4,hi4,rfl⟩ hs;rw[Im]at hs
    conv=>whnf
    repeat'((first|apply st|(apply sq;intro K U)|(apply si;intro A B Y Z)|(apply Y;clear Z B Y A)|(apply U;clear U K)|fail)<;>conv=>whnf)
    exact AX ⟨_,⟨rfl,es4,(hx2.trans hx3).trans hx4,hi4,rfl⟩,hs⟩
abbrev oG:V:= .E2 260 (.a [])
def gK (w:AL) (hw:D7 w) {kf:Int→List Int→Kn} (hr:JD w kf) {L:Nat} {es:List C6} (h:D1 kf es) :
    Bj Tryz.prog 192 [UE w (En w.parents) L] (CI L es) fun r post=>r=(if dN w kf then .ret (.t [])else .Bi oG)∧post= []:=by
 intro σ hs;refine ti kZ ?_
 conv=>whnf
 repeat'((first|apply st|(apply sq;intro K U)|(apply si;intro A B Y Z)|(apply Y;clear Z B Y A)|(apply U;clear U K)|fail)<;>conv=>whnf)
 refine CA 3 (fun k (x:List C6)=>[(3,eI (BG k))]) (fun k x=>CI L x) (fun k x=>D1 kf x∧dN w kf=((Ci 3).drop k).all fun a=>N6 w kf a 2 []) es rfl ⟨h,rfl⟩ hs ?_;clear hs h;rintro k es σ hk ⟨h,hn⟩ hs;have hck:BG k=k:=AK (by simp only[Ad];omega);have hl3:(Ci 3).length=3:=rfl;rcases BI (Ci 3) hk with⟨a,ha,hlt⟩|hke
 ·rw[drop_cons ha,NS]at hn
  have hak:a=BG k:=by
   rw[hck];simp only[Ci,MP,List.getElem?_range (show k<3 from hlt),Wi]at ha;exact(Option.some.inj ha).symm
  subst hak;have hcan:=uX w hw hr (BG k) 2 [] rfl L es h;cases hC:N6 w kf (BG k) 2 []<;>rw[hC]at hcan hn
  all_goals
   conv=>whnf
   repeat'((first|apply st|(apply sq;intro K U)|(apply si;intro A B Y Z)|(apply Y;clear Z B Y A)|(apply U;clear U K)|refine⟨rfl,?_⟩|(constructor<;>intro hc<;>(try rw[hc])<;>(replace hc:=bp hc)<;>(try simp(disch:=omega) only[A9,wrap64,AK]at hc)<;>try(exfalso;omega))|fail)<;>conv=>whnf)
   refine hcan.use (rest:=[]) (by simpa using hs) ?_;clear hs;rintro r post σ ⟨rfl,es2,hx2,hi2,rfl⟩ hs;rw[Im]at hs
   conv=>whnf
   repeat'((first|apply st|(apply si;intro A B Y Z)|(apply Y;clear Z B Y A)|(refine Z _ _ _ ?_;clear Z B Y A)|(apply U;clear U K)|refine⟨rfl,?_⟩|refine HK ?_|refine FP ?_|clear U K)<;>conv=>whnf)
  ·exact DN ⟨_,⟨by rw[hn];rfl,rfl⟩,hs.less (NT _)⟩
  ·exact⟨by omega,es2,rfl,⟨hi2,by simpa using hn⟩,hs⟩
 ·rw[As hke]at hn
  conv=>whnf
  repeat'((first|apply st|(apply sq;intro K U)|(apply si;intro A B Y Z)|(apply Y;clear Z B Y A)|(apply U;clear U K)|refine⟨rfl,?_⟩|(constructor<;>intro hc<;>(try rw[hc])<;>(replace hc:=bp hc)<;>(try simp(disch:=omega) only[A9,wrap64,AK]at hc)<;>try(exfalso;omega))|clear U K)<;>conv=>whnf)
  exact AX ⟨_,⟨by rw[hn];rfl,rfl⟩,hs.less (NT _)⟩
def Zv {w:AL} {ls:List Fact} (hw:w.parents.length≤60) (h: ∀x∈ls,Iq w x):XQ ls:=by
 intro l hl;obtain⟨-,hc,hsm,hsh⟩:=JK h;obtain⟨-,hn,hlf⟩:=Hd (h l hl);exact⟨Fs hlf,hsh l hl,fun ho=>by have:=hc l hl ho;omega,hsm l hl⟩
def qd {ls:List Fact} (h:KN ls) (a:Int) (p:List Int): -1000000000≤(kn ls a p).low∧(kn ls a p).low≤1000000000:=by
 have key: ∀(ls:List Fact) (k:Kn),KN ls→(-1000000000≤k.low∧k.low≤1000000000)→ -1000000000≤(ls.foldl (DH a p) k).low∧(ls.foldl (DH a p) k).low≤1000000000:=by
  intro ls
  induction ls with
  | nil=>intro k _ h;exact h
  | cons l r ih=>
    intro k hs hk;refine ih _ (fun x hx=>hs x (.tail _ hx)) ?_;have hn:=hs l (.head _);unfold DH Cu Dp jU
    repeat' split
    all_goals first
     | exact hk
     | exact hn
     | (simp only;exact hk)
     | (simp only;exact hn)
 exact key ls k0 h ⟨by decide,by decide⟩
def Y3 {w:AL} {ls:List Fact} (h: ∀x∈ls,Iq w x):Hw w.owner.length ls:=by
 intro l hl s hs;obtain⟨-,hn,-⟩:=Hd (h l hl);rw[Cz,BJ]at hn;have:=hn.1;simp only[DI,E8,BJ,Em,IX,Cn]at this;exact this.2.2.2.2.1.1 s hs
def kg {w:AL} (hw:D7 w) {ls:List Fact} (h: ∀x∈ls,Iq w x) (hlen:ls.length<900):JD w (kn ls):=by
 have hadd:=Zv (by have:=hw.1.1;omega) h;obtain⟨-,-,hsm,hsh⟩:=JK h;have hp:=Y3 h;refine⟨fun a p=>?_,qd hsm,fun a p hpl=>?_,fun a p s hs=>?_⟩
 ·obtain⟨h1,h2,h3,h4⟩:=fA hadd a p
  exact⟨h1,h2,by omega,by omega⟩
 ·rw[Lu hp]
  exact M0 hsh hpl
 ·rw[Lu hp]at hs
  exact Jk hs
def pO {w:AL} (hw:D7 w) {ls:List Fact} (h: ∀x∈ls,Iq w x):dN w (kn ls)=Gu w ls:=by
 obtain⟨-,hc,-,-⟩:=JK h;refine pQ ?_ (fun s h0 h1=>?_) (by have:=hw.1.1;omega) (fun l hl ho=>by have:=hc l hl ho;omega) (Y3 h)
 ·exact Jo hw.1
 ·obtain⟨o,ho⟩: ∃o,w.owner[s.toNat]? =some o:=⟨_,C7 (by omega)⟩
  have hoI:Cx w s=o:=by simp only[Cx,DZ,ho];rfl
  rw[hoI];exact hw.2.2 o (B9 ho)
def mT {σ:AH} {n:Nat} {x:V} {rest:List At} (hs:Sat σ (.box n [x]::rest)) {Q:AH→Prop} (hq: ∀σ',Sat σ' (.box n [.b false]::rest)→Q σ'):HO Tryz.prog 191 [.p n 0] (some oG) σ Q:=by
 refine Zj kZ ?_
 conv=>whnf
 repeat'((first|apply st|(apply sq;intro K U)|(apply si;intro A B Y Z)|(apply Y;clear Z B Y A)|(apply U;clear U K)|refine GV fun σ hs=>?_|refine Cw fun σ hs=>?_|refine oe rfl ?_|(intro nn hnn;generalize hg:A0 _ nn _=σ;refine CZ hg fun hs=>?_;clear hg)|fail)<;>conv=>whnf)
 exact hq _ (hs.less (Jz _ _))
def mU {σ:AH} {n:Nat} {x:V} {rest:List At} (hs:Sat σ (.box n [x]::rest)) {Q:AH→Prop} (hq: ∀σ',Sat σ' (.box n [x]::rest)→Q σ'):HO Tryz.prog 191 [.p n 0] none σ Q:=by
 refine Zj kZ ?_
 conv=>whnf
 repeat'((first|apply st|(apply sq;intro K U)|(apply si;intro A B Y Z)|(apply Y;clear Z B Y A)|(apply U;clear U K)|refine⟨rfl,?_⟩|refine Cw fun σ hs=>?_|(intro nn hnn;generalize hg:A0 _ nn _=σ;refine CZ hg fun hs=>?_;clear hg)|fail)<;>conv=>whnf)
 exact hq _ (hs.less (Jz _ _))
attribute [local irreducible] HO
def V1 (w:AL) (hw:D7 w) (ls:List Fact) (b:Bool) (hl: ∀x∈ls,Iq w x) (hlen:ls.length<900):Pure Tryz.prog 127 [.rp (wC w (En w.parents)),.l (FA ls) b] (.b (Gu w ls)):=by
 refine Pure.of ?_;refine uO kZ ?_;have hs:=Sn
 conv=>whnf
 repeat'((first|(apply sq;intro K U)|(apply si;intro A B Y Z)|(apply Y;clear Z B Y A)|(apply U;clear U K)|(intro nn hnn;generalize hg:A0 _ nn _=σ;refine CZ hg fun hs=>?_;clear hg)|fail)<;>conv=>whnf)
 refine(gU w (En w.parents) ls b (Zv (by have:=hw.1.1;omega) hl) hlen).use (rest:=[.box nn [.b false]]) (by simpa using hs) ?_;clear hs;rintro r post σ ⟨L,es,rfl,hinv,rfl⟩ hs;have hwh:=gK w hw (kg hw hl hlen) hinv (L:=L);rw[pO hw hl]at hwh;cases ht:Gu w ls<;>rw[ht]at hwh
 all_goals
  conv=>whnf
  refine hwh.use (rest:=[.box nn [.b false]]) hs ?_;clear hs;rintro r post σ ⟨rfl,rfl⟩ hs
  conv=>whnf
  repeat'((first|apply st|(apply sq;intro K U)|(apply si;intro A B Y Z)|(apply Y;clear Z B Y A)|(refine Z _ _ _ ?_;clear Z B Y A)|(apply U;clear U K)|refine GV fun σ hs=>?_|clear U K)<;>conv=>whnf)
 ·refine mT (rest:=[]) hs fun σ hs=>?_
  conv=>whnf
  repeat'((first|refine ld ?_|fail)<;>conv=>whnf)
  exact AX (by rw[ht];rfl)
 ·refine mU (rest:=[]) (x:= .b true) hs fun σ hs=>?_
  conv=>whnf
  repeat'((first|refine ld ?_|fail)<;>conv=>whnf)
  exact AX (by rw[ht];rfl)
end Go.Gl
namespace Go.Gl
open Go.Proofs
attribute [local irreducible] BC Aw Ai AV AM Ah AU AW AN Ag AQ AS A3 BA Sat Ab A8 Ak W
def UB {α S:Type} (stp:α→S→Bool×S) (D:α→S→Prop):List α→S→Prop
 | [],_=>True
 | y::r,s=>D y s∧((stp y s).1=true→UB stp D r (stp y s).2)
section
variable {α β S:Type} {stp:α→S→Bool×S} {D:α→S→Prop}
def Pk: ∀(A B:List α) (s:S),Co stp (A++B) s=if(Co stp A s).1 then Co stp B (Co stp A s).2 else(false,(Co stp A s).2)
 | [],B,s=>by simp[Co]
 | y::r,B,s=>by
   rw[List.cons_append,Co,Co];cases(stp y s).1
   ·rfl
   ·simpa using Pk r B (stp y s).2
def Vq (l:α) (s:S):Co stp [l] s=stp l s:=by
 rw[Co,Co];rcases stp l s with⟨b,s'⟩;cases b<;>rfl
def TU: ∀ {A B:List α} {s:S},UB stp D (A++B) s→UB stp D A s∧((Co stp A s).1=true→UB stp D B (Co stp A s).2)
 | [],B,s,h=>⟨trivial,fun _=>h⟩
 | y ::r,B,s,h=>by
   obtain⟨h1,h2⟩:=h;rw[UB,Co];cases hy:(stp y s).1
   ·exact⟨⟨h1,fun h=>(by cases h)⟩,fun h=>(by simp at h)⟩
   ·obtain⟨h3,h4⟩:=TU (h2 hy)
    exact⟨⟨h1,fun _=>h3⟩,by simpa using h4⟩
def ON {A:List α}: ∀ {B:List α} {s:S},(∀y∈B,y∈A)→UB stp D B s→UB stp (fun y s=>y∈A∧D y s) B s
 | [],_,_,_=>trivial
 | y::r,_,hm,h=>⟨⟨hm y (.head _),h.1⟩,fun hy=>ON (fun z hz=>hm z (.tail _ hz)) (h.2 hy)⟩
def Y6 {g:β→α}: ∀ {B:List β} {s:S},UB stp D (B.map g) s→UB (fun b s=>stp (g b) s) (fun b s=>D (g b) s) B s
 | [],_,_=>trivial
 | y::r,_,h=>⟨h.1,fun hy=>Y6 (h.2 hy)⟩
end
section
variable {S:Type} {stp:List Fact→S→Bool×S} {D:List Fact→S→Prop}
def SX (B:List (List Fact)): ∀(A:List (List Fact)) (s:S),Co stp (Dn A B) s=Co (fun x s=>Co (fun y s=>stp (CW x y) s) B s) A s
 | [],s=>rfl
 | x::r,s=>by
   have ih:=SX B r;rw[Dn,List.flatMap_cons,Pk,L4,Co];simp only[Dn]at ih;rw[ih]
def VJ (B:List (List Fact)): ∀ {A:List (List Fact)} {s:S},UB stp D (Dn A B) s→UB (fun x s=>Co (fun y s=>stp (CW x y) s) B s) (fun x s=>UB (fun y s=>stp (CW x y) s) (fun y s=>D (CW x y) s) B s) A s
 | [],_,_=>trivial
 | x::r,s,h=>by
   rw[Dn,List.flatMap_cons]at h;obtain⟨h1,h2⟩:=TU h;refine⟨Y6 h1,fun hy=>?_⟩;rw[L4]at h2;exact VJ B (h2 hy)
end
abbrev Wq (l:List Fact) (b:Bool):V:= .l (FA l) b
def RJ {S:Type} (x:V) (H:S→List At) (stp:List Fact→S→Bool×S) (D:List Fact→S→Prop):Prop:= ∀b,DB Tryz.prog x (fun l=>Wq l b) H stp D
abbrev UZ (n:Nat):V:= .f (.func 187) [] [.p n 0]
def bQ {f:Fact} (hl:CH f=true) (c:Bool):KI (if c then Eo f else f)=xF f++[.b c]:=by
 have:=Fs hl;cases c with
 | true=>rfl
 | false=>
   have h5: ¬f.op=5:=by omega
   simp only[KI,MO,if_false,Az,if_neg h5]
def WalkC (f:Fact):Prop:= ∀(c:Bool) (S:Type) (fn:Fn) (fi ca:List V) (H:S→List At) (stp:List Fact→S→Bool×S) (D:List Fact→S→Prop) (nW:Nat) (s:S),
 RJ (.f fn fi ca) (fun s=> .box nW [UZ nW]::H s) stp D→UB stp D (BN f c) s→ ∀σ,Sat σ (.box nW [UZ nW]::H s)→
  A3 Tryz.prog (UZ nW) [.a (xF f),.b c,.f fn fi ca] σ fun r σ'=>r= .ret (.b (Co stp (BN f c) s).1)∧Sat σ' (.box nW [UZ nW]::H (Co stp (BN f c) s).2)
def iy {w:AL} {S:Type} {fn:Fn} {fi ca:List V} {H:S→List At} {stp:List Fact→S→Bool×S} {D:List Fact→S→Prop} (hT:RJ (.f fn fi ca) H stp D) {k0 k1:Fact} {c:Bool} (hn0:Bo w k0=true) (hn1:Bo w k1=true) (hv0:lv k0≤100) (hv1:lv k1≤100) {a:List Fact} (ha:a∈BN k0 c) (fa:Bool) :
    RJ (.f (.func 189) [] [.rp [.f fn fi ca],.rp [Wq a fa]]) H (fun y s=>stp (CW a y) s) (fun y s=>y∈BN k1 c∧D (CW a y) s):=by
 rintro b y s ⟨hy,hd⟩ σ hs;refine B2 ?_;show BC Tryz.prog 189 ([]++[Wq y b]++[.rp [.f fn fi ca],.rp [Wq a fa]]) σ _;have hla:=(Ea k0 (Cm _ hn0) c).2 a ha;have hly:=(Ea k1 (Cm _ hn1) c).2 y hy;have hM:=Mx;refine tk kZ ?_
 conv=>whnf
 repeat'((first|apply st|(apply sq;intro K U)|(apply si;intro A B Y Z)|(apply Y;clear Z B Y A)|(apply U;clear U K)|apply dr|refine rk ?_ ?_|exact fun s e=>by cases e;rfl|refine Pure.use (bZ (w:=w) a y fa b (Ef k0 hn0 c a ha) (Ef k1 hn1 c y hy) (by omega)) ?_|fail)<;>conv=>whnf)
 refine(hT false).use hd hs ?_;clear hs;intro σ hs
 conv=>whnf
 repeat'((first|apply st|(apply Y;clear Z B Y A)|(apply U;clear U K)|apply dr|fail)<;>conv=>whnf)
 exact AX ⟨rfl,hs⟩
def iz {w:AL} {S:Type} {fn:Fn} {fi ca:List V} {H:S→List At} {stp:List Fact→S→Bool×S} {D:List Fact→S→Prop} {nW:Nat} (hT:RJ (.f fn fi ca) (fun s=> .box nW [UZ nW]::H s) stp D) {f k0 k1:Fact} (hk:f.kids= [k0,k1]) {c:Bool} (hn0:Bo w k0=true) (hn1:Bo w k1=true) (hv0:lv k0≤100) (hv1:lv k1≤100) (hw1:WalkC k1) :
    RJ (.f (.func 188) [] [.p nW 0,.rp (xF f),.rp [.b c],.rp [.f fn fi ca]]) (fun s=> .box nW [UZ nW]::H s) (fun a s=>Co (fun y s=>stp (CW a y) s) (BN k1 c) s) (fun a s=>a∈BN k0 c∧UB (fun y s=>stp (CW a y) s) (fun y s=>D (CW a y) s) (BN k1 c) s):=by
 rintro fa a s ⟨ha,hd⟩ σ hs;refine B2 ?_;show BC Tryz.prog 188 ([]++[Wq a fa]++[.p nW 0,.rp (xF f),.rp [.b c],.rp [.f fn fi ca]]) σ _;have h1:f.kids[(1:Int).toNat]? =some k1:=by rw[hk];rfl
 refine tl kZ ?_
 conv=>whnf
 repeat'((first|apply st|(apply sq;intro K U)|(apply si;intro A B Y Z)|(apply Y;clear Z B Y A)|(apply U;clear U K)|apply dr|refine⟨kZ,?_⟩|refine MY ?_|refine ld ?_|fail)<;>conv=>whnf)
 refine(hw1 c S _ _ _ H _ _ nW s (iy hT hn0 hn1 hv0 hv1 ha fa) (ON (fun y hy=>hy) hd) σ hs).mono ?_;clear hs;rintro r σ ⟨rfl,hs⟩
 conv=>whnf
 repeat'((first|apply st|(apply Y;clear Z B Y A)|(apply U;clear U K)|apply dr|fail)<;>conv=>whnf)
 exact AX ⟨rfl,hs⟩
set_option maxHeartbeats 2000000 in
def kF {w : AL} (f:Fact):Bo w f=true→lv f≤100→WalkC f:=by
 induction f using Fact.ind with
 | h f ih=>
   intro hn hv c S fn fi ca H stp D nW s hT hd σ hs;have har:=Cm _ hn
   have hnk: ∀k∈f.kids,Bo w k=true:=by
    rw[Cz,BJ,Em]at hn;exact hn.2
   have hop:f.op=1∨f.op=5∨CH f=true∨f.op=6∨f.op=7:=by
    rw[Cz,BJ]at hn;have h1:=hn.1;simp only[DI,Wj,BJ]at h1;rw[PQ];simp only[BJ,Cn];have h2:=h1.1;split at h2
    ·omega
    ·split at h2
     ·omega
     ·simp only[Fo,D9]at h2
      omega
   refine B2 ?_;show BC Tryz.prog 187 ([]++[.a (xF f),.b c,.f fn fi ca]++[.p nW 0]) σ _;refine tn kZ ?_;rw[F3,FJ]at hd;have hcs:=F3 f c;rw[FJ]at hcs;rcases hop with h1|h5|hl|h67
   ·rw[if_pos h1]at hd hcs
    rw[hcs];cases c
    ·rw[if_neg (by decide)]at hd ⊢
     rw[Vq]
     conv=>whnf
     repeat'((first|apply st|(apply sq;intro K U)|(apply si;intro A B Y Z)|(apply Y;clear Z B Y A)|(apply U;clear U K)|refine⟨rfl,?_⟩|(constructor<;>intro hc<;>(try rw[hc])<;>(replace hc:=bp hc)<;>try(exfalso;omega))|fail)<;>conv=>whnf)
     refine(hT true).use (y:=[]) hd.1 hs ?_;clear hs;intro σ hs
     conv=>whnf
     repeat'((first|apply st|(apply Y;clear Z B Y A)|(apply U;clear U K)|clear U K)<;>conv=>whnf)
     exact AX ⟨rfl,hs⟩
    ·rw[if_pos rfl]at hd ⊢
     conv=>whnf
     repeat'((first|apply st|(apply sq;intro K U)|(apply si;intro A B Y Z)|(apply Y;clear Z B Y A)|(apply U;clear U K)|refine⟨rfl,?_⟩|(constructor<;>intro hc<;>(try rw[hc])<;>(replace hc:=bp hc)<;>try(exfalso;omega))|clear U K)<;>conv=>whnf)
     exact AX ⟨rfl,hs⟩
   ·obtain⟨k,hk,-⟩:=H9 har h5
    have hkm:k∈f.kids:=by rw[hk];exact .head _
    have hvk:lv k≤100:=by
     rw[Na,dC,if_pos h5,hk]at hv;exact hv
    rw[if_neg (by omega),if_pos h5,hk]at hd hcs;have hcs2:BN f c=BN k (!c):=hcs;have h0:f.kids[(0:Int).toNat]? =some k:=by rw[hk];rfl
    rw[hcs2]
    conv=>whnf
    repeat'((first|apply st|(apply sq;intro K U)|(apply si;intro A B Y Z)|(apply Y;clear Z B Y A)|(apply U;clear U K)|apply dr|refine⟨rfl,?_⟩|refine⟨kZ,?_⟩|refine MY ?_|refine ld ?_|(constructor<;>intro hc<;>(try rw[hc])<;>(replace hc:=bp hc)<;>try(exfalso;omega))|fail)<;>conv=>whnf)
    refine(ih k hkm (hnk k hkm) hvk (!c) S _ _ _ H stp D nW s hT hd σ hs).mono ?_;clear hs;rintro r σ ⟨rfl,hs⟩
    conv=>whnf
    repeat'((first|apply st|(apply Y;clear Z B Y A)|(apply U;clear U K)|apply dr|clear U K)<;>conv=>whnf)
    exact AX ⟨rfl,hs⟩
   ·have hlo:=Fs hl
    have hlB:=TZ f;rw[hl]at hlB;rw[if_neg (by omega),if_neg (by omega),if_neg (by omega)]at hd hcs;have hcs2:BN f c= [[if c then Eo f else f]]:=by rw[hcs];cases c<;>rfl
    rw[←hcs,hcs2]at hd;rw[hcs2,Vq]
    have e:Wq [if c then Eo f else f] true= .l [xF f++[.b c]] true:=by
     show V.l [KI (if c then Eo f else f)] true=_;rw[bQ hl]
    have hst:=(hT true) [if c then Eo f else f] s hd.1;simp only[e]at hst
    conv=>whnf
    repeat'((first|apply st|(apply sq;intro K U)|(apply si;intro A B Y Z)|(apply Y;clear Z B Y A)|(apply U;clear U K)|refine⟨rfl,?_⟩|refine⟨kZ,?_⟩|refine hlB.use ?_|(constructor<;>intro hc<;>(try rw[hc])<;>(replace hc:=bp hc)<;>try(exfalso;omega))|fail)<;>conv=>whnf)
    refine(hst σ hs).mono ?_;clear hs;rintro r σ ⟨rfl,hs⟩
    conv=>whnf
    repeat'((first|apply st|(apply Y;clear Z B Y A)|(apply U;clear U K)|clear U K)<;>conv=>whnf)
    exact AX ⟨rfl,hs⟩
   ·obtain⟨k0,k1,hk,-,-⟩:=H8 har h67
    have hkm0:k0∈f.kids:=by rw[hk];exact .head _
    have hkm1:k1∈f.kids:=by rw[hk];exact .tail _ (.head _)
    have hlf:CH f=false:=by rw[PQ,decide_eq_false (show¬f.op≤4 by omega),Bool.and_false]
    have hlB:=TZ f;rw[hlf]at hlB
    have hvk:lv k0+lv k1≤100:=by
     rw[Na,dC,if_neg (by omega),if_pos h67,hk]at hv;exact hv
    rw[if_neg (by omega),if_neg (by omega),if_pos h67,hk]at hd hcs;have h0:f.kids[(0:Int).toNat]? =some k0:=by rw[hk];rfl
    have h1:f.kids[(1:Int).toNat]? =some k1:=by rw[hk];rfl
    have i0:=ih k0 hkm0 (hnk k0 hkm0) (by omega);have i1:=ih k1 hkm1 (hnk k1 hkm1) (by omega);by_cases hap:(c != (f.op==7))=true
    ·rw [if_pos hap]at hd hcs
     have hcs2:BN f c=BN k0 c++BN k1 c:=hcs;have hd2:UB stp D (BN k0 c++BN k1 c) s:=hd;obtain⟨hd3,hd4⟩:=TU hd2;rw[hcs2,Pk];clear hcs hcs2 hd hd2;rcases h67 with h6|h7
     ·have h6b:(f.op==6)=true:=by rw[h6];rfl
      have hct:c=true:=by rw[h6]at hap;cases c<;>simp_all
      subst hct
      conv=>whnf
      repeat'((first|apply st|(apply sq;intro K U)|(apply si;intro A B Y Z)|(apply Y;clear Z B Y A)|(apply U;clear U K)|apply dr|refine⟨rfl,?_⟩|refine⟨kZ,?_⟩|refine MY ?_|refine ld ?_|refine HK ?_|refine hlB.use ?_|(rw[h6b])|(constructor<;>intro hc<;>(try rw[hc])<;>(replace hc:=bp hc)<;>try(exfalso;omega))|fail)<;>conv=>whnf)
      refine(i0 true S _ _ _ H stp D nW s hT hd3 σ hs).mono ?_;clear hs;rintro r σ ⟨rfl,hs⟩;generalize Co stp (BN k0 true) s=x at *;obtain⟨b1,s1⟩:=x;cases b1
      ·conv=>whnf
       repeat'((first|apply st|(apply Y;clear Z B Y A)|(apply U;clear U K)|apply dr|clear U K)<;>conv=>whnf)
       exact AX ⟨rfl,hs⟩
      ·conv=>whnf
       repeat'((first|apply st|apply dr|refine⟨kZ,?_⟩|refine MY ?_|refine ld ?_|fail)<;>conv=>whnf)
       refine(i1 true S _ _ _ H stp D nW s1 hT (hd4 rfl) σ hs).mono ?_;clear hs;rintro r σ ⟨rfl,hs⟩
       conv=>whnf
       repeat'((first|apply st|(apply Y;clear Z B Y A)|(apply U;clear U K)|apply dr|clear U K)<;>conv=>whnf)
       exact AX ⟨rfl,hs⟩
     ·have h6b:(f.op==6)=false:=by rw[h7];rfl
      have hct:c=false:=by rw[h7]at hap;cases c<;>simp_all
      subst hct
      conv=>whnf
      repeat'((first|apply st|(apply sq;intro K U)|(apply si;intro A B Y Z)|(apply Y;clear Z B Y A)|(apply U;clear U K)|apply dr|refine⟨rfl,?_⟩|refine⟨kZ,?_⟩|refine MY ?_|refine ld ?_|refine HK ?_|refine hlB.use ?_|(rw[h6b])|(constructor<;>intro hc<;>(try rw[hc])<;>(replace hc:=bp hc)<;>try(exfalso;omega))|fail)<;>conv=>whnf)
      refine(i0 false S _ _ _ H stp D nW s hT hd3 σ hs).mono ?_;clear hs;rintro r σ ⟨rfl,hs⟩;generalize Co stp (BN k0 false) s=x at *;obtain⟨b1,s1⟩:=x;cases b1
      ·conv=>whnf
       repeat'((first|apply st|(apply Y;clear Z B Y A)|(apply U;clear U K)|apply dr|clear U K)<;>conv=>whnf)
       exact AX ⟨rfl,hs⟩
      ·conv=>whnf
       repeat'((first|apply st|apply dr|refine⟨kZ,?_⟩|refine MY ?_|refine ld ?_|fail)<;>conv=>whnf)
       refine(i1 false S _ _ _ H stp D nW s1 hT (hd4 rfl) σ hs).mono ?_;clear hs;rintro r σ ⟨rfl,hs⟩
       conv=>whnf
       repeat'((first|apply st|(apply Y;clear Z B Y A)|(apply U;clear U K)|apply dr|clear U K)<;>conv=>whnf)
       exact AX ⟨rfl,hs⟩
    ·rw[if_neg hap]at hd hcs
     have hcs2:BN f c=Dn (BN k0 c) (BN k1 c):=hcs;have hd2:UB stp D (Dn (BN k0 c) (BN k1 c)) s:=hd;have hd3:=VJ _ hd2;have hT2:=iz hT hk (c:=c) (hnk k0 hkm0) (hnk k1 hkm1) (by omega) (by omega) i1;rw[hcs2,SX];clear hcs hcs2 hd hd2;rcases h67 with h6|h7
     ·have h6b:(f.op==6)=true:=by rw[h6];rfl
      have hct:c=false:=by rw[h6]at hap;cases c<;>simp_all
      subst hct
      conv=>whnf
      repeat'((first|apply st|(apply sq;intro K U)|(apply si;intro A B Y Z)|(apply Y;clear Z B Y A)|(apply U;clear U K)|apply dr|refine⟨rfl,?_⟩|refine⟨kZ,?_⟩|refine MY ?_|refine ld ?_|refine FP ?_|refine hlB.use ?_|(rw[h6b])|(constructor<;>intro hc<;>(try rw[hc])<;>(replace hc:=bp hc)<;>try(exfalso;omega))|fail)<;>conv=>whnf)
      refine(i0 false S _ _ _ H _ _ nW s hT2 (ON (fun y hy=>hy) hd3) σ hs).mono ?_;clear hs;rintro r σ ⟨rfl,hs⟩
      conv=>whnf
      repeat'((first|apply st|(apply Y;clear Z B Y A)|(apply U;clear U K)|apply dr|fail)<;>conv=>whnf)
      exact AX ⟨rfl,hs⟩
     ·have h6b:(f.op==6)=false:=by rw[h7];rfl
      have hct:c=true:=by rw[h7]at hap;cases c<;>simp_all
      subst hct
      conv=>whnf
      repeat'((first|apply st|(apply sq;intro K U)|(apply si;intro A B Y Z)|(apply Y;clear Z B Y A)|(apply U;clear U K)|apply dr|refine⟨rfl,?_⟩|refine⟨kZ,?_⟩|refine MY ?_|refine ld ?_|refine FP ?_|refine hlB.use ?_|(rw[h6b])|(constructor<;>intro hc<;>(try rw[hc])<;>(replace hc:=bp hc)<;>try(exfalso;omega))|fail)<;>conv=>whnf)
      refine(i0 true S _ _ _ H _ _ nW s hT2 (ON (fun y hy=>hy) hd3) σ hs).mono ?_;clear hs;rintro r σ ⟨rfl,hs⟩
      conv=>whnf
      repeat'((first|apply st|(apply Y;clear Z B Y A)|(apply U;clear U K)|apply dr|fail)<;>conv=>whnf)
      exact AX ⟨rfl,hs⟩
def qp {w:AL} (f:Fact) (hn:Bo w f=true) (hv:lv f≤100) (c:Bool) {S:Type} {fn:Fn} {fi ca:List V} {H:S→List At} {stp:List Fact→S→Bool×S} {D:List Fact→S→Prop} {s:S} (hT: ∀nW,RJ (.f fn fi ca) (fun s=> .box nW [UZ nW]::H s) stp D) (hd:UB stp D (BN f c) s) (σ:AH) (hs:Sat σ (H s)) :
    BC Tryz.prog 186 [.f fn fi ca,.rp (xF f),.rp [.b c]] σ fun r σ'=>r= .ret (.t [])∧Sat σ' (H (Co stp (BN f c) s).2):=by
 refine tp kZ ?_
 conv=>whnf
 repeat'((first|apply st|(apply sq;intro K U)|(apply si;intro A B Y Z)|(apply Y;clear Z B Y A)|(apply U;clear U K)|refine⟨kZ,?_⟩|refine ld ?_|refine GV fun σ hs=>?_|(intro nn hnn;generalize hg:A0 _ nn _=σ;refine CZ hg fun hs=>?_;clear hg)|fail)<;>conv=>whnf)
 refine(kF f hn hv c S fn fi ca H stp D nn s (hT nn) hd σ hs).mono ?_;clear hs;rintro r σ ⟨rfl,hs⟩
 conv=>whnf
 repeat'((first|(apply Y;clear Z B Y A)|fail)<;>conv=>whnf)
 exact AX ⟨rfl,hs.less (Jz _ _)⟩
def jA (f:Fact) (c:Bool):Pure Tryz.prog 126 [.a (xF f),.b c] (.f (.func 186) [] [.rp (xF f),.rp [.b c]]):=by
 refine uP kZ ?_;have hs:=Sn
 conv=>whnf
 repeat'((first|apply st|(apply sq;intro K U)|(apply si;intro A B Y Z)|(apply Y;clear Z B Y A)|(apply U;clear U K)|fail)<;>conv=>whnf)
 all_goals exact AI rfl
abbrev Of (w:AL) (l:List Fact) (s:Bool):Bool×Bool:=if Gu w l then(false,true)else(true,s)
def Vr {w:AL}: ∀(cs:List (List Fact)),Co (Of w) cs false=(!cs.any (Gu w),cs.any (Gu w))
 | []=>rfl
 | l::r=>by
   rw[Co,Qb];simp only[Of];cases h:Gu w l
   ·simpa using Vr r
   ·rfl
def Y7 {w:AL} {AD:List Fact→Prop}: ∀ {cs:List (List Fact)},(∀l∈cs,AD l)→UB (Of w) (fun l s=>s=false∧AD l) cs false
 | [],_=>trivial
 | l ::r,h=>⟨⟨rfl,h l (.head _)⟩,fun hy=>by
     cases ht:Gu w l
     ·have e:(Of w l false).2=false:=by simp[Of,ht]
      rw[e];exact Y7 fun x hx=>h x (.tail _ hx)
     ·simp[Of,ht]at hy⟩
abbrev um (w:AL) (L:Nat) (E:Env) (ok:FuncId→Array Tmp→Code→Code→Nat→Prop) (nF:Nat):Prop:=
 Mr Tryz.prog L E ok (fun(x:List Fact×Bool)=>[Wq x.1 x.2]) (fun s:Bool=>[.box nF [.b s]]) (fun _=>True) (fun x s=>if Gu w x.1 then .stop (.exit 0) true else .go s) (fun x s=>s=false∧(∀y∈x.1,Iq w y)∧x.1.length<900)
def lu {w:AL} (f:Fact) (hn:Bo w f=true) (hv:lv f≤100) {L:Nat} {E:Env} {ok:FuncId→Array Tmp→Code→Code→Nat→Prop} {nF:Nat} (hY:um w L E ok nF) (σ:AH) (hs:Sat σ [.obj L (.loop .ready E ok),.box nF [.b false]]) :
    BC Tryz.prog 186 [.f (.yield L) [] [],.rp (xF f),.rp [.b false]] σ fun r σ'=>r= .ret (.t [])∧Sat σ' [.obj L (.loop (if Qe w f then .exit 0 else .ready) E ok),.box nF [.b (Qe w f)]]:=by
 have hg:=qp f hn hv false (fn:= .yield L) (fi:=[]) (ca:=[]) (H:=fun s:Bool=>[.obj L (.loop (if s then .exit 0 else .ready) E ok),.box nF [.b s]]) (stp:=Of w) (D:=fun l s=>s=false∧(∀y∈l,Iq w y)∧l.length<900) (s:=false) (by
  rintro nW b l s ⟨rfl,hl,hlen⟩ σ hs;refine hY.use (y:=(l,b)) (s:=false) ⟨rfl,hl,hlen⟩ (rest:=[.box nW [UZ nW]]) (hs.perm (LF _ _ _ _)) ?_;intro r σ' hq;cases ht:Gu w l
  ·simp only[ht,MO,if_false]at hq
   obtain⟨rfl,hs'⟩:=hq;have e:Of w l false=(true,false):=by simp[Of,ht]
   rw[e];exact⟨rfl,hs'.perm (LF _ _ _ _).symm⟩
  ·simp only[ht,if_true]at hq
   obtain⟨rfl,hs'⟩:=hq;have e:Of w l false=(false,true):=by simp[Of,ht]
   rw[e]
   exact⟨rfl,hs'.perm (LF _ _ _ _).symm⟩) (Y7 fun l hl=>⟨Ef f hn false l hl,by have:=(Ea f (Cm _ hn) false).2 l hl;omega⟩) σ hs
 rw[Vr]at hg;exact hg
def uZ (w:AL) (hw:D7 w) (f:Fact) (hn:Bo w f=true) (hv:lv f≤100):Pure Tryz.prog 125 [.rp (wC w (En w.parents)),.a (xF f)] (.b (Qe w f)):=by
 refine Pure.of ?_;refine uQ kZ ?_;have hs:=Sn
 conv=>whnf
 repeat'((first|apply st|(apply sq;intro K U)|(apply si;intro A B Y Z)|(apply Y;clear Z B Y A)|(apply U;clear U K)|refine⟨kZ,?_⟩|refine GV fun σ hs=>?_|refine Pure.use (jA _ _) ?_|(intro nn hnn;generalize hg:A0 _ nn _=σ;refine CZ hg fun hs=>?_;clear hg)|fail)<;>conv=>whnf)
 rename_i _ nF hnF _ _ _ _;refine BC.mono (lu (w:=w) f hn hv (L:=nn) (nF:=nF) ?_ σ hs) ?_
 ·refine Nn (fun y=>rfl) ?_
  clear hs hnn hnF;rintro⟨l,b⟩ s ⟨rfl,hl,hlen⟩ rest σ hs;dsimp only at hl hlen;have htg:=V1 w hw l b hl hlen;dsimp only;cases ht:Gu w l<;>rw[ht]at htg
  ·conv=>whnf
   repeat'((first|apply st|(apply sq;intro K U)|(apply si;intro A B Y Z)|(apply Y;clear Z B Y A)|(apply U;clear U K)|refine htg.use ?_|clear U K)<;>conv=>whnf)
   intro hn;exact VE (H:=fun s:Bool=>[.box nF [.b s]]) (J:=fun _=>True) (s:=false) rfl hs hn
  ·conv=>whnf
   repeat'((first|apply st|(apply sq;intro K U)|(apply si;intro A B Y Z)|(apply Y;clear Z B Y A)|(apply U;clear U K)|refine GV fun σ hs=>?_|refine htg.use ?_|clear U K)<;>conv=>whnf)
   intro hn;exact XZ (H:=fun s:Bool=>[.box nF [.b s]]) (J:=fun _=>True) (s:=true) (st:= .exit 0) rfl hs hn
 ·clear hs hnn hnF
  cases hp:Qe w f
  ·rintro r σ ⟨rfl,hs⟩
   refine PK hs fun σ hs=>?_
   conv=>whnf
   repeat'((first|apply st|(apply sq;intro K U)|(apply si;intro A B Y Z)|(apply Y;clear Z B Y A)|(apply U;clear U K)|refine ld ?_|fail)<;>conv=>whnf)
   exact AX (by rw[hp])
  ·rintro r σ ⟨rfl,hs⟩
   refine Xc hs fun σ hs=>?_
   conv=>whnf
   repeat'((first|apply st|(apply sq;intro K U)|(apply si;intro A B Y Z)|(apply Y;clear Z B Y A)|(apply U;clear U K)|refine ld ?_|fail)<;>conv=>whnf)
   exact AX (by rw[hp])
def qB (f:Fact):Pure Tryz.prog 224 [.a (xF f)] (.a (xF (Eo f))):=by
 refine tT kZ ?_;have hs:=Sn
 conv=>whnf
 repeat'((first|apply st|(apply sq;intro K U)|(apply si;intro A B Y Z)|(apply Y;clear Z B Y A)|(apply U;clear U K)|refine⟨kZ,?_⟩|refine ld ?_|refine sn fun σ hs=>?_|(intro nn hnn;generalize hg:A0 _ nn _=σ;refine al hg fun hs=>?_;clear hg)|fail)<;>conv=>whnf)
 refine Al (.a (.cons (.refl _) (.cons (.refl _) (.cons Cy (.cons (.refl _) (.cons (.refl _) (.cons ?_ .nil)))))));refine .l (fun h=>by cases h) ?_;simp only[Eo,Fact.kids,List.map,BL];exact CY _
def ud (f g:Fact):Pure Tryz.prog 295 [.a (xF f),.a (xF g)] (.a (xF (N7 f g))):=by
 refine sV kZ ?_;have hs:=Sn
 conv=>whnf
 repeat'((first|apply st|(apply sq;intro K U)|(apply si;intro A B Y Z)|(apply Y;clear Z B Y A)|(apply U;clear U K)|refine⟨kZ,?_⟩|refine ld ?_|refine sn fun σ hs=>?_|(intro nn hnn;generalize hg:A0 _ nn _=σ;refine al hg fun hs=>?_;clear hg)|fail)<;>conv=>whnf)
 refine Al (.a (.cons (.refl _) (.cons (.refl _) (.cons Cy (.cons (.refl _) (.cons (.refl _) (.cons ?_ .nil)))))));refine .l (fun h=>by cases h) ?_;simp only[N7,Fact.kids,List.map,BL];exact CY _
def Xq (w:AL) (hw:D7 w) (a b:Fact) (ha:Bo w a=true) (hb:Bo w b=true) (hl:lv a+lv b≤100):Pure Tryz.prog 229 [.rp (wC w (En w.parents)),.a (xF a),.a (xF b)] (.b (Ss w a b)):=by
 have hcan:=uZ w hw (N7 a (Eo b)) (PN ha hb) (by rw[ep];exact hl);refine tR kZ ?_;have hs:=Sn
 conv=>whnf
 repeat'((first|apply st|(apply sq;intro K U)|(apply si;intro A B Y Z)|(apply Y;clear Z B Y A)|(apply U;clear U K)|apply dr|refine rk ?_ ?_|exact fun s e=>by cases e;rfl|refine⟨kZ,?_⟩|refine Pure.use (qB _) ?_|refine Pure.use (ud _ _) ?_|refine hcan.use ?_|fail)<;>conv=>whnf)
 all_goals exact AI rfl
def cu (w:AL) (hw:D7 w) (a b:Fact) (ha:CS w a=true) (hb:CS w b=true) (hna:Bo w a=true) (hnb:Bo w b=true) (hl:lv a+lv b≤100):Pure Tryz.prog 338 [.a (A7 w),.a (xF a),.a (xF b)] (.t [.b (Ss w a b),eI 0]):=by
 have hrd: ∀f,Pure Tryz.prog 118 [.a (A7 w),.l [xF a,xF b] f] (.t [.rp (wC w (En w.parents)),.b true]):=fun f=>by
  have:=Yx w hw [a,b] f (by simp);rw[show([a,b].all (LJ w))=true by simp[ZW,ha,hb]]at this;simpa[BL]using this
 have hip:=Xq w hw a b hna hnb hl;refine rf kZ ?_;have hs:=Sn
 conv=>whnf
 repeat'((first|apply st|(apply sq;intro K U)|(apply si;intro A B Y Z)|(apply Y;clear Z B Y A)|(apply U;clear U K)|refine⟨kZ,?_⟩|refine FP ?_|refine Pure.use (hrd _) ?_|refine hip.use ?_|fail)<;>conv=>whnf)
 all_goals exact AI rfl
attribute [local irreducible] HO
def xm (p:Prog) (nO:Nat) (r:R) (post:List At):Prop:=
 match Bb p with
 | some s=>r= .ret (.t [])∧ ∃v,post= [.box nO [v],.own v 1 (iL s)]
 | none=>r= .Bi Dw∧ ∃v s,post= [.box nO [v],.own v 1 (iL s)]
def aj (p:Prog) (nO:Nat):Bj Tryz.prog 281 [.rp (BR p),.p nO 0] [.box nO [.l [] true]] (xm p nO):=fun σ hs=>
 BC.mono (gZ p nO σ hs) fun r σ' hq=>by
  unfold uv at hq;unfold xm;cases h:Bb p with
  | some s=>
    rw[h]at hq;obtain⟨h1,v,h2⟩:=hq;exact⟨_,⟨h1,v,rfl⟩,h2⟩
  | none=>
    rw[h]at hq;obtain⟨h1,v,s,h2⟩:=hq;exact⟨_,⟨h1,v,s,rfl⟩,h2⟩
def mV {σ:AH} {n:Nat} {x:V} {rest:List At} (hs:Sat σ (.box n [x]::rest)) {Q:AH→Prop} (hq: ∀σ',Sat σ' (.box n [.b false]::rest)→Q σ'):HO Tryz.prog 322 [.p n 0] (some Dw) σ Q:=by
 refine Zi kZ ?_
 conv=>whnf
 repeat'((first|apply st|(apply sq;intro K U)|(apply si;intro A B Y Z)|(apply Y;clear Z B Y A)|(apply U;clear U K)|refine GV fun σ hs=>?_|refine Cw fun σ hs=>?_|refine FP ?_|refine oe rfl ?_|(intro nn hnn;generalize hg:A0 _ nn _=σ;refine CZ hg fun hs=>?_;clear hg)|fail)<;>conv=>whnf)
 exact hq _ (hs.less (Jz _ _))
def mW {σ:AH} {n:Nat} {x:V} {rest:List At} (hs:Sat σ (.box n [x]::rest)) {Q:AH→Prop} (hq: ∀σ',Sat σ' (.box n [x]::rest)→Q σ'):HO Tryz.prog 322 [.p n 0] none σ Q:=by
 refine Zi kZ ?_
 conv=>whnf
 repeat'((first|apply st|(apply sq;intro K U)|(apply si;intro A B Y Z)|(apply Y;clear Z B Y A)|(apply U;clear U K)|refine FP ?_|fail)<;>conv=>whnf)
 exact hq _ hs
def bz (p:Prog) (nO:Nat):Bj Tryz.prog 280 [.f (.func 281) [] [.rp (BR p),.p nO 0]] [.box nO [.l [] true]] fun r post=>r= .ret (.b (Bb p).isSome)∧ ∃v s,post= [.box nO [v],.own v 1 (iL s)]∧(Bb p=none∨Bb p=some s):=by
 intro σ hs;refine sh kZ ?_
 conv=>whnf
 repeat'((first|(apply sq;intro K U)|(apply si;intro A B Y Z)|(apply Y;clear Z B Y A)|(apply U;clear U K)|(intro nn hnn;generalize hg:A0 _ nn _=σ;refine CZ hg fun hs=>?_;clear hg)|fail)<;>conv=>whnf)
 refine B2 ?_;refine(aj p nO).use (rest:=[.box nn [.b false]]) (hs.perm (.swap _ _ _)) ?_;clear hs hnn;rintro r post σ hq hs;unfold xm at hq;cases h:Bb p with
 | none=>
   rw[h]at hq;obtain⟨rfl,v,s,rfl⟩:=hq
   conv=>whnf
   repeat'((first|(refine Z _ _ _ ?_;clear Z B Y A)|clear U K)<;>conv=>whnf)
   refine mV (rest:=[.box nO [v],.own v 1 (iL s)]) (hs.perm Qu) fun σ hs=>?_
   conv=>whnf
   repeat'((first|refine ld ?_|fail)<;>conv=>whnf)
   exact AX ⟨_,⟨by rw[h];rfl,v,s,rfl,.inl h⟩,hs.less (Jz _ _)⟩
 | some s=>
   rw[h]at hq;obtain⟨rfl,v,rfl⟩:=hq
   conv=>whnf
   repeat'((first|apply st|(apply sq;intro K U)|(apply si;intro A B Y Z)|(apply Y;clear Z B Y A)|(apply U;clear U K)|refine GV fun σ hs=>?_|fail)<;>conv=>whnf)
   replace hs:Sat σ ([.box nO [v],.own v 1 (iL s)]++[.box nn [.b true]]):=hs;refine mW (x:= .b true) (rest:=[.box nO [v],.own v 1 (iL s)]) (hs.perm Qu) fun σ hs=>?_
   conv=>whnf
   repeat'((first|refine ld ?_|fail)<;>conv=>whnf)
   exact AX ⟨_,⟨by rw[h];rfl,v,s,rfl,.inr h⟩,hs.less (Jz _ _)⟩
def ga (p:Prog):Bj Tryz.prog 222 [.a (BR p)] [] fun r post=> ∃v s,r= .ret (.t [v,.b (Bb p).isSome])∧post= [.own v 1 (iL s)]∧(Bb p=none∨Bb p=some s):=by
 intro σ hs;refine tV kZ ?_
 conv=>whnf
 repeat'((first|(apply sq;intro K U)|(apply si;intro A B Y Z)|(apply Y;clear Z B Y A)|(apply U;clear U K)|(intro nn hnn;generalize hg:A0 _ nn _=σ;refine CZ hg fun hs=>?_;clear hg)|fail)<;>conv=>whnf)
 refine(bz p nn).use (rest:=[]) (by simpa using hs) ?_;clear hs;rintro r post σ ⟨rfl,v,s,rfl,hl⟩ hs
 conv=>whnf
 repeat'((first|apply st|(apply sq;intro K U)|(apply si;intro A B Y Z)|(apply Y;clear Z B Y A)|(apply U;clear U K)|refine ld ?_|fail)<;>conv=>whnf)
 exact AX ⟨_,⟨v,s,rfl,rfl,hl⟩,hs.less (.cons _ (.cons₂ _ (NT _)))⟩
def Vz (p:Prog):Pure Tryz.prog 150 [.a (BR p)] (eI (if(Bb p).isSome then 0 else 2)):=by
 refine Pure.of ?_;have hz:=ga p;cases h:(Bb p).isSome<;>rw[h]at hz
 all_goals
  refine uE kZ ?_;have hs:=Sn
  conv=>whnf
  repeat'((first|apply st|(apply sq;intro K U)|(apply si;intro A B Y Z)|(apply Y;clear Z B Y A)|(apply U;clear U K)|refine⟨kZ,?_⟩|fail)<;>conv=>whnf)
  refine hz.use (rest:=[]) (by simpa using hs) ?_;clear hs;rintro r post σ ⟨v,s,rfl,rfl,-⟩ hs
  conv=>whnf
  repeat'((first|apply st|(apply sq;intro K U)|(apply si;intro A B Y Z)|(apply Y;clear Z B Y A)|(apply U;clear U K)|refine HK ?_|refine FP ?_|clear U K)<;>conv=>whnf)
  exact AX rfl
def wO {p:Prog} (h:(Bb p).isSome=true):Bp p.AP≤40:=by
 obtain⟨hh,-⟩:=F1 h;simp only[C9,BJ,Cn]at hh;exact(Ly hh.1).2.1
def ub {p:Prog} (h:(Bb p).isSome=true):p.AP.length≤10:=by
 obtain⟨hh,-⟩:=F1 h;simp only[C9,BJ,Cn]at hh;exact(Ly hh.1).2.2
def nq {p:Prog} (h:(Bb p).isSome=true):D7 (AR p):=by
 obtain⟨hh,-⟩:=F1 h;simp only[C9,BJ,Cn]at hh;exact(Ly hh.1).1
def Z2 (p:Prog):Pure Tryz.prog 92 [.a (BR p)] (if(Bb p).isSome then .t [.a (A7 (AR p)),eI 0]else .t [.a [.l [] true,.l [] true],eI 2]):=by
 have hz:=Vz p;have hM:=Mx;cases h:(Bb p).isSome<;>rw[h]at hz
 ·simp only[MO,if_false]at hz ⊢
  refine oA kZ ?_;have hs:=Sn
  conv=>whnf
  repeat'((first|apply st|(apply sq;intro K U)|(apply si;intro A B Y Z)|(apply Y;clear Z B Y A)|(apply U;clear U K)|refine⟨rfl,?_⟩|refine⟨kZ,?_⟩|refine ld ?_|refine Cw fun σ hs=>?_|refine hz.use ?_|(constructor<;>intro hc<;>(try rw[hc])<;>(replace hc:=bp hc)<;>try(exfalso;omega))|(intro nn hnn;generalize hg:A0 _ nn _=σ;refine CZ hg fun hs=>?_;clear hg)|clear U K)<;>conv=>whnf)
  all_goals exact AI rfl
 ·simp only[if_true]at hz ⊢
  have hm:=wO h;have hc10:=ub h;refine oA kZ ?_;have hs:=Sn
  conv=>whnf
  repeat'((first|apply st|(apply sq;intro K U)|(apply si;intro A B Y Z)|(apply Y;clear Z B Y A)|(apply U;clear U K)|refine⟨rfl,?_⟩|refine⟨kZ,?_⟩|refine ld ?_|refine Cw fun σ hs=>?_|refine hz.use ?_|refine Pure.use (Uv p (by omega) (by omega)) ?_|(constructor<;>intro hc<;>(try rw[hc])<;>(replace hc:=bp hc)<;>(try simp(disch:=omega) only[A9,wrap64,AK]at hc)<;>try(exfalso;omega))|(intro nn hnn;generalize hg:A0 _ nn _=σ;refine CZ hg fun hs=>?_;clear hg)|fail)<;>conv=>whnf)
  all_goals exact AI rfl
end Go.Gl
namespace Go.Gl
open Go.Proofs
attribute [local irreducible] BC Aw Ai AV AM Ah AU AW AN Ag AQ AS A3 BA Sat Ab A8 Ak W
abbrev rkC (p:Prog) (L:Nat):List V:=BR p++(A7 (AR p)++[.m L])
abbrev Sf (p:Prog) (L:Nat):V:= .rp (rkC p L)
abbrev kM (x:Int×Int):V:= .a [eI x.1,eI x.2]
def KE (p:Prog) (M:List (Int×Int)):List (V×V):=M.map fun x=>(kM x,.b (F8 p x.1 x.2))
def PR (p:Prog) (M:List (Int×Int)): ∀kv∈KE p M,BX (.a [.i64,.i64]) kv.1=true:=by
 intro kv h;obtain⟨e,_,rfl⟩:=MN.1 h;rfl
def ni (x y:Int×Int):Ds (kM x) (kM y)=(x==y):=by
 obtain⟨a,b⟩:=x;obtain⟨c,d⟩:=y;have e:Ds (kM (a,b)) (kM (c,d))=(a==c&&b==d):=by simp[Ds,Bv,kM]
 rw[e];rfl
def VN (p:Prog) (x:Int×Int): ∀(M:List (Int×Int)),Cj (kM x) (KE p M)=if M.contains x then some (.b (F8 p x.1 x.2))else none
 | []=>rfl
 | y ::r=>by
   rw[KE,E3,Cj,ni,List.contains_cons];cases h:x==y
   ·rw[cond_false,Bool.false_or]
    exact VN p x r
   ·rw[cond_true,Bool.true_or,if_pos rfl]
    have:x=y:=by simpa using h
    rw[this]
def ZJ (p:Prog) (x:Int×Int): ∀(M:List (Int×Int)),M.contains x=false→De (kM x) (.b (F8 p x.1 x.2)) (KE p M)=KE p (M++[x])
 | [],_=>rfl
 | y::r,h=>by
   rw[List.contains_cons,Bool.or_eq_false_iff]at h;have ih:=ZJ p x r h.2;simp only[KE]at ih;rw[KE,E3,De,ni,h.1,cond_false,ih];rfl
def gd (p:Prog):Bj Tryz.prog 114 [.a (BR p)] [] fun r post=>if(Bb p).isSome then∃L,r= .ret (Sf p L)∧post= [.map L []]else r= .ret .pn∧post= []:=by
 intro σ hs;have hw:=Z2 p;cases h:(Bb p).isSome<;>rw[h]at hw
 ·simp only[MO,if_false]at hw ⊢
  refine fb kZ ?_
  conv=>whnf
  repeat'((first|apply st|(apply sq;intro K U)|(apply si;intro A B Y Z)|(apply Y;clear Z B Y A)|(apply U;clear U K)|refine⟨rfl,?_⟩|refine⟨kZ,?_⟩|refine Cw fun σ hs=>?_|refine hw.use ?_|(constructor<;>intro hc<;>(try rw[hc])<;>(replace hc:=bp hc)<;>try(exfalso;omega))|(intro nn hnn;generalize hg:A0 _ nn _=σ;refine CZ hg fun hs=>?_;clear hg)|clear U K)<;>conv=>whnf)
  exact AX ⟨_,⟨rfl,rfl⟩,hs.less (NT _)⟩
 ·simp only[if_true]at hw ⊢
  refine fb kZ ?_
  conv=>whnf
  repeat'((first|apply st|(apply sq;intro K U)|(apply si;intro A B Y Z)|(apply Y;clear Z B Y A)|(apply U;clear U K)|refine⟨rfl,?_⟩|refine⟨kZ,?_⟩|refine ld ?_|refine Cw fun σ hs=>?_|refine hw.use ?_|(constructor<;>intro hc<;>(try rw[hc])<;>(replace hc:=bp hc)<;>(try simp(disch:=omega) only[A9,wrap64,AK]at hc)<;>try(exfalso;omega))|(intro nn hnn;generalize hg:A0 _ nn _=σ;refine CZ hg fun hs=>?_;clear hg)|fail)<;>conv=>whnf)
  exact AX ⟨_,⟨nn,rfl,rfl⟩,hs.less (.cons₂ _ (NT _))⟩
def wS (p:Prog) (L:Nat) (m:Int):Pure Tryz.prog 317 [eI m,.rp [Sf p L]] (.b (!BQ p m)):=by
 refine sE kZ ?_;have hs:=Sn
 conv=>whnf
 repeat'((first|apply st|(apply sq;intro K U)|(apply si;intro A B Y Z)|(apply Y;clear Z B Y A)|(apply U;clear U K)|refine⟨rfl,?_⟩|(constructor<;>intro hc<;>(try rw[hc])<;>(replace hc:=bp hc))|fail)<;>conv=>whnf)
 ·refine AI ?_
  have e1:decide (0≤m)=true:=decide_eq_true hc;rw[BQ,e1,Il,A9];show V.b (decide (m≥(p.methods.length:Int)))=_;by_cases hl:m<(p.methods.length:Int)
  ·rw[decide_eq_true hl,decide_eq_false (by omega)];rfl
  ·rw[decide_eq_false hl,decide_eq_true (by omega)];rfl
 ·refine AI ?_
  rw[BQ,decide_eq_false (by omega)];rfl
def OB {g:FuncId} {fi ca:List V} {f:Int→Bool} {xs:List Int} (b:Bool) (h: ∀y∈xs,Pure Tryz.prog g (fi++[eI y]++ca) (.b (f y))):Pure Tryz.prog 49 [.l (iL xs) b,.f (.func g) fi ca] (.b (xs.any f)):=by
 have:=GS g fi ca (fun _=>[]) (fun y (_:Unit)=>(f y,())) (fun y _=>y∈xs) (Pt fun y hy=>h y hy) xs b () (G0 fun y hy _=>hy);rw[Lz]at this;exact Pure.of (BC.mono (this emp Sat.nil) fun r σ' ⟨post,⟨h1,h2⟩,h3⟩=>h1)
def wT (p:Prog) (L:Nat) (l:List Int) (b:Bool):Pure Tryz.prog 272 [Sf p L,.l (iL l) b] (.b (l.all (BQ p))):=by
 have hc:=fun b=>OB (g:=317) (fi:=[]) (ca:=[.rp [Sf p L]]) (f:=fun m=> !BQ p m) (xs:=l) b fun y _=>wS p L y
 refine fR kZ ?_;have hs:=Sn
 conv=>whnf
 repeat'((first|apply st|(apply sq;intro K U)|(apply si;intro A B Y Z)|(apply Y;clear Z B Y A)|(apply U;clear U K)|refine Pure.use (hc _) ?_|fail)<;>conv=>whnf)
 all_goals exact AI (by rw[List.all_eq_not_any_not];rfl)
def qi (l:List Int) (b:Bool):Pure Tryz.prog 272 [.pn,.l (iL l) b] (.b false):=by
 refine fR kZ ?_;have hs:=Sn
 conv=>whnf
 repeat'((first|apply st|(apply sq;intro K U)|(apply si;intro A B Y Z)|(apply Y;clear Z B Y A)|(apply U;clear U K)|refine FP ?_|fail)<;>conv=>whnf)
 all_goals exact AI rfl
def m4 (p:Prog) (L:Nat) (m n:Int) (hm:BQ p m=true) (hn:BQ p n=true):Pure Tryz.prog 273 [Sf p L,eI m,eI n] (.b (Dv p m n)):=by
 refine Pure.fit (by kernel_rfl) fun hf=>?_
 have hxm:=B8 hm;have hxn:=B8 hn;simp only[BQ,BJ,Cn]at hm hn;refine ss kZ ?_;have hs:=Sn
 conv=>whnf
 repeat'((first|apply st|(apply sq;intro K U)|(apply si;intro A B Y Z)|(apply Y;clear Z B Y A)|(apply U;clear U K)|apply dr|refine rk ?_ ?_|exact fun s e=>by cases e;rfl|refine⟨rfl,?_⟩|refine⟨kZ,?_⟩|refine HI ?_|refine ld ?_|refine Cw fun σ hs=>?_|(constructor<;>intro hc<;>(try rw[hc])<;>(replace hc:=bp hc))|(intro nn hnn;generalize hg:A0 _ nn _=σ;refine CZ hg fun hs=>?_;clear hg)|fail)<;>conv=>whnf)
 all_goals exact AI (by simp[Dv, *])
def mD {p:Prog} (h:(Bb p).isSome=true): ∀x∈p.methods,CS (AR p) x.fact=true:=fun x hx=>by
 have:=(F1 h).2 x hx;simp only[Od,BJ]at this;exact this.2.2.2.2.1
end Go.Gl
namespace Go.Gl
open Go.Proofs
def dh {σ:AH} {α:Type} {enc:α→List V} {xs:List α} {f:Bool} {sz:Nat} {ki:IntKind} {j:Int} {K:V→AH→Prop} (h:K (.l ((xs.drop j.toNat).map enc) f) σ) (h0:0≤j) (h1:j≤xs.length) (hs: ∀x,(enc x).length=sz) :
    AU σ sz (.l (xs.map enc) f) (some (.i ki j)) none none K:=by
 unfold AU;refine⟨fun e he=>?_,?_⟩
 ·obtain⟨x,_,rfl⟩:=MN.1 he
  exact hs x
 ·simp only[NV,A9]
  refine⟨by omega,by omega,by omega,?_⟩;rw[List.take_of_length_le (by simp)];simpa[List.map_drop]using h
attribute [local irreducible] BC Aw Ai AV AM Ah AU AW AN Ag AQ AS A3 BA Sat Ab A8 Ak W
abbrev oV (T:List (List Bool)):V:= .l (T.map fun r=>[.l (bL r) false]) false
def Di (T:List (List Bool)) (m n:Int):Bool:=(T.getD m.toNat []).getD n.toNat false
structure Iy (T:List (List Bool)) (l:List Int):Prop where
 len:T.length≤16
 sq: ∀r∈T,r.length=T.length
 ins: ∀x∈l,0≤x∧x<(T.length:Int)
 many:l.length≤16
def nN {T:List (List Bool)} {l:List Int} (h:Iy T l) {m n:Int} (hm:0≤m∧m<(T.length:Int)) (hn:0≤n∧n<(T.length:Int)): ∃r,T[m.toNat]? =some r∧r[n.toNat]? =some (Di T m n):=by
 have h1:m.toNat<T.length:=by omega
 refine⟨T[m.toNat],C7 h1,?_⟩;have h2:=h.sq T[m.toNat] (List.getElem_mem h1);have h3:n.toNat<T[m.toNat].length:=by omega
 rw[C7 h3];simp only[Di,DZ,C7 h1,Option.getD_some,C7 h3]
def Pq (l:List Int) (f:Bool) (i:Nat) (ha:i<l.length) (hl:l.length≤16):Pure Tryz.prog 319 [.l (iL l) f,eI (i:Int)] (.l (iL (l.eraseIdx i)) false):=by
 have hM:=Mx;refine sC kZ ?_;have hs:=Sn
 conv=>whnf
 repeat'((first|(apply sq;intro K U)|(apply si;intro A B Y Z)|(apply Y;clear Z B Y A)|(apply U;clear U K)|apply dr|refine⟨rfl,?_⟩|refine xn ?_|(rw[wrap64 (by omega) (by omega)];refine dh ?_ (by omega) (by omega) fun _=>rfl)|fail)<;>conv=>whnf)
 replace hs:=EM hs 1;refine HU hs 0 (xs:=[]) (ys:=l.take (i:Int).toNat) rfl (by simp;omega) Bk fun v σ hs=>?_
 conv=>whnf
 repeat'((first|apply dr|fail)<;>conv=>whnf)
 refine HU hs 0 (xs:=[]++l.take (i:Int).toNat) (ys:=l.drop ((i:Int)+1).toNat) rfl (by simp;omega) Bk fun v σ hs=>?_
 conv=>whnf
 repeat'((first|apply st|(apply Y;clear Z B Y A)|(apply U;clear U K)|apply dr|fail)<;>conv=>whnf)
 have e: []++l.take (i:Int).toNat++l.drop ((i:Int)+1).toNat=l.eraseIdx i:=by
  rw[List.eraseIdx_eq_take_drop_succ,List.nil_append,Iv,show((i:Int)+1).toNat=i+1 by omega]
 rw[e]at hs;exact Al (hs.GX 0 rfl)
def Gt (A:Int→Int→Bool) (l:List Int) (i k:Nat):Bool:=(List.range k).all fun j=>j==i||A (l.getD i 0) (l.getD j 0)
def ES (A:Int→Int→Bool) (l:List Int):Option Nat:=(List.range l.length).find? fun i=>Gt A l i l.length
def Mi (A:Int→Int→Bool) (l:List Int):Int:=match ES A l with|some i=>i|none=> -1
def RX (A:Int→Int→Bool) (l:List Int) (i k:Nat):Gt A l i (k+1)=(Gt A l i k&&(k==i||A (l.getD i 0) (l.getD k 0))):=by
 rw[Gt,List.range_succ,List.all_append,Gt];simp
def By {l:List Int} {k:Nat} {x:Int} (h:l[k]? =some x):l.getD k 0=x:=by rw[DZ,h];rfl
def cA {A:Int→Int→Bool} {l:List Int} {i:Nat} (h:ES A l=some i):i<l.length:=by
 have:=List.mem_of_find?_eq_some h;simpa using this
def iU {A:Int→Int→Bool} {l:List Int} {i:Nat} (hi:i<l.length) (h:Gt A l i l.length=true) (hn: ∀j,j<i→Gt A l j l.length=false):Mi A l=i:=by
 have:ES A l=some i:=by
  rw[ES,List.find?_range_eq_some];exact⟨h,List.mem_range.2 hi,fun j hj=>by rw[hn j hj];rfl⟩
 rw[Mi,this]
def X3 {A:Int→Int→Bool} {l:List Int} (hn: ∀j,j<l.length→Gt A l j l.length=false):Mi A l= -1:=by
 have:ES A l=none:=by
  rw[ES,List.find?_range_eq_none];exact fun j hj=>by rw[hn j hj];rfl
 rw[Mi,this]
set_option maxHeartbeats 1000000 in
def iV (T : List (List Bool)) (l:List Int) (f:Bool) (h:Iy T l):Pure Tryz.prog 318 [oV T,.l (iL l) f] (eI (Mi (Di T) l)):=by
 have hM:=Mx;have hm:=h.many;have hT:=h.len;refine sD kZ ?_;have hs:=Sn
 conv=>whnf
 repeat'((first|apply st|(apply sq;intro K U)|(apply si;intro A B Y Z)|(apply Y;clear Z B Y A)|(apply U;clear U K)|fail)<;>conv=>whnf)
 refine CA l.length (fun i (_:Unit)=>[(5,eI (BG i))]) (fun _ _=>[]) (fun i _=> ∀j,j<i→Gt (Di T) l j l.length=false) () rfl (fun j hj=>by omega) hs ?_;clear hs;rintro i - σ hi hn hs;rcases BI l hi with⟨x,hx,hlt⟩|hie
 ·have hxi:=h.ins x (B9 hx)
  conv=>whnf
  repeat'((first|apply st|(apply sq;intro K U)|(apply si;intro A B Y Z)|(apply Y;clear Z B Y A)|(apply U;clear U K)|refine⟨rfl,?_⟩|(refine CU (fun hc=>?_)<;>(try rw[hc])<;>clear hc)|fail)<;>conv=>whnf)
  refine CA l.length (fun k (b:Bool)=>[(6,.b b),(7,eI (BG k))]) (fun _ _=>[]) (fun k b=>b=Gt (Di T) l i k) true rfl rfl hs ?_;clear hs;rintro k b σ hk hb hs;rcases BI l hk with⟨y,hy,hklt⟩|hke
  ·have hyi:=h.ins y (B9 hy)
   obtain⟨r,hr,hry⟩:=nN h hxi hyi;have hsu:=RX (Di T) l i k;rw[By hx,By hy,←hb]at hsu;have hci:BG i=i:=AK (by omega);have hck:BG k=k:=AK (by omega);have hrl:=h.sq r (B9 hr);cases b
   ·conv=>whnf
    repeat'((first|apply st|(apply sq;intro K U)|(apply si;intro A B Y Z)|(apply Y;clear Z B Y A)|(apply U;clear U K)|apply dr|refine⟨rfl,?_⟩|(refine CU (fun hc=>?_)<;>(try rw[hc])<;>clear hc)|clear U K)<;>conv=>whnf)
    exact⟨hklt,false,rfl,(hsu.trans (by simp)).symm,hs⟩
   ·by_cases hki:k=i
    ·conv=>whnf
     repeat'((first|apply st|(apply sq;intro K U)|(apply si;intro A B Y Z)|(apply Y;clear Z B Y A)|(apply U;clear U K)|apply dr|refine⟨rfl,?_⟩|(refine CU (fun hc=>?_)<;>(try rw[hc])<;>clear hc)|(constructor<;>intro hc<;>(try rw[hc])<;>(replace hc:=bp hc)<;>(try simp(disch:=omega) only[A9,wrap64,AK]at hc)<;>try(exfalso;omega))|clear U K)<;>conv=>whnf)
     exact⟨hklt,true,rfl,(hsu.trans (by simp[hki])).symm,hs⟩
    ·conv=>whnf
     repeat'((first|apply st|(apply sq;intro K U)|(apply si;intro A B Y Z)|(apply Y;clear Z B Y A)|(apply U;clear U K)|apply dr|refine⟨rfl,?_⟩|refine ix ?_|refine HI ?_|(refine CU (fun hc=>?_)<;>(try rw[hc])<;>clear hc)|(constructor<;>intro hc<;>(try rw[hc])<;>(replace hc:=bp hc)<;>(try simp(disch:=omega) only[A9,wrap64,AK]at hc)<;>try(exfalso;omega))|clear U K)<;>conv=>whnf)
     exact⟨hklt,Di T x y,rfl,(hsu.trans (by simp[hki])).symm,hs⟩
  ·conv=>whnf
   repeat'((first|apply st|(apply sq;intro K U)|(apply si;intro A B Y Z)|(apply Y;clear Z B Y A)|(apply U;clear U K)|refine⟨rfl,?_⟩|(refine Dl (fun hc=>?_)<;>(try rw[hc])<;>clear hc)|(constructor<;>intro hc<;>(try rw[hc])<;>(replace hc:=bp hc))|clear U K)<;>conv=>whnf)
   ·exact AI (by rw[iU hlt (by rw[←hke,←hb,hc]) hn,AK (by omega)])
   ·refine⟨hlt,(),rfl,fun j hj=>?_,hs⟩
    rcases Nat.lt_or_ge j i with h'|h'
    ·exact hn j h'
    ·rw[show j=i by omega,←hke,←hb,hc]
 ·conv=>whnf
  repeat'((first|apply st|(apply sq;intro K U)|(apply si;intro A B Y Z)|(apply Y;clear Z B Y A)|(apply U;clear U K)|refine⟨rfl,?_⟩|(refine Dl (fun hc=>?_)<;>(try rw[hc])<;>clear hc)|clear U K)<;>conv=>whnf)
  exact AI (by rw[X3 fun j hj=>hn j (by omega)])
def Bc (A:Int→Int→Bool):Nat→List Int→List Int×Bool
 | 0,_=>([],false)
 | k+1,l=>match ES A l with
   | none=>([],!l.isEmpty)
   | some i=>(l.getD i 0::(Bc A k (l.eraseIdx i)).1,(Bc A k (l.eraseIdx i)).2)
def Iy.less {T:List (List Bool)} {l:List Int} (h:Iy T l) (i:Nat):Iy T (l.eraseIdx i):=
 ⟨h.len,h.sq,fun x hx=>h.ins x (List.mem_of_mem_eraseIdx hx),Nat.le_trans (List.length_eraseIdx_le _ _) h.many⟩
set_option maxHeartbeats 1000000 in
def Vl (T:List (List Bool)) (l:List Int) (f:Bool) (h:Iy T l):Pure Tryz.prog 275 [oV T,.l (iL l) f] (.t [.l (iL (Bc (Di T) l.length l).1) false,.b (Bc (Di T) l.length l).2]):=by
 have hM:=Mx;refine so kZ ?_;have hs:=Sn
 conv=>whnf
 repeat'((first|apply st|(apply sq;intro K U)|(apply si;intro A B Y Z)|(apply Y;clear Z B Y A)|(apply U;clear U K)|fail)<;>conv=>whnf)
 refine EA (fun(x:List Int×Bool×V×List Int)=>x.1.length) (fun x=>[(1,.l (iL x.1) x.2.1),(6,x.2.2.1)]) (fun x=>[.own x.2.2.1 1 (iL x.2.2.2)])
  (fun x=>Iy T x.1∧x.2.2.2.length+x.1.length≤16∧Bc (Di T) l.length l=(x.2.2.2++(Bc (Di T) x.1.length x.1).1,(Bc (Di T) x.1.length x.1).2)) (l,f,.l [] true,[]) rfl ⟨h,by simpa using h.many,by simp⟩ (EM hs 1) ?_
 clear hs;rintro⟨l',f',v,out⟩ σ ⟨ho,hlen,hm⟩ hs;dsimp only at ho hlen hm hs;dsimp only;have c1:=iV T l' f' ho;have hll:out.length<Ad∧(out.length+1)*8≤140737488355328:=by omega
 by_cases hz:l'.length=0
 ·conv=>whnf
  repeat'((first|apply st|(apply sq;intro K U)|(apply si;intro A B Y Z)|(apply Y;clear Z B Y A)|(apply U;clear U K)|refine⟨rfl,?_⟩|(constructor<;>intro hc<;>(try rw[hc])<;>(replace hc:=bp hc)<;>(try simp(disch:=omega) only[A9,wrap64,AK]at hc)<;>try(exfalso;omega))|clear U K)<;>conv=>whnf)
  rw[hz]at hm;simp only[Bc,Im]at hm;rw[hm];exact Al (.t (.cons (hs.GX 0 rfl) (.cons (.refl _) .nil)))
 ·rw[Mi]at c1
  obtain⟨n,hn⟩: ∃n,l'.length=n+1:=⟨l'.length - 1,by omega⟩
  have hne:l'.isEmpty=false:=by cases l' with
   | nil=>simp at hz
   | cons=>rfl
  rw[hn,Bc]at hm;cases hfo:ES (Di T) l' with
  | none=>
    rw[hfo]at c1 hm;dsimp only at c1 hm
    conv=>whnf
    repeat'((first|apply st|(apply sq;intro K U)|(apply si;intro A B Y Z)|(apply Y;clear Z B Y A)|(apply U;clear U K)|refine⟨rfl,?_⟩|refine c1.use ?_|(constructor<;>intro hc<;>(try rw[hc])<;>(replace hc:=bp hc)<;>(try simp(disch:=omega) only[A9,wrap64,AK]at hc)<;>try(exfalso;omega))|clear U K)<;>conv=>whnf)
    rw[hm,hne,Im];exact Al (.t (.cons (hs.GX 0 rfl) (.cons (.refl _) .nil)))
  | some i=>
    rw[hfo]at c1 hm;dsimp only at c1 hm;have hi:=cA hfo;have c2:=Pq l' f' i hi ho.many;obtain⟨x,hx⟩: ∃x,l'[i]? =some x:=⟨_,C7 hi⟩
    have hel:=List.length_eraseIdx_of_lt hi;rw[By hx]at hm
    conv=>whnf
    repeat'((first|apply st|(apply sq;intro K U)|(apply si;intro A B Y Z)|(apply Y;clear Z B Y A)|(apply U;clear U K)|refine⟨rfl,?_⟩|refine HI ?_|refine aq fun v σ hs hsl=>?_|refine c1.use ?_|refine c2.use ?_|(constructor<;>intro hc<;>(try rw[hc])<;>(replace hc:=bp hc)<;>(try simp(disch:=omega) only[A9,wrap64,AK]at hc)<;>try(exfalso;omega))|clear U K)<;>conv=>whnf)
    refine⟨(l'.eraseIdx i,false,v,out++[x]),by dsimp only;omega,rfl,⟨ho.less i,by simp;omega,?_⟩,hs⟩;dsimp only;rw[hm,hel,show l'.length - 1=n by omega];simp
end Go.Gl
