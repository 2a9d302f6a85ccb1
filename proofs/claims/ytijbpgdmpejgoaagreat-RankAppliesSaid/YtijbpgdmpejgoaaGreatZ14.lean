import Derived.Test.YtijbpgdmpejgoaaGreatZ13
set_option linter.all false
set_option linter.defProp false
noncomputable section
namespace Go.Gl
open Go.Proofs
attribute [local irreducible] BC Ax Ai AU AO Ag AV AW AM Af AR AT A0 A9 Sat Ab A6 Ak W
structure H8 (w:AK) (kf:Int→List Int→Kn):Prop where
 ok: ∀a p,dd 1000 (kf a p)
 low: ∀a p,-1000000000≤(kf a p).low∧(kf a p).low≤1000000000
 short: ∀a p,2≤p.length→(kf a p).AS= []
 AS: ∀a p,∀s∈(kf a p).AS,0≤s∧s<w.owner.length
abbrev Hx (L:Nat) (pre post:List Cz) (e:Cz) (s:List Cz):List At:=
 .box e.b [eI e.k.low,eI e.k.high,e.vn,eU e.k.CM,eU e.k.F7,.b e.k.whole,.b e.k.A1,e.vs]:: .own e.vn 1 (iL e.k.no)::Gm L (pre++e::(post++s)) pre (post++s)
def lg {σ:AH} {L:Nat} {pre post:List Cz} {e:Cz} {s:List Cz} (h:Sat σ (B3 L (pre++e::(post++s)))):Sat σ (.own e.vs 1 (iL e.k.AS)::Hx L pre post e s):=
 (Gn (X:=[]) h).perm ((HZ _ _ _ _).symm)
def fH {σ:AH} {L:Nat} {pre post:List Cz} {e:Cz} {s:List Cz} (h:Sat σ (.own e.vs 1 (iL e.k.AS)::Hx L pre post e s)):Sat σ (B3 L (pre++e::(post++s))):=
 EE (X:=[]) (e:=e) (e':=e) rfl rfl rfl (h.perm (HZ _ _ _ _))
def Mi (kf:Int→List Int→Kn) (L:Nat) (es:List Cz) (post:List At):Prop:= ∃es',OT es es'∧Dq kf es'∧post=B3 L es'
def c8 (w:AK) (us:List Nat) {kf:Int→List Int→Kn} {L:Nat} {pre post:List Cz} {e:Cz} {a:Int} {p:List Int} (hp:p.length<2) :
    Le Tryz.prog (.f (.func 290) [] [.rp [RC w us L],.rp (Jc a p)]) eI (fun s=> .own e.vs 1 (iL e.k.AS)::Hx L pre post e s) (fun y=> !(kf a (p++[y])).A1) (fun s=>Dq kf (pre++e::(post++s))∧ ∀x∈s,x.k=k0) (fun _=>True):=by
 rintro y s - ⟨hj,hj0⟩ σ hs;refine Bl ?_;show BC Tryz.prog 290 ([]++[eI y]++[.rp [RC w us L],.rp (Jc a p)]) σ _;refine iD kZ ?_
 conv=>whnf
 repeat'((first|apply st|(apply sq;intro K U)|(apply si;intro A B Y Z)|(apply Y;clear Z B Y A)|(apply U;clear U K)|apply dr|refine rk ?_ ?_|exact fun s e=>by cases e;rfl|refine⟨kZ,?_⟩|refine Pure.use (MK a p y hp) ?_|fail)<;>conv=>whnf)
 refine(Jr w us hj (a:=a) (p:=p++[y]) (by simp;omega)).use (rest:=[]) (by simpa using fH hs) ?_;clear hs;rintro r post' σ ⟨es4,e4,got,rfl,rfl⟩ hs;have hek4:=got.k;obtain⟨new,he4,hnew⟩:=got.ext;have hinv:=got.inv;obtain⟨pre4,post4,he5⟩:=List.append_of_mem got.mem;rw[Hs,he5]at hs;replace hs:=Gn (X:=[]) hs
 conv=>whnf
 repeat'((first|apply st|(apply Y;clear Z B Y A)|(apply U;clear U K)|apply dr|refine ld ?_|fail)<;>conv=>whnf)
 refine AP ⟨by rw[hek4],s++new,⟨?_,fun x hx=>?_⟩,?_⟩
 ·rw[he4]at hinv
  simpa using hinv
 ·rcases FQ.1 hx with hx|hx
  ·exact hj0 x hx
  ·exact hnew x hx
 ·have h2:=EE (X:=[]) (e:=e4) (e':=e4) rfl rfl rfl hs
  rw[←he5,he4]at h2;refine lg ?_;simpa using h2
def c9 (w:AK) (us:List Nat) {kf:Int→List Int→Kn} (hr:H8 w kf) {L:Nat} {es:List Cz} (h:Dq kf es) {a:Int} {p:List Int} (hp:p.length≤2) :
    Bd Tryz.prog 288 [RC w us L,EL a p] (B3 L es) fun r post=>r= .ret (.b (Mm kf a p))∧Mi kf L es post:=by
 intro σ hs;have hM:=Mx;refine iF kZ ?_
 conv=>whnf
 repeat'((first|apply st|(apply sq;intro K U)|(apply si;intro A B Y Z)|(apply Y;clear Z B Y A)|(apply U;clear U K)|refine⟨kZ,?_⟩|fail)<;>conv=>whnf)
 refine(Jr w us h (a:=a) (p:=p) hp).use (rest:=[]) (by simpa using hs) ?_;clear hs;rintro r post σ ⟨es4,e4,got,rfl,rfl⟩ hs;have hek:=got.k;obtain⟨pre,post,rfl⟩:=List.append_of_mem got.mem;rw[Hs]at hs;replace hs:=Gn (X:=[]) hs;have hsl:=(hr.ok a p).2.2.2;have hsh:=hr.short a p;rw[←hek]at hsl hsh
 have hst:p.length<2∨e4.k.AS= []:=by
  rcases Nat.lt_or_ge p.length 2 with h'|h'
  ·exact .inl h'
  ·exact .inr (hsh h')
 have hE:Mm kf a p=e4.k.AS.all fun y=> !(kf a (p++[y])).A1:=by rw[Mm,hek]
 conv=>whnf
 repeat'((first|refine ld ?_|fail)<;>conv=>whnf)
 have hall:Bd Tryz.prog 177 [e4.vs,.f (.func 290) [] [.rp [RC w us L],.rp (Jc a p)]] (.own e4.vs 1 (iL e4.k.AS)::Hx L pre post e4 []) fun r post'=>r= .ret (.b (e4.k.AS.all fun y=> !(kf a (p++[y])).A1))∧ ∃s',(Dq kf (pre++e4::(post++s'))∧ ∀x∈s',x.k=k0)∧post'= .own e4.vs 1 (iL e4.k.AS)::Hx L pre post e4 s':=by
  rcases hst with h'|h'
  ·exact V6 290 [] [.rp [RC w us L],.rp (Jc a p)] (Hx L pre post e4) _ _ _ (c8 w us h') (fun _ _=>trivial) (by omega) [] ⟨by simpa using got.inv,by simp⟩
  ·exact V6 290 [] [.rp [RC w us L],.rp (Jc a p)] (Hx L pre post e4) _ _ (fun _=>False) (fun y s hf=>hf.elim) (fun x hx=>by rw[h']at hx;cases hx) (by omega) [] ⟨by simpa using got.inv,by simp⟩
 refine hall.use (rest:=[]) (by
  have h2:=lg (L:=L) (pre:=pre) (post:=post) (e:=e4) (s:=[]) (by simpa using EE (X:=[]) (e:=e4) (e':=e4) rfl rfl rfl hs)
  simpa using h2) ?_
 clear hs;rintro r post' σ ⟨rfl,s',⟨hi,hn⟩,rfl⟩ hs
 conv=>whnf
 repeat'((first|apply st|(apply Y;clear Z B Y A)|(apply U;clear U K)|fail)<;>conv=>whnf)
 refine AP ⟨_,⟨by rw[hE],pre++e4::(post++s'),got.ext.trans ⟨s',by simp,hn⟩,hi,rfl⟩,fH (by simpa using hs)⟩
def aZ {m u:Nat} (hm:m<18446744073709551616):(Mc m u=0)↔OQ m u=true:=by
 rw[M8 (by simpa using hm)];constructor
 ·intro h b hb
  have hlt:b<64:=by
   rcases Nat.lt_or_ge b 64 with h'|h'
   ·exact h'
   ·rw[Nat.testBit_lt_two_pow (Nat.lt_of_lt_of_le hm (by simpa using Nat.pow_le_pow_right (n:=2) (by decide) h'))]at hb;cases hb
  have:=NT (a:=m) (b:=u) hlt;rw[h,Nat.zero_testBit,hb]at this;simpa using this
 ·intro h
  refine Nat.eq_of_testBit_eq fun i=>?_
  rw[Nat.zero_testBit];rcases Nat.lt_or_ge i 64 with hlt|hge
  ·rw[NT hlt]
   cases hb:m.testBit i with
   | false=>rfl
   | true=>rw[h i hb];rfl
  ·exact Nat.testBit_lt_two_pow (Nat.lt_of_lt_of_le (Qk _ _) (by simpa using Nat.pow_le_pow_right (n:=2) (by decide) hge))
def SG (w:AK) (us:List Nat) {kf:Int→List Int→Kn} (hr:H8 w kf) {L:Nat} {es:List Cz} (h:Dq kf es) {a:Int} {p:List Int} (hp:p.length≤2) (c:Nat) (hc:c<64) :
    Bd Tryz.prog 284 [RC w us L,EL a p,eI c] (B3 L es) fun r post=>r= .ret (.b (HC kf a p c))∧Mi kf L es post:=by
 intro σ hs;refine iI kZ ?_
 conv=>whnf
 repeat'((first|apply st|(apply sq;intro K U)|(apply si;intro A B Y Z)|(apply Y;clear Z B Y A)|(apply U;clear U K)|refine⟨kZ,?_⟩|fail)<;>conv=>whnf)
 refine(Jr w us h (a:=a) (p:=p) hp).use (rest:=[]) (by simpa using hs) ?_;clear hs;rintro r post σ ⟨es4,e4,got,rfl,rfl⟩ hs;have hek:=got.k;obtain⟨pre,post,rfl⟩:=List.append_of_mem got.mem;rw[Hs]at hs;replace hs:=Gn (X:=[]) hs;have hok:=hr.ok a p;rw[←hek]at hok;have hu:1|||2 ^ c<18446744073709551616:=Ji (by decide) (JC hc)
 have hb1:bits .andNot .u64 (e4.k.CM:Int) ((1|||2 ^ c:Nat):Int)=((Mc e4.k.CM (1|||2 ^ c):Nat):Int):=Pj;have hb2:bits .and .u64 (e4.k.F7:Int) ((1|||2 ^ c:Nat):Int)=((e4.k.F7&&&(1|||2 ^ c):Nat):Int):=KK hok.2.1 hu;have hb3:=aZ (u:=1|||2 ^ c) hok.1;have F:HC kf a p c=(OQ e4.k.CM (1|||2 ^ c)&&(e4.k.F7&&&(1|||2 ^ c)==0&&Mm kf a p)):=by rw[HC,hek]
 conv=>whnf
 repeat'((first|apply st|(apply sq;intro K U)|(apply si;intro A B Y Z)|(apply Y;clear Z B Y A)|(apply U;clear U K)|refine⟨rfl,?_⟩|refine⟨kZ,?_⟩|refine ld ?_|refine Pure.use (VE 1 c (by decide) hc) ?_|(constructor<;>intro hc<;>(try rw[hc])<;>(replace hc:=bp hc))|fail)<;>conv=>whnf)
 ·have h1:OQ e4.k.CM (1|||2 ^ c)=true:=hb3.1 (by omega)
  have h2:(e4.k.F7&&&(1|||2 ^ c)==0)=true:=by rw[Dn];omega
  refine(c9 w us hr got.inv hp).use (rest:=[]) (by simpa using EE (X:=[]) (e:=e4) (e':=e4) rfl rfl rfl hs) ?_;clear hs;rintro r post' σ ⟨rfl,es5,hx,hi,rfl⟩ hs
  conv=>whnf
  repeat'((first|apply st|(apply Y;clear Z B Y A)|(apply U;clear U K)|fail)<;>conv=>whnf)
  exact AP ⟨_,⟨by rw[F,h1,h2];rfl,es5,got.ext.trans hx,hi,rfl⟩,by simpa using hs⟩
 ·have h2:(e4.k.F7&&&(1|||2 ^ c)==0)=false:=by rw[beq_eq_false_iff_ne];omega
  exact AP ⟨_,⟨by rw[F,h2];simp,_,got.ext,got.inv,rfl⟩,by simpa using EE (X:=[]) (e:=e4) (e':=e4) rfl rfl rfl hs⟩
 ·have h1:OQ e4.k.CM (1|||2 ^ c)=false:=by
   rw[←Bool.not_eq_true,←hb3];omega
  exact AP ⟨_,⟨by rw[F,h1];simp,_,got.ext,got.inv,rfl⟩,by simpa using EE (X:=[]) (e:=e4) (e':=e4) rfl rfl rfl hs⟩
def N1 (w:AK) (us:List Nat) {kf:Int→List Int→Kn} (hr:H8 w kf) {L:Nat} {es:List Cz} (h:Dq kf es) {a:Int} {p:List Int} (hp:p.length≤2) :
    Bd Tryz.prog 278 [RC w us L,EL a p] (B3 L es) fun r post=>r= .ret (.t [eI (JD (kf a p)),.b (P4 kf a p)])∧Mi kf L es post:=by
 intro σ hs;have hM:=Mx;refine iO kZ ?_
 conv=>whnf
 repeat'((first|apply st|(apply sq;intro K U)|(apply si;intro A B Y Z)|(apply Y;clear Z B Y A)|(apply U;clear U K)|refine⟨kZ,?_⟩|fail)<;>conv=>whnf)
 refine(Jr w us h (a:=a) (p:=p) hp).use (rest:=[]) (by simpa using hs) ?_;clear hs;rintro r post σ ⟨es4,e4,got,rfl,rfl⟩ hs;have hek:=got.k;obtain⟨pre,post,rfl⟩:=List.append_of_mem got.mem;rw[Hs]at hs;replace hs:=Gn (X:=[]) hs;have hok:=hr.ok a p;have hlo:=hr.low a p;rw[←hek]at hok hlo;have hno:=hok.2.2.1;have hle:=Vn e4.k.no e4.k.low;have hL:JD (kf a p)=Hj e4.k.no (from_ e4.k.no e4.k.low) e4.k.low:=by rw[JD,←hek];exact V7 hle (Ja _)
 conv=>whnf
 repeat'((first|apply st|(apply sq;intro K U)|(apply si;intro A B Y Z)|(apply Y;clear Z B Y A)|(apply U;clear U K)|refine ld ?_|fail)<;>conv=>whnf)
 refine GS (fun n:Int=>from_ e4.k.no n) (fun n=>[(7,eI n)]) (fun _=> .box e4.b [eI e4.k.low,eI e4.k.high,e4.vn,eU e4.k.CM,eU e4.k.F7,.b e4.k.whole,.b e4.k.A1,e4.vs]:: .own e4.vn 1 (iL e4.k.no):: .own e4.vs 1 (iL e4.k.AS)::([]++Gm L (pre++e4::post) pre post)) (fun n=> -1000000000≤n∧n+from_ e4.k.no n≤1000001000∧JD (kf a p)=Hj e4.k.no (from_ e4.k.no n) n) e4.k.low rfl ⟨by omega,by omega,hL⟩ hs ?_;clear hs hL hle;rintro n σ ⟨hn0,hn1,hL⟩ hs;have hct2:=fun b=>Dl e4.k.no b n
 cases hcB:e4.k.no.contains n<;>rw[hcB]at hct2
 ·have hout:n∉e4.k.no:=by simpa using hcB
  rw[dW hout]at hL;have hI:P4 kf a p=(decide (n≤e4.k.high)&&HC kf a p 1):=by rw[P4,hL,hek]
  conv=>whnf
  repeat'((first|apply st|(apply sq;intro K U)|(apply si;intro A B Y Z)|(apply Y;clear Z B Y A)|(apply U;clear U K)|refine⟨rfl,?_⟩|refine⟨kZ,?_⟩|refine ld ?_|refine Pure.YC (hct2 false) (.cons (hs.RL 1 rfl) (.cons (.refl _) .nil)) rfl ?_|(constructor<;>intro hc<;>(try rw[hc])<;>(replace hc:=bp hc))|clear U K)<;>conv=>whnf)
  all_goals
   have hsc:Sat σ (B3 L (pre++e4::post)):=by simpa using EE (X:=[]) (e:=e4) (e':=e4) rfl rfl rfl hs
  ·refine(SG w us hr got.inv hp 1 (by decide)).use (rest:=[]) (by simpa using hsc) ?_
   clear hs hsc;rintro r post' σ ⟨rfl,es5,hx,hi,rfl⟩ hs
   conv=>whnf
   repeat'((first|apply st|(apply Y;clear Z B Y A)|(apply U;clear U K)|fail)<;>conv=>whnf)
   exact AP ⟨_,⟨by rw[hL,hI,decide_eq_true (by assumption)];rfl,es5,got.ext.trans hx,hi,rfl⟩,by simpa using hs⟩
  ·exact AP ⟨_,⟨by rw[hL,hI,decide_eq_false (by omega)];rfl,_,got.ext,got.inv,rfl⟩,hsc⟩
 ·have hin:n∈e4.k.no:=by simpa using hcB
  have hlt:=Qg hin;have hwr:IntKind.i64.wrap (n+1)=n+1:=wrap64 (by omega) (by omega);obtain⟨m,hm⟩: ∃m,from_ e4.k.no n=m+1:=⟨from_ e4.k.no n - 1,by omega⟩
  have hL2:JD (kf a p)=Hj e4.k.no (from_ e4.k.no (n+1)) (n+1):=by rw[hL,hm,lK hin];exact V7 (by omega) (Ja _)
  conv=>whnf
  repeat'((first|apply st|(apply sq;intro K U)|(apply si;intro A B Y Z)|(apply Y;clear Z B Y A)|(apply U;clear U K)|refine⟨rfl,?_⟩|refine ld ?_|refine Pure.YC (hct2 false) (.cons (hs.RL 1 rfl) (.cons (.refl _) .nil)) rfl ?_|clear U K)<;>conv=>whnf)
  exact⟨n+1,hlt,by rw[hwr];rfl,⟨by omega,by omega,hL2⟩,hs⟩
def VZ (w:AK) (us:List Nat) {kf:Int→List Int→Kn} (hr:H8 w kf) {L:Nat} {es:List Cz} (h:Dq kf es) {a:Int} {p:List Int} (hp:p.length≤2) :
    Bd Tryz.prog 279 [RC w us L,EL a p] (B3 L es) fun r post=>r= .ret (.b (Jj kf a p))∧Mi kf L es post:=by
 intro σ hs;refine iN kZ ?_
 conv=>whnf
 repeat'((first|apply st|(apply sq;intro K U)|(apply si;intro A B Y Z)|(apply Y;clear Z B Y A)|(apply U;clear U K)|refine⟨kZ,?_⟩|fail)<;>conv=>whnf)
 refine(Jr w us h (a:=a) (p:=p) hp).use (rest:=[]) (by simpa using hs) ?_;clear hs;rintro r post σ ⟨es4,e4,got,rfl,rfl⟩ hs;have hek:=got.k;obtain⟨pre,post,rfl⟩:=List.append_of_mem got.mem;rw[Hs]at hs;have hsc:=hs;replace hs:=Gn (X:=[]) hs;have hN:Jj kf a p=(!e4.k.whole&&HC kf a p 2):=by rw[Jj,hek]
 cases hw:e4.k.whole<;>rw[hw]at hs hN
 ·conv=>whnf
  repeat'((first|apply st|refine⟨kZ,?_⟩|refine ld ?_|refine E7 ?_|fail)<;>conv=>whnf)
  refine(SG w us hr got.inv hp 2 (by decide)).use (rest:=[]) (by simpa using hsc) ?_;clear hs hsc;rintro r post' σ ⟨rfl,es5,hx,hi,rfl⟩ hs
  conv=>whnf
  repeat'((first|apply st|(apply Y;clear Z B Y A)|(apply U;clear U K)|fail)<;>conv=>whnf)
  exact AP ⟨_,⟨by rw[hN];rfl,es5,got.ext.trans hx,hi,rfl⟩,by simpa using hs⟩
 ·conv=>whnf
  repeat'((first|apply st|(apply Y;clear Z B Y A)|(apply U;clear U K)|refine ld ?_|refine EA ?_|fail)<;>conv=>whnf)
  exact AP ⟨_,⟨by rw[hN];rfl,_,got.ext,got.inv,rfl⟩,hsc⟩
def QB {σ:AH} {X:List At} {L:Nat} {pre post:List Cz} {e:Cz} {s:List Cz} (h:Sat σ (X++B3 L (pre++e::(post++s)))):Sat σ (.own e.vs 1 (iL e.k.AS)::(X++Hx L pre post e s)):=by
 have h2:=Gn h;refine h2.perm ((HZ _ _ _ _).symm.trans (.cons _ ?_));exact(List.perm_middle.trans (.cons _ List.perm_middle)).symm
def dH {σ:AH} {X:List At} {L:Nat} {pre post:List Cz} {e:Cz} {s:List Cz} (h:Sat σ (.own e.vs 1 (iL e.k.AS)::(X++Hx L pre post e s))):Sat σ (X++B3 L (pre++e::(post++s))):=by
 refine EE (X:=X) (e:=e) (e':=e) rfl rfl rfl ?_;refine h.perm ?_;refine List.Perm.trans (.cons _ (List.perm_middle.trans (.cons _ List.perm_middle))) ?_;exact HZ _ _ _ _
def Vh (s:Nat) (c:Int) (hs0:s<18446744073709551616) (h0:0≤c) (hc:c<64):Pure Tryz.prog 152 [eU s,eI c] (.b (s.testBit c.toNat)):=by
 have:=Mw s c.toNat hs0 (by omega);rw[Int.toNat_of_nonneg h0]at this;exact this
def ae {m:Nat} (hm:m<18446744073709551616):Mc m 1=Gh m:=by
 refine Nat.eq_of_testBit_eq fun i=>?_
 rw[Sc];rcases Nat.lt_or_ge i 64 with hlt|hge
 ·rw[NT hlt,show(1:Nat)=2 ^ 0 from rfl,Nat.testBit_two_pow]
  congr 2;rw[Kk,CY,Dn];omega
 ·have h64:18446744073709551616≤2 ^ i:=by simpa using Nat.pow_le_pow_right (n:=2) (by decide) hge
  rw[Nat.testBit_lt_two_pow (Nat.lt_of_lt_of_le (Qk _ _) h64),Nat.testBit_lt_two_pow (Nat.lt_of_lt_of_le hm h64)];rfl
set_option maxHeartbeats 4000000 in
def PG (w : AK) (hw:CE w) {kf:Int→List Int→Kn} (hr:H8 w kf) {a:Int} {p:List Int} (hp:p.length≤2) (can:Int→Bool)
    (hcan: ∀s∈(kf a p).AS,∀L es,Dq kf es→Bd Tryz.prog 260 [RC w (B0 w.parents) L,EL a (p++[s])] (B3 L es) fun r post=>r= .ret (.b (can s))∧Mi kf L es post) {L:Nat} {es:List Cz} (h:Dq kf es) :
    Bd Tryz.prog 280 [RC w (B0 w.parents) L,EL a p] (B3 L es) fun r post=>r= .ret (.t [eU (L0 w (kf a p) (fun s=>(kf a (p++[s])).A1) can).1,.b (L0 w (kf a p) (fun s=>(kf a (p++[s])).A1) can).2])∧Mi kf L es post:=by
 intro σ hs;have hM:=Mx;generalize hus:B0 w.parents=us at *;refine iM kZ ?_
 conv=>whnf
 repeat'((first|apply st|(apply sq;intro K U)|(apply si;intro A B Y Z)|(apply Y;clear Z B Y A)|(apply U;clear U K)|refine⟨kZ,?_⟩|fail)<;>conv=>whnf)
 refine(Jr w us h (a:=a) (p:=p) hp).use (rest:=[]) (by simpa using hs) ?_;clear hs;rintro r post σ ⟨es4,e4,got,rfl,rfl⟩ hs;have hek:=got.k;obtain⟨pre,post,rfl⟩:=List.append_of_mem got.mem;rw[Hs]at hs;have hsc:=hs;replace hs:=Gn (X:=[]) hs;have hok:=hr.ok a p;have hsl:=(hr.ok a p).2.2.2;have hsh:=hr.short a p;have hsw:=hr.AS a p;rw[←hek]at hok hsl hsh hsw hcan;have hO:L0 w (kf a p) (fun s=>(kf a (p++[s])).A1) can=L0 w e4.k (fun s=>(kf a (p++[s])).A1) can:=by rw[hek]
 have hOn:(e4.k.whole=true∨e4.k.CM.testBit 1=true∨e4.k.CM.testBit 2=true∨e4.k.F7.testBit 0=true)→L0 w (kf a p) (fun s=>(kf a (p++[s])).A1) can=(0,false):=fun h=>by
  rw[hO,L0,if_pos];rcases h with h|h|h|h<;>rw[h]<;>simp
 have hOy:e4.k.whole=false→e4.k.CM.testBit 1=false→e4.k.CM.testBit 2=false→e4.k.F7.testBit 0=false→L0 w (kf a p) (fun s=>(kf a (p++[s])).A1) can=match Hb w (fun s=>(kf a (p++[s])).A1) can e4.k.AS (e4.k.CM,e4.k.F7)with
  | none=>(0,false)
  | some u=>(Gh (DV (B0 w.parents) w.parents.length u.1),Gh (DV (B0 w.parents) w.parents.length u.1)&&&u.2==0):=fun h1 h2 h3 h4=>by
  rw[hO,L0,h1,h2,h3,h4];rfl
 clear hO;cases hb0:e4.k.whole<;>rw[hb0]at hs
 rotate_left
 ·conv=>whnf
  repeat'((first|apply st|(apply sq;intro K U)|(apply si;intro A B Y Z)|(apply Y;clear Z B Y A)|(apply U;clear U K)|apply dr|refine ld ?_|clear U K)<;>conv=>whnf)
  exact AP ⟨_,⟨by rw[hOn (.inl hb0)];rfl,_,got.ext,got.inv,rfl⟩,hsc⟩
 ·conv => whnf
  repeat'((first|apply st|(apply sq;intro K U)|(apply si;intro A B Y Z)|(apply Y;clear Z B Y A)|(apply U;clear U K)|apply dr|refine lo ?_|refine ld ?_|refine Pure.use (Mw e4.k.CM 1 hok.1 (by decide)) ?_|refine Pure.use (Mw e4.k.CM 2 hok.1 (by decide)) ?_|refine Pure.use (Mw e4.k.F7 0 hok.2.1 (by decide)) ?_|(constructor<;>intro hc<;>(try rw[hc])<;>(replace hc:=bp hc))|clear U K)<;>conv=>whnf)
  all_goals first
   | exact AP ⟨_,⟨by rw[hOn (by first|exact .inl (by assumption)|exact .inr (.inl (by assumption))|exact .inr (.inr (.inl (by assumption)))|exact .inr (.inr (.inr (by assumption))))];rfl,_,got.ext,got.inv,rfl⟩,hsc⟩
   | skip
  replace hOy:=hOy hb0 (by assumption) (by assumption) (by assumption);clear hOn;generalize hnf:(fun s=>(kf a (p++[s])).A1)=A1 at *
  have hs1:Sat σ (.own e4.vs 1 (iL e4.k.AS)::Hx L pre post e4 []):=by
   have h2:=QB (X:=[]) (L:=L) (pre:=pre) (post:=post) (e:=e4) (s:=[]) (by simpa using hsc);simpa using h2
  refine CZ e4.k.AS.length (fun k (x:(Nat×Nat)×List Cz)=>[(47,eI (BL k)),(7,eU x.1.1),(8,eU x.1.2)]) (fun k x=> .own e4.vs 1 (iL e4.k.AS)::Hx L pre post e4 x.2) (fun k x=>(x.1.1<18446744073709551616∧x.1.2<18446744073709551616)∧(Dq kf (pre++e4::(post++x.2))∧ ∀y∈x.2,y.k=k0)∧Hb w A1 can e4.k.AS (e4.k.CM,e4.k.F7)=Hb w A1 can (e4.k.AS.drop k) x.1) ((e4.k.CM,e4.k.F7),[]) rfl ⟨⟨hok.1,hok.2.1⟩,⟨by simpa using got.inv,by simp⟩,rfl⟩ hs1 ?_;clear hs hs1 hsc;rintro k ⟨⟨m,no⟩,new⟩ σ hk ⟨⟨hm,hno⟩,⟨hinv,hnew⟩,hF⟩ hs;simp only at hm hno hinv hnew hF hs;have hck:BL k=k:=AL (by have:=hok.2.2.2;omega);rcases BS e4.k.AS hk with⟨s,hsk,hlt⟩|hke
  ·have hsm:=Cj hsk
   have hp2:p.length<2:=by
    rcases Nat.lt_or_ge p.length 2 with h'|h'
    ·exact h'
    ·rw[hsh h']at hsm;cases hsm
   obtain⟨hs0,hs1⟩:=hsw s hsm;rw[drop_cons hsk,Hb]at hF
   conv=>whnf
   repeat'((first|apply st|(apply sq;intro K U)|(apply si;intro A B Y Z)|(apply Y;clear Z B Y A)|(apply U;clear U K)|apply dr|refine⟨rfl,?_⟩|refine⟨kZ,?_⟩|refine ld ?_|refine DJ fun σ hs=>?_|refine oi ?_|refine ol fun x hx=>?_|(refine Cs (fun hc=>?_)<;>(try rw[hc])<;>clear hc)|refine Pure.use (MK a p _ hp2) ?_|(intro nn hnn;generalize hg:A8 _ nn _=σ;refine CW hg fun hs=>?_;clear hg)|fail)<;>conv=>whnf)
   obtain rfl:x=s:=by rw[hck,Jb,hsk]at hx;exact(Option.some.inj hx).symm
   generalize nn=n7 at *;have hs2:Sat σ ([.box n7 (Jc a (p++[x]))]++B3 L (pre++e4::(post++new))):=dH (X:=[.box n7 (Jc a (p++[x]))]) (hs.perm (.swap _ _ _));clear hs;obtain⟨o,ho⟩: ∃o,w.owner[x.toNat]? =some o:=⟨_,Da (by omega)⟩
   have hoI:CX w x=o:=by simp only[CX,Dc,ho];rfl
   obtain⟨ho1,ho2⟩:=hw.2.2 o (Cj ho);have hwp:=hw.1.1;have hcx:=hcan x hsm L;cases hnx:A1 x<;>cases hcy:can x
   all_goals
    rw[hcy]at hcx;rw[U3,hnx,hcy,hoI]at hF;refine(Jr w us hinv (a:=a) (p:=p++[x]) (by simp;omega)).use (rest:=[.box n7 (Jc a (p++[x]))]) (hs2.perm Q8) ?_;clear hs2;rintro r post' σ ⟨es5,e5,got5,rfl,rfl⟩ hs;have hek5:e5.k.A1=A1 x:=by rw[got5.k,←hnf]
    rw[hnx]at hek5;obtain⟨newA,heA,hnA⟩:=got5.ext;obtain⟨pre5,post5,he5⟩:=List.append_of_mem got5.mem;rw[he5]at hs;replace hs:=Gn (X:=[.box n7 (Jc a (p++[x]))]) (hs.perm Q8);rw[hek5]at hs
    conv=>whnf
    repeat'((first|apply dr|refine rk ?_ ?_|exact fun s e=>by cases e;rfl|refine⟨kZ,?_⟩|refine ld ?_|fail)<;>conv=>whnf)
    have hs2:Sat σ ([.box n7 (Jc a (p++[x]))]++B3 L (pre5++e5::post5)):=EE (X:=[.box n7 (Jc a (p++[x]))]) (e:=e5) (e':=e5) rfl rfl rfl (by rw[←hek5]at hs;exact hs);clear hs;refine(hcx es5 got5.inv).use (rest:=[.box n7 (Jc a (p++[x]))]) (by rw[he5];exact hs2.perm Q8) ?_;clear hs2;rintro r post' σ ⟨rfl,es6,⟨new6,he6,hn6⟩,hi6,rfl⟩ hs;have he7:es6=pre5++e5::(post5++new6):=by rw[he6,he5];simp
    rw[he7]at hs;replace hs:=Gn (X:=[.box n7 (Jc a (p++[x]))]) (hs.perm Q8);rw[hek5]at hs
    conv=>whnf
    repeat'((first|apply st|(apply sq;intro K U)|(apply si;intro A B Y Z)|(apply Y;clear Z B Y A)|(apply U;clear U K)|apply dr|refine rk ?_ ?_|exact fun s e=>by cases e;rfl|refine⟨rfl,?_⟩|refine F8 ?_|refine ld ?_|refine E7 ?_|refine EA ?_|refine Pure.use (Gt m o hm (by omega) (by omega)) ?_|refine Pure.use (Gt no o hno (by omega) (by omega)) ?_|clear U K)<;>conv=>whnf)
    simp only[Bool.not_false,Bool.not_true,Bool.and_true,Bool.and_false,LU,if_false,if_true,Option.bind_some,Option.bind_none]at hF;have e7:es6=pre++e4::(post++(new++newA++new6)):=by rw[he6,heA];simp
    have hs2:Sat σ ([.box n7 (Jc a (p++[x]))]++B3 L (pre5++e5::(post5++new6))):=EE (X:=[.box n7 (Jc a (p++[x]))]) (e:=e5) (e':=e5) rfl rfl rfl (by rw[←hek5]at hs;exact hs)
    have hs3:Sat σ (B3 L (pre++e4::(post++(new++newA++new6)))):=by
     rw[←he7,e7]at hs2;exact hs2.less (List.sublist_append_right _ _)
    have hi7:Dq kf (pre++e4::(post++(new++newA++new6))):=by rw[←e7];exact hi6
    have hn7: ∀y∈new++newA++new6,y.k=k0:=fun y hy=>by
     rcases FQ.1 hy with hy|hy
     ·rcases FQ.1 hy with hy|hy
      ·exact hnew y hy
      ·exact hnA y hy
     ·exact hn6 y hy
    have hob:2 ^ o.toNat<18446744073709551616:=JC (by omega)
   ·exact⟨hlt,((m,no|||2 ^ o.toNat),new++newA++new6),rfl,⟨⟨hm,Ji hno hob⟩,⟨hi7,hn7⟩,hF⟩,QB (X:=[]) hs3⟩
   ·exact⟨hlt,((m,no),new++newA++new6),rfl,⟨⟨hm,hno⟩,⟨hi7,hn7⟩,hF⟩,QB (X:=[]) hs3⟩
   ·rw[hF]at hOy
    exact AP ⟨_,⟨by rw[hOy];rfl,_,got.ext.trans ⟨_,by simp,hn7⟩,hi7,rfl⟩,hs3⟩
   ·exact⟨hlt,((m|||2 ^ o.toNat,no),new++newA++new6),rfl,⟨⟨Ji hm hob,hno⟩,⟨hi7,hn7⟩,hF⟩,QB (X:=[]) hs3⟩
  ·rw [An hke,Hb]at hF
   rw[hF]at hOy;simp only at hOy
   conv=>whnf
   repeat'((first|apply st|(apply sq;intro K U)|(apply si;intro A B Y Z)|(apply Y;clear Z B Y A)|(apply U;clear U K)|refine⟨rfl,?_⟩|(refine EV (fun hc=>?_)<;>(try rw[hc])<;>clear hc)|clear U K)<;>conv=>whnf)
   have hu:lR us:=by rw[←hus];exact Gu _ _ (by have:=hw.1.1;omega)
   have hul:us.length=3+w.parents.length:=by rw[←hus];exact EN _ _
   have hwp:=hw.1.1;have hwl:IntKind.i64.wrap (3+((EZ w.parents).length:Nat))=3+(w.parents.length:Int):=by rw[BQ,wrap64 (by omega) (by omega)]
   refine CZ w.parents.length (fun k (x:Nat)=>[(14,eI (Jh 3 k)),(7,eU x)]) (fun _ _=> .own e4.vs 1 (iL e4.k.AS)::Hx L pre post e4 new) (fun k x=>x<18446744073709551616∧x=DV us k m) m rfl ⟨hm,rfl⟩ hs ?_;clear hs;clear hke hck hk k;rintro k x σ hk ⟨hx64,hxe⟩ hs;have hc3:Jh 3 k=3+k:=MQ (by omega) (by omega);by_cases hlt:k<w.parents.length
   ·have hbt:DV us (k+1) m=if x.testBit (Jh 3 k).toNat then x|||us.getD (3+k) 0 else x:=by
     rw[DV,←hxe,hc3,show(3+(k:Int)).toNat=3+k by omega]
    have hup:(List.drop ((Jh 3 k).toNat*1) (List.drop 2 (wC w us)))[0]? =some (eU (us.getD (3+k) 0)):=by
     rw[au,au,←U1 w us (i:=3+k) (by omega)];congr 1;omega
    conv=>whnf
    repeat'((first|apply st|(apply sq;intro K U)|(apply si;intro A B Y Z)|(apply Y;clear Z B Y A)|(apply U;clear U K)|refine⟨rfl,?_⟩|refine lY ?_|(rw[hup])|refine Pure.use (Vh x (Jh 3 k) hx64 (by omega) (by omega)) ?_|(constructor<;>intro hc<;>(try rw[hc])<;>(replace hc:=bp hc)<;>(try simp(disch:=omega) only[BQ,wrap64,AL]at hc)<;>try(exfalso;omega))|clear U K)<;>conv=>whnf)
    ·refine⟨hlt,x|||us.getD (3+k) 0,?_,⟨Ji hx64 (Kz hu _),by rw[hbt,if_pos (by assumption)]⟩,hs⟩
     rw[J1 hx64 (Kz hu _)];rfl
    ·exact⟨hlt,x,rfl,⟨hx64,by rw[hbt,if_neg (by rw[‹x.testBit _=false›];decide)]⟩,hs⟩
   ·have hke:k=w.parents.length:=by omega
    rw[hus,←hke,←hxe]at hOy
    have Y:bits .andNot .u64 (x:Int) 1=((Gh x:Nat):Int):=by
     have:=Pj (a:=x) (b:=1);rw[ae hx64]at this;exact this
    have hcl:Gh x<18446744073709551616:=by unfold Gh;omega
    have Z:bits .and .u64 ((Gh x:Nat):Int) (no:Int)=((Gh x&&&no:Nat):Int):=KK hcl hno
    conv=>whnf
    repeat'((first|apply st|(apply sq;intro K U)|(apply si;intro A B Y Z)|(apply Y;clear Z B Y A)|(apply U;clear U K)|refine⟨rfl,?_⟩|(constructor<;>intro hc<;>(try rw[hc])<;>(replace hc:=bp hc)<;>(try simp(disch:=omega) only[BQ,wrap64,AL]at hc)<;>try(exfalso;omega))|clear U K)<;>conv=>whnf)
    rw[Y,Z];refine AP ⟨_,⟨?_,_,got.ext.trans ⟨new,by simp,hnew⟩,hinv,rfl⟩,fH hs⟩;rw[hOy]
    have hz:(((Gh x&&&no:Nat):Int)==0)=(Gh x&&&no==0):=by
     rw[Kk,Dn,Dn];omega
    rw[←hz]
def lE (w:AK) (hw:CE w) {kf:Int→List Int→Kn} (hr:H8 w kf) (a:Int): ∀(d:Nat) (p:List Int),p.length+d=2→ ∀(L:Nat) (es:List Cz),Dq kf es→
    Bd Tryz.prog 260 [RC w (B0 w.parents) L,EL a p] (B3 L es) fun r post=>r= .ret (.b (L4 w kf a d p))∧Mi kf L es post:=by
 intro d
 induction d with
 | zero=>
   intro p hp L es h σ hs;have hint:=N1 w (B0 w.parents) hr h (L:=L) (a:=a) (p:=p) (by omega);have hnone:=fun es h=>VZ w (B0 w.parents) hr (es:=es) h (L:=L) (a:=a) (p:=p) (by omega)
   have hobj:=fun es h=>PG w hw hr (a:=a) (p:=p) (by omega) (fun _=>false) (by rw[hr.short a p (by omega)];intro s hs;cases hs) (L:=L) (es:=es) h
   rw[L4];cases hI:P4 kf a p<;>cases hN:Jj kf a p<;>rw[hI]at hint<;>rw[hN]at hnone
   all_goals
    refine Yu kZ ?_
    conv=>whnf
    repeat'((first|apply st|(apply sq;intro K U)|(apply si;intro A B Y Z)|(apply Y;clear Z B Y A)|(apply U;clear U K)|refine⟨kZ,?_⟩|fail)<;>conv=>whnf)
    refine hint.use (rest:=[]) (by simpa using hs) ?_;clear hs;rintro r post σ ⟨rfl,es2,hx2,hi2,rfl⟩ hs;rw[Hs]at hs
    conv=>whnf
    repeat'((first|apply st|(apply sq;intro K U)|(apply si;intro A B Y Z)|(apply Y;clear Z B Y A)|(apply U;clear U K)|refine⟨kZ,?_⟩|clear U K)<;>conv=>whnf)
   rotate_left 2
   ·exact AP ⟨_,⟨rfl,es2,hx2,hi2,rfl⟩,hs⟩
   ·exact AP ⟨_,⟨rfl,es2,hx2,hi2,rfl⟩,hs⟩
   all_goals
    refine(hnone es2 hi2).use (rest:=[]) (by simpa using hs) ?_;clear hs;rintro r post σ ⟨rfl,es3,hx3,hi3,rfl⟩ hs;rw[Hs]at hs
    conv=>whnf
    repeat'((first|apply st|(apply sq;intro K U)|(apply si;intro A B Y Z)|(apply Y;clear Z B Y A)|(apply U;clear U K)|refine⟨kZ,?_⟩|refine E7 ?_|refine EA ?_|clear U K)<;>conv=>whnf)
   rotate_left 1
   ·exact AP ⟨_,⟨rfl,es3,hx2.trans hx3,hi3,rfl⟩,hs⟩
   ·refine(hobj es3 hi3).use (rest:=[]) (by simpa using hs) ?_
    clear hs;rintro r post σ ⟨rfl,es4,hx4,hi4,rfl⟩ hs;rw[Hs]at hs
    conv=>whnf
    repeat'((first|apply st|(apply sq;intro K U)|(apply si;intro A B Y Z)|(apply Y;clear Z B Y A)|(apply U;clear U K)|fail)<;>conv=>whnf)
    exact AP ⟨_,⟨rfl,es4,(hx2.trans hx3).trans hx4,hi4,rfl⟩,hs⟩
 | succ d ih=>
   intro p hp L es h σ hs;have hint:=N1 w (B0 w.parents) hr h (L:=L) (a:=a) (p:=p) (by omega);have hnone:=fun es h=>VZ w (B0 w.parents) hr (es:=es) h (L:=L) (a:=a) (p:=p) (by omega)
   have hobj:=fun es h=>PG w hw hr (a:=a) (p:=p) (by omega) (fun s=>L4 w kf a d (p++[s])) (fun s hs L es h=>ih (p++[s]) (by simp;omega) L es h) (L:=L) (es:=es) h
   rw[L4];cases hI:P4 kf a p<;>cases hN:Jj kf a p<;>rw[hI]at hint<;>rw[hN]at hnone
   all_goals
    refine Yu kZ ?_
    conv=>whnf
    repeat'((first|apply st|(apply sq;intro K U)|(apply si;intro A B Y Z)|(apply Y;clear Z B Y A)|(apply U;clear U K)|refine⟨kZ,?_⟩|fail)<;>conv=>whnf)
    refine hint.use (rest:=[]) (by simpa using hs) ?_;clear hs;rintro r post σ ⟨rfl,es2,hx2,hi2,rfl⟩ hs;rw[Hs]at hs
    conv=>whnf
    repeat'((first|apply st|(apply sq;intro K U)|(apply si;intro A B Y Z)|(apply Y;clear Z B Y A)|(apply U;clear U K)|refine⟨kZ,?_⟩|clear U K)<;>conv=>whnf)
   rotate_left 2
   ·exact AP ⟨_,⟨rfl,es2,hx2,hi2,rfl⟩,hs⟩
   ·exact AP ⟨_,⟨rfl,es2,hx2,hi2,rfl⟩,hs⟩
   all_goals
    refine(hnone es2 hi2).use (rest:=[]) (by simpa using hs) ?_;clear hs;rintro r post σ ⟨rfl,es3,hx3,hi3,rfl⟩ hs;rw[Hs]at hs
    conv=>whnf
    repeat'((first|apply st|(apply sq;intro K U)|(apply si;intro A B Y Z)|(apply Y;clear Z B Y A)|(apply U;clear U K)|refine⟨kZ,?_⟩|refine E7 ?_|refine EA ?_|clear U K)<;>conv=>whnf)
   rotate_left 1
   ·exact AP ⟨_,⟨rfl,es3,hx2.trans hx3,hi3,rfl⟩,hs⟩
   ·refine(hobj es3 hi3).use (rest:=[]) (by simpa using hs) ?_
    clear hs;rintro r post σ ⟨rfl,es4,hx4,hi4,rfl⟩ hs;rw[Hs]at hs
    conv=>whnf
    repeat'((first|apply st|(apply sq;intro K U)|(apply si;intro A B Y Z)|(apply Y;clear Z B Y A)|(apply U;clear U K)|fail)<;>conv=>whnf)
    exact AP ⟨_,⟨rfl,es4,(hx2.trans hx3).trans hx4,hi4,rfl⟩,hs⟩
abbrev eW:V:= .Jd 257 (.a [])
def ZS (w:AK) (hw:CE w) {kf:Int→List Int→Kn} (hr:H8 w kf) {L:Nat} {es:List Cz} (h:Dq kf es) :
    Bd Tryz.prog 231 [RC w (B0 w.parents) L] (B3 L es) fun r post=>r=(if X6 w kf then .ret (.t [])else .Cy eW)∧post= []:=by
 intro σ hs;refine iz kZ ?_
 conv=>whnf
 repeat'((first|apply st|(apply sq;intro K U)|(apply si;intro A B Y Z)|(apply Y;clear Z B Y A)|(apply U;clear U K)|fail)<;>conv=>whnf)
 refine CZ 3 (fun k (x:List Cz)=>[(3,eI (BL k))]) (fun k x=>B3 L x) (fun k x=>Dq kf x∧X6 w kf=((Bk 3).drop k).all fun a=>L4 w kf a 2 []) es rfl ⟨h,rfl⟩ hs ?_;clear hs h;rintro k es σ hk ⟨h,hn⟩ hs;have hck:BL k=k:=AL (by simp only[Ae];omega);have hl3:(Bk 3).length=3:=rfl;rcases BS (Bk 3) hk with⟨a,ha,hlt⟩|hke
 ·rw[drop_cons ha,TV]at hn
  have hak:a=BL k:=by
   rw[hck];simp only[Bk,Pw,List.getElem?_range (show k<3 from hlt),Xx]at ha;exact(Option.some.inj ha).symm
  subst hak;have hcan:=lE w hw hr (BL k) 2 [] rfl L es h;cases hC:L4 w kf (BL k) 2 []<;>rw[hC]at hcan hn
  all_goals
   conv=>whnf
   repeat'((first|apply st|(apply sq;intro K U)|(apply si;intro A B Y Z)|(apply Y;clear Z B Y A)|(apply U;clear U K)|refine⟨rfl,?_⟩|(constructor<;>intro hc<;>(try rw[hc])<;>(replace hc:=bp hc)<;>(try simp(disch:=omega) only[BQ,wrap64,AL]at hc)<;>try(exfalso;omega))|fail)<;>conv=>whnf)
   refine hcan.use (rest:=[]) (by simpa using hs) ?_;clear hs;rintro r post σ ⟨rfl,es2,hx2,hi2,rfl⟩ hs;rw[Hs]at hs
   conv=>whnf
   repeat'((first|apply st|(apply si;intro A B Y Z)|(apply Y;clear Z B Y A)|(refine Z _ _ _ ?_;clear Z B Y A)|(apply U;clear U K)|refine⟨rfl,?_⟩|refine E7 ?_|refine EA ?_|clear U K)<;>conv=>whnf)
  ·exact DG ⟨_,⟨by rw[hn];rfl,rfl⟩,hs.less (Lx _)⟩
  ·exact⟨by omega,es2,rfl,⟨hi2,by simpa using hn⟩,hs⟩
 ·rw[An hke]at hn
  conv=>whnf
  repeat'((first|apply st|(apply sq;intro K U)|(apply si;intro A B Y Z)|(apply Y;clear Z B Y A)|(apply U;clear U K)|refine⟨rfl,?_⟩|(constructor<;>intro hc<;>(try rw[hc])<;>(replace hc:=bp hc)<;>(try simp(disch:=omega) only[BQ,wrap64,AL]at hc)<;>try(exfalso;omega))|clear U K)<;>conv=>whnf)
  exact AP ⟨_,⟨by rw[hn];rfl,rfl⟩,hs.less (Lx _)⟩
def V8 {w:AK} {ls:List Fact} (hw:w.parents.length≤60) (h: ∀x∈ls,Hp w x):T0 ls:=by
 intro l hl;obtain⟨-,hc,hsm,hsh⟩:=KD h;obtain⟨-,hn,hlf⟩:=Gy (h l hl);exact⟨FX hlf,hsh l hl,fun ho=>by have:=hc l hl ho;omega,hsm l hl⟩
def gl {ls:List Fact} (h:Tk ls) (a:Int) (p:List Int): -1000000000≤(kn ls a p).low∧(kn ls a p).low≤1000000000:=by
 have key: ∀(ls:List Fact) (k:Kn),Tk ls→(-1000000000≤k.low∧k.low≤1000000000)→ -1000000000≤(ls.foldl (DA a p) k).low∧(ls.foldl (DA a p) k).low≤1000000000:=by
  intro ls
  induction ls with
  | nil=>intro k _ h;exact h
  | cons l r ih=>
    intro k hs hk;refine ih _ (fun x hx=>hs x (.tail _ hx)) ?_;have hn:=hs l (.head _);unfold DA Ci De aw
    repeat' split
    all_goals first
     | exact hk
     | exact hn
     | (simp only;exact hk)
     | (simp only;exact hn)
 exact key ls k0 h ⟨by decide,by decide⟩
def VS {w:AK} {ls:List Fact} (h: ∀x∈ls,Hp w x):HD w.owner.length ls:=by
 intro l hl s hs;obtain⟨-,hn,-⟩:=Gy (h l hl);rw[CP,BY]at hn;have:=hn.1;simp only[C1,Ea,BY,EY,Gj,CY]at this;exact this.2.2.2.2.1.1 s hs
def br {w:AK} (hw:CE w) {ls:List Fact} (h: ∀x∈ls,Hp w x) (hlen:ls.length<900):H8 w (kn ls):=by
 have hadd:=V8 (by have:=hw.1.1;omega) h;obtain⟨-,-,hsm,hsh⟩:=KD h;have hp:=VS h;refine⟨fun a p=>?_,gl hsm,fun a p hpl=>?_,fun a p s hs=>?_⟩
 ·obtain⟨h1,h2,h3,h4⟩:=Yk hadd a p
  exact⟨h1,h2,by omega,by omega⟩
 ·rw[KF hp]
  exact O5 hsh hpl
 ·rw[KF hp]at hs
  exact LC hs
def fZ {w:AK} (hw:CE w) {ls:List Fact} (h: ∀x∈ls,Hp w x):X6 w (kn ls)=Il w ls:=by
 obtain⟨-,hc,-,-⟩:=KD h;refine fb ?_ (fun s h0 h1=>?_) (by have:=hw.1.1;omega) (fun l hl ho=>by have:=hc l hl ho;omega) (VS h)
 ·exact Ib hw.1
 ·obtain⟨o,ho⟩: ∃o,w.owner[s.toNat]? =some o:=⟨_,Da (by omega)⟩
  have hoI:CX w s=o:=by simp only[CX,Dc,ho];rfl
  rw[hoI];exact hw.2.2 o (Cj ho)
def dB {σ:AH} {n:Nat} {x:V} {rest:List At} (hs:Sat σ (.box n [x]::rest)) {Q:AH→Prop} (hq: ∀σ',Sat σ' (.box n [.b false]::rest)→Q σ'):L7 Tryz.prog 229 [.p n 0] (some eW) σ Q:=by
 refine Vx kZ ?_
 conv=>whnf
 repeat'((first|apply st|(apply sq;intro K U)|(apply si;intro A B Y Z)|(apply Y;clear Z B Y A)|(apply U;clear U K)|refine El fun σ hs=>?_|refine DJ fun σ hs=>?_|refine fA rfl ?_|(intro nn hnn;generalize hg:A8 _ nn _=σ;refine CW hg fun hs=>?_;clear hg)|fail)<;>conv=>whnf)
 exact hq _ (hs.less (Kh _ _))
def dC {σ:AH} {n:Nat} {x:V} {rest:List At} (hs:Sat σ (.box n [x]::rest)) {Q:AH→Prop} (hq: ∀σ',Sat σ' (.box n [x]::rest)→Q σ'):L7 Tryz.prog 229 [.p n 0] none σ Q:=by
 refine Vx kZ ?_
 conv=>whnf
 repeat'((first|apply st|(apply sq;intro K U)|(apply si;intro A B Y Z)|(apply Y;clear Z B Y A)|(apply U;clear U K)|refine⟨rfl,?_⟩|refine DJ fun σ hs=>?_|(intro nn hnn;generalize hg:A8 _ nn _=σ;refine CW hg fun hs=>?_;clear hg)|fail)<;>conv=>whnf)
 exact hq _ (hs.less (Kh _ _))
attribute [local irreducible] L7
def Sq (w:AK) (hw:CE w) (ls:List Fact) (b:Bool) (hl: ∀x∈ls,Hp w x) (hlen:ls.length<900):Pure Tryz.prog 183 [.rp (wC w (B0 w.parents)),.l (En ls) b] (.b (Il w ls)):=by
 refine Pure.of ?_;refine jf kZ ?_;have hs:=Sn
 conv=>whnf
 repeat'((first|(apply sq;intro K U)|(apply si;intro A B Y Z)|(apply Y;clear Z B Y A)|(apply U;clear U K)|(intro nn hnn;generalize hg:A8 _ nn _=σ;refine CW hg fun hs=>?_;clear hg)|fail)<;>conv=>whnf)
 refine(ZX w (B0 w.parents) ls b (V8 (by have:=hw.1.1;omega) hl) hlen).use (rest:=[.box nn [.b false]]) (by simpa using hs) ?_;clear hs;rintro r post σ ⟨L,es,rfl,hinv,rfl⟩ hs;have hwh:=ZS w hw (br hw hl hlen) hinv (L:=L);rw[fZ hw hl]at hwh;cases ht:Il w ls<;>rw[ht]at hwh
 all_goals
  conv=>whnf
  refine hwh.use (rest:=[.box nn [.b false]]) hs ?_;clear hs;rintro r post σ ⟨rfl,rfl⟩ hs
  conv=>whnf
  repeat'((first|apply st|(apply sq;intro K U)|(apply si;intro A B Y Z)|(apply Y;clear Z B Y A)|(refine Z _ _ _ ?_;clear Z B Y A)|(apply U;clear U K)|refine El fun σ hs=>?_|clear U K)<;>conv=>whnf)
 ·refine dB (rest:=[]) hs fun σ hs=>?_
  conv=>whnf
  repeat'((first|refine ld ?_|fail)<;>conv=>whnf)
  exact AP (by rw[ht];rfl)
 ·refine dC (rest:=[]) (x:= .b true) hs fun σ hs=>?_
  conv=>whnf
  repeat'((first|refine ld ?_|fail)<;>conv=>whnf)
  exact AP (by rw[ht];rfl)
end Go.Gl
namespace Go.Gl
open Go.Proofs
attribute [local irreducible] BC Ax Ai AU AO Ag AV AW AM Af AR AT A0 A9 Sat Ab A6 Ak W
def Q5 {α S:Type} (stp:α→S→Bool×S) (D:α→S→Prop):List α→S→Prop
 | [],_=>True
 | y::r,s=>D y s∧((stp y s).1=true→Q5 stp D r (stp y s).2)
section
variable {α β S:Type} {stp:α→S→Bool×S} {D:α→S→Prop}
def NU: ∀(A B:List α) (s:S),Ca stp (A++B) s=if(Ca stp A s).1 then Ca stp B (Ca stp A s).2 else(false,(Ca stp A s).2)
 | [],B,s=>by simp[Ca]
 | y::r,B,s=>by
   rw[List.cons_append,Ca,Ca];cases(stp y s).1
   ·rfl
   ·simpa using NU r B (stp y s).2
def Sg (l:α) (s:S):Ca stp [l] s=stp l s:=by
 rw[Ca,Ca];rcases stp l s with⟨b,s'⟩;cases b<;>rfl
def QS: ∀ {A B:List α} {s:S},Q5 stp D (A++B) s→Q5 stp D A s∧((Ca stp A s).1=true→Q5 stp D B (Ca stp A s).2)
 | [],B,s,h=>⟨trivial,fun _=>h⟩
 | y ::r,B,s,h=>by
   obtain⟨h1,h2⟩:=h;rw[Q5,Ca];cases hy:(stp y s).1
   ·exact⟨⟨h1,fun h=>(by cases h)⟩,fun h=>(by simp at h)⟩
   ·obtain⟨h3,h4⟩:=QS (h2 hy)
    exact⟨⟨h1,fun _=>h3⟩,by simpa using h4⟩
def MJ {A:List α}: ∀ {B:List α} {s:S},(∀y∈B,y∈A)→Q5 stp D B s→Q5 stp (fun y s=>y∈A∧D y s) B s
 | [],_,_,_=>trivial
 | y::r,_,hm,h=>⟨⟨hm y (.head _),h.1⟩,fun hy=>MJ (fun z hz=>hm z (.tail _ hz)) (h.2 hy)⟩
def VV {g:β→α}: ∀ {B:List β} {s:S},Q5 stp D (B.map g) s→Q5 (fun b s=>stp (g b) s) (fun b s=>D (g b) s) B s
 | [],_,_=>trivial
 | y::r,_,h=>⟨h.1,fun hy=>VV (h.2 hy)⟩
end
section
variable {S:Type} {stp:List Fact→S→Bool×S} {D:List Fact→S→Prop}
def Pp (B:List (List Fact)): ∀(A:List (List Fact)) (s:S),Ca stp (Fl A B) s=Ca (fun x s=>Ca (fun y s=>stp (Cm x y) s) B s) A s
 | [],s=>rfl
 | x::r,s=>by
   have ih:=Pp B r;rw[Fl,List.flatMap_cons,NU,KQ,Ca];simp only[Fl]at ih;rw[ih]
def SI (B:List (List Fact)): ∀ {A:List (List Fact)} {s:S},Q5 stp D (Fl A B) s→Q5 (fun x s=>Ca (fun y s=>stp (Cm x y) s) B s) (fun x s=>Q5 (fun y s=>stp (Cm x y) s) (fun y s=>D (Cm x y) s) B s) A s
 | [],_,_=>trivial
 | x::r,s,h=>by
   rw[Fl,List.flatMap_cons]at h;obtain⟨h1,h2⟩:=QS h;refine⟨VV h1,fun hy=>?_⟩;rw[KQ]at h2;exact SI B (h2 hy)
end
abbrev Td (l:List Fact) (b:Bool):V:= .l (En l) b
def Ox {S:Type} (x:V) (H:S→List At) (stp:List Fact→S→Bool×S) (D:List Fact→S→Prop):Prop:= ∀b,C2 Tryz.prog x (fun l=>Td l b) H stp D
abbrev Ra (n:Nat):V:= .f (.func 225) [] [.p n 0]
def W8 {f:Fact} (hl:Bm f=true) (c:Bool):I8 (if c then Fj f else f)=xF f++[.b c]:=by
 have:=FX hl;cases c with
 | true=>rfl
 | false=>
   have h5: ¬f.op=5:=by omega
   simp only[I8,LU,if_false,A5,if_neg h5]
def WalkC (f:Fact):Prop:= ∀(c:Bool) (S:Type) (fn:Fn) (fi ca:List V) (H:S→List At) (stp:List Fact→S→Bool×S) (D:List Fact→S→Prop) (nW:Nat) (s:S),
 Ox (.f fn fi ca) (fun s=> .box nW [Ra nW]::H s) stp D→Q5 stp D (Bh f c) s→ ∀σ,Sat σ (.box nW [Ra nW]::H s)→
  A0 Tryz.prog (Ra nW) [.a (xF f),.b c,.f fn fi ca] σ fun r σ'=>r= .ret (.b (Ca stp (Bh f c) s).1)∧Sat σ' (.box nW [Ra nW]::H (Ca stp (Bh f c) s).2)
def aQ {w:AK} {S:Type} {fn:Fn} {fi ca:List V} {H:S→List At} {stp:List Fact→S→Bool×S} {D:List Fact→S→Prop} (hT:Ox (.f fn fi ca) H stp D) {k0 k1:Fact} {c:Bool} (hn0:Be w k0=true) (hn1:Be w k1=true) (hv0:lv k0≤100) (hv1:lv k1≤100) {a:List Fact} (ha:a∈Bh k0 c) (fa:Bool) :
    Ox (.f (.func 227) [] [.rp [.f fn fi ca],.rp [Td a fa]]) H (fun y s=>stp (Cm a y) s) (fun y s=>y∈Bh k1 c∧D (Cm a y) s):=by
 rintro b y s ⟨hy,hd⟩ σ hs;refine Bl ?_;show BC Tryz.prog 227 ([]++[Td y b]++[.rp [.f fn fi ca],.rp [Td a fa]]) σ _;have hla:=(JV k0 (DB _ hn0) c).2 a ha;have hly:=(JV k1 (DB _ hn1) c).2 y hy;have hM:=Mx;refine jC kZ ?_
 conv=>whnf
 repeat'((first|apply st|(apply sq;intro K U)|(apply si;intro A B Y Z)|(apply Y;clear Z B Y A)|(apply U;clear U K)|apply dr|refine rk ?_ ?_|exact fun s e=>by cases e;rfl|refine Pure.use (XG (w:=w) a y fa b (FN k0 hn0 c a ha) (FN k1 hn1 c y hy) (by omega)) ?_|fail)<;>conv=>whnf)
 refine(hT false).use hd hs ?_;clear hs;intro σ hs
 conv=>whnf
 repeat'((first|apply st|(apply Y;clear Z B Y A)|(apply U;clear U K)|apply dr|fail)<;>conv=>whnf)
 exact AP ⟨rfl,hs⟩
def aR {w:AK} {S:Type} {fn:Fn} {fi ca:List V} {H:S→List At} {stp:List Fact→S→Bool×S} {D:List Fact→S→Prop} {nW:Nat} (hT:Ox (.f fn fi ca) (fun s=> .box nW [Ra nW]::H s) stp D) {f k0 k1:Fact} (hk:f.kids= [k0,k1]) {c:Bool} (hn0:Be w k0=true) (hn1:Be w k1=true) (hv0:lv k0≤100) (hv1:lv k1≤100) (hw1:WalkC k1) :
    Ox (.f (.func 226) [] [.p nW 0,.rp (xF f),.rp [.b c],.rp [.f fn fi ca]]) (fun s=> .box nW [Ra nW]::H s) (fun a s=>Ca (fun y s=>stp (Cm a y) s) (Bh k1 c) s) (fun a s=>a∈Bh k0 c∧Q5 (fun y s=>stp (Cm a y) s) (fun y s=>D (Cm a y) s) (Bh k1 c) s):=by
 rintro fa a s ⟨ha,hd⟩ σ hs;refine Bl ?_;show BC Tryz.prog 226 ([]++[Td a fa]++[.p nW 0,.rp (xF f),.rp [.b c],.rp [.f fn fi ca]]) σ _;have h1:f.kids[(1:Int).toNat]? =some k1:=by rw[hk];rfl
 refine jD kZ ?_
 conv=>whnf
 repeat'((first|apply st|(apply sq;intro K U)|(apply si;intro A B Y Z)|(apply Y;clear Z B Y A)|(apply U;clear U K)|apply dr|refine⟨kZ,?_⟩|refine L2 ?_|refine ld ?_|fail)<;>conv=>whnf)
 refine(hw1 c S _ _ _ H _ _ nW s (aQ hT hn0 hn1 hv0 hv1 ha fa) (MJ (fun y hy=>hy) hd) σ hs).mono ?_;clear hs;rintro r σ ⟨rfl,hs⟩
 conv=>whnf
 repeat'((first|apply st|(apply Y;clear Z B Y A)|(apply U;clear U K)|apply dr|fail)<;>conv=>whnf)
 exact AP ⟨rfl,hs⟩
set_option maxHeartbeats 2000000 in
def bU {w : AK} (f:Fact):Be w f=true→lv f≤100→WalkC f:=by
 induction f using Fact.ind with
 | h f ih=>
   intro hn hv c S fn fi ca H stp D nW s hT hd σ hs;have har:=DB _ hn
   have hnk: ∀k∈f.kids,Be w k=true:=by
    rw[CP,BY,EY]at hn;exact hn.2
   have hop:f.op=1∨f.op=5∨Bm f=true∨f.op=6∨f.op=7:=by
    rw[CP,BY]at hn;have h1:=hn.1;simp only[C1,RD,BY]at h1;rw[ND];simp only[BY,CY];have h2:=h1.1;split at h2
    ·omega
    ·split at h2
     ·omega
     ·simp only[FU,Dn]at h2
      omega
   refine Bl ?_;show BC Tryz.prog 225 ([]++[.a (xF f),.b c,.f fn fi ca]++[.p nW 0]) σ _;refine jE kZ ?_;rw[G9,ID]at hd;have hcs:=G9 f c;rw[ID]at hcs;rcases hop with h1|h5|hl|h67
   ·rw[if_pos h1]at hd hcs
    rw[hcs];cases c
    ·rw[if_neg (by decide)]at hd ⊢
     rw[Sg]
     conv=>whnf
     repeat'((first|apply st|(apply sq;intro K U)|(apply si;intro A B Y Z)|(apply Y;clear Z B Y A)|(apply U;clear U K)|refine⟨rfl,?_⟩|(constructor<;>intro hc<;>(try rw[hc])<;>(replace hc:=bp hc)<;>try(exfalso;omega))|fail)<;>conv=>whnf)
     refine(hT true).use (y:=[]) hd.1 hs ?_;clear hs;intro σ hs
     conv=>whnf
     repeat'((first|apply st|(apply Y;clear Z B Y A)|(apply U;clear U K)|clear U K)<;>conv=>whnf)
     exact AP ⟨rfl,hs⟩
    ·rw[if_pos rfl]at hd ⊢
     conv=>whnf
     repeat'((first|apply st|(apply sq;intro K U)|(apply si;intro A B Y Z)|(apply Y;clear Z B Y A)|(apply U;clear U K)|refine⟨rfl,?_⟩|(constructor<;>intro hc<;>(try rw[hc])<;>(replace hc:=bp hc)<;>try(exfalso;omega))|clear U K)<;>conv=>whnf)
     exact AP ⟨rfl,hs⟩
   ·obtain⟨k,hk,-⟩:=IW har h5
    have hkm:k∈f.kids:=by rw[hk];exact .head _
    have hvk:lv k≤100:=by
     rw[Mh,az,if_pos h5,hk]at hv;exact hv
    rw[if_neg (by omega),if_pos h5,hk]at hd hcs;have hcs2:Bh f c=Bh k (!c):=hcs;have h0:f.kids[(0:Int).toNat]? =some k:=by rw[hk];rfl
    rw[hcs2]
    conv=>whnf
    repeat'((first|apply st|(apply sq;intro K U)|(apply si;intro A B Y Z)|(apply Y;clear Z B Y A)|(apply U;clear U K)|apply dr|refine⟨rfl,?_⟩|refine⟨kZ,?_⟩|refine L2 ?_|refine ld ?_|(constructor<;>intro hc<;>(try rw[hc])<;>(replace hc:=bp hc)<;>try(exfalso;omega))|fail)<;>conv=>whnf)
    refine(ih k hkm (hnk k hkm) hvk (!c) S _ _ _ H stp D nW s hT hd σ hs).mono ?_;clear hs;rintro r σ ⟨rfl,hs⟩
    conv=>whnf
    repeat'((first|apply st|(apply Y;clear Z B Y A)|(apply U;clear U K)|apply dr|clear U K)<;>conv=>whnf)
    exact AP ⟨rfl,hs⟩
   ·have hlo:=FX hl
    have hlB:=ML f;rw[hl]at hlB;rw[if_neg (by omega),if_neg (by omega),if_neg (by omega)]at hd hcs;have hcs2:Bh f c= [[if c then Fj f else f]]:=by rw[hcs];cases c<;>rfl
    rw[←hcs,hcs2]at hd;rw[hcs2,Sg]
    have e:Td [if c then Fj f else f] true= .l [xF f++[.b c]] true:=by
     show V.l [I8 (if c then Fj f else f)] true=_;rw[W8 hl]
    have hst:=(hT true) [if c then Fj f else f] s hd.1;simp only[e]at hst
    conv=>whnf
    repeat'((first|apply st|(apply sq;intro K U)|(apply si;intro A B Y Z)|(apply Y;clear Z B Y A)|(apply U;clear U K)|refine⟨rfl,?_⟩|refine⟨kZ,?_⟩|refine hlB.use ?_|(constructor<;>intro hc<;>(try rw[hc])<;>(replace hc:=bp hc)<;>try(exfalso;omega))|fail)<;>conv=>whnf)
    refine(hst σ hs).mono ?_;clear hs;rintro r σ ⟨rfl,hs⟩
    conv=>whnf
    repeat'((first|apply st|(apply Y;clear Z B Y A)|(apply U;clear U K)|clear U K)<;>conv=>whnf)
    exact AP ⟨rfl,hs⟩
   ·obtain⟨k0,k1,hk,-,-⟩:=IV har h67
    have hkm0:k0∈f.kids:=by rw[hk];exact .head _
    have hkm1:k1∈f.kids:=by rw[hk];exact .tail _ (.head _)
    have hlf:Bm f=false:=by rw[ND,decide_eq_false (show¬f.op≤4 by omega),Bool.and_false]
    have hlB:=ML f;rw[hlf]at hlB
    have hvk:lv k0+lv k1≤100:=by
     rw[Mh,az,if_neg (by omega),if_pos h67,hk]at hv;exact hv
    rw[if_neg (by omega),if_neg (by omega),if_pos h67,hk]at hd hcs;have h0:f.kids[(0:Int).toNat]? =some k0:=by rw[hk];rfl
    have h1:f.kids[(1:Int).toNat]? =some k1:=by rw[hk];rfl
    have i0:=ih k0 hkm0 (hnk k0 hkm0) (by omega);have i1:=ih k1 hkm1 (hnk k1 hkm1) (by omega);by_cases hap:(c != (f.op==7))=true
    ·rw [if_pos hap]at hd hcs
     have hcs2:Bh f c=Bh k0 c++Bh k1 c:=hcs;have hd2:Q5 stp D (Bh k0 c++Bh k1 c) s:=hd;obtain⟨hd3,hd4⟩:=QS hd2;rw[hcs2,NU];clear hcs hcs2 hd hd2;rcases h67 with h6|h7
     ·have h6b:(f.op==6)=true:=by rw[h6];rfl
      have hct:c=true:=by rw[h6]at hap;cases c<;>simp_all
      subst hct
      conv=>whnf
      repeat'((first|apply st|(apply sq;intro K U)|(apply si;intro A B Y Z)|(apply Y;clear Z B Y A)|(apply U;clear U K)|apply dr|refine⟨rfl,?_⟩|refine⟨kZ,?_⟩|refine L2 ?_|refine ld ?_|refine E7 ?_|refine hlB.use ?_|(rw[h6b])|(constructor<;>intro hc<;>(try rw[hc])<;>(replace hc:=bp hc)<;>try(exfalso;omega))|fail)<;>conv=>whnf)
      refine(i0 true S _ _ _ H stp D nW s hT hd3 σ hs).mono ?_;clear hs;rintro r σ ⟨rfl,hs⟩;generalize Ca stp (Bh k0 true) s=x at *;obtain⟨b1,s1⟩:=x;cases b1
      ·conv=>whnf
       repeat'((first|apply st|(apply Y;clear Z B Y A)|(apply U;clear U K)|apply dr|clear U K)<;>conv=>whnf)
       exact AP ⟨rfl,hs⟩
      ·conv=>whnf
       repeat'((first|apply st|apply dr|refine⟨kZ,?_⟩|refine L2 ?_|refine ld ?_|fail)<;>conv=>whnf)
       refine(i1 true S _ _ _ H stp D nW s1 hT (hd4 rfl) σ hs).mono ?_;clear hs;rintro r σ ⟨rfl,hs⟩
       conv=>whnf
       repeat'((first|apply st|(apply Y;clear Z B Y A)|(apply U;clear U K)|apply dr|clear U K)<;>conv=>whnf)
       exact AP ⟨rfl,hs⟩
     ·have h6b:(f.op==6)=false:=by rw[h7];rfl
      have hct:c=false:=by rw[h7]at hap;cases c<;>simp_all
      subst hct
      conv=>whnf
      repeat'((first|apply st|(apply sq;intro K U)|(apply si;intro A B Y Z)|(apply Y;clear Z B Y A)|(apply U;clear U K)|apply dr|refine⟨rfl,?_⟩|refine⟨kZ,?_⟩|refine L2 ?_|refine ld ?_|refine E7 ?_|refine hlB.use ?_|(rw[h6b])|(constructor<;>intro hc<;>(try rw[hc])<;>(replace hc:=bp hc)<;>try(exfalso;omega))|fail)<;>conv=>whnf)
      refine(i0 false S _ _ _ H stp D nW s hT hd3 σ hs).mono ?_;clear hs;rintro r σ ⟨rfl,hs⟩;generalize Ca stp (Bh k0 false) s=x at *;obtain⟨b1,s1⟩:=x;cases b1
      ·conv=>whnf
       repeat'((first|apply st|(apply Y;clear Z B Y A)|(apply U;clear U K)|apply dr|clear U K)<;>conv=>whnf)
       exact AP ⟨rfl,hs⟩
      ·conv=>whnf
       repeat'((first|apply st|apply dr|refine⟨kZ,?_⟩|refine L2 ?_|refine ld ?_|fail)<;>conv=>whnf)
       refine(i1 false S _ _ _ H stp D nW s1 hT (hd4 rfl) σ hs).mono ?_;clear hs;rintro r σ ⟨rfl,hs⟩
       conv=>whnf
       repeat'((first|apply st|(apply Y;clear Z B Y A)|(apply U;clear U K)|apply dr|clear U K)<;>conv=>whnf)
       exact AP ⟨rfl,hs⟩
    ·rw[if_neg hap]at hd hcs
     have hcs2:Bh f c=Fl (Bh k0 c) (Bh k1 c):=hcs;have hd2:Q5 stp D (Fl (Bh k0 c) (Bh k1 c)) s:=hd;have hd3:=SI _ hd2;have hT2:=aR hT hk (c:=c) (hnk k0 hkm0) (hnk k1 hkm1) (by omega) (by omega) i1;rw[hcs2,Pp];clear hcs hcs2 hd hd2;rcases h67 with h6|h7
     ·have h6b:(f.op==6)=true:=by rw[h6];rfl
      have hct:c=false:=by rw[h6]at hap;cases c<;>simp_all
      subst hct
      conv=>whnf
      repeat'((first|apply st|(apply sq;intro K U)|(apply si;intro A B Y Z)|(apply Y;clear Z B Y A)|(apply U;clear U K)|apply dr|refine⟨rfl,?_⟩|refine⟨kZ,?_⟩|refine L2 ?_|refine ld ?_|refine EA ?_|refine hlB.use ?_|(rw[h6b])|(constructor<;>intro hc<;>(try rw[hc])<;>(replace hc:=bp hc)<;>try(exfalso;omega))|fail)<;>conv=>whnf)
      refine(i0 false S _ _ _ H _ _ nW s hT2 (MJ (fun y hy=>hy) hd3) σ hs).mono ?_;clear hs;rintro r σ ⟨rfl,hs⟩
      conv=>whnf
      repeat'((first|apply st|(apply Y;clear Z B Y A)|(apply U;clear U K)|apply dr|fail)<;>conv=>whnf)
      exact AP ⟨rfl,hs⟩
     ·have h6b:(f.op==6)=false:=by rw[h7];rfl
      have hct:c=true:=by rw[h7]at hap;cases c<;>simp_all
      subst hct
      conv=>whnf
      repeat'((first|apply st|(apply sq;intro K U)|(apply si;intro A B Y Z)|(apply Y;clear Z B Y A)|(apply U;clear U K)|apply dr|refine⟨rfl,?_⟩|refine⟨kZ,?_⟩|refine L2 ?_|refine ld ?_|refine EA ?_|refine hlB.use ?_|(rw[h6b])|(constructor<;>intro hc<;>(try rw[hc])<;>(replace hc:=bp hc)<;>try(exfalso;omega))|fail)<;>conv=>whnf)
      refine(i0 true S _ _ _ H _ _ nW s hT2 (MJ (fun y hy=>hy) hd3) σ hs).mono ?_;clear hs;rintro r σ ⟨rfl,hs⟩
      conv=>whnf
      repeat'((first|apply st|(apply Y;clear Z B Y A)|(apply U;clear U K)|apply dr|fail)<;>conv=>whnf)
      exact AP ⟨rfl,hs⟩
def gw {w:AK} (f:Fact) (hn:Be w f=true) (hv:lv f≤100) (c:Bool) {S:Type} {fn:Fn} {fi ca:List V} {H:S→List At} {stp:List Fact→S→Bool×S} {D:List Fact→S→Prop} {s:S} (hT: ∀nW,Ox (.f fn fi ca) (fun s=> .box nW [Ra nW]::H s) stp D) (hd:Q5 stp D (Bh f c) s) (σ:AH) (hs:Sat σ (H s)) :
    BC Tryz.prog 224 [.f fn fi ca,.rp (xF f),.rp [.b c]] σ fun r σ'=>r= .ret (.t [])∧Sat σ' (H (Ca stp (Bh f c) s).2):=by
 refine jF kZ ?_
 conv=>whnf
 repeat'((first|apply st|(apply sq;intro K U)|(apply si;intro A B Y Z)|(apply Y;clear Z B Y A)|(apply U;clear U K)|refine⟨kZ,?_⟩|refine ld ?_|refine El fun σ hs=>?_|(intro nn hnn;generalize hg:A8 _ nn _=σ;refine CW hg fun hs=>?_;clear hg)|fail)<;>conv=>whnf)
 refine(bU f hn hv c S fn fi ca H stp D nn s (hT nn) hd σ hs).mono ?_;clear hs;rintro r σ ⟨rfl,hs⟩
 conv=>whnf
 repeat'((first|(apply Y;clear Z B Y A)|fail)<;>conv=>whnf)
 exact AP ⟨rfl,hs.less (Kh _ _)⟩
def aS (f:Fact) (c:Bool):Pure Tryz.prog 182 [.a (xF f),.b c] (.f (.func 224) [] [.rp (xF f),.rp [.b c]]):=by
 refine jg kZ ?_;have hs:=Sn
 conv=>whnf
 repeat'((first|apply st|(apply sq;intro K U)|(apply si;intro A B Y Z)|(apply Y;clear Z B Y A)|(apply U;clear U K)|fail)<;>conv=>whnf)
 all_goals exact AI rfl
abbrev MV (w:AK) (l:List Fact) (s:Bool):Bool×Bool:=if Il w l then(false,true)else(true,s)
def Sh {w:AK}: ∀(cs:List (List Fact)),Ca (MV w) cs false=(!cs.any (Il w),cs.any (Il w))
 | []=>rfl
 | l::r=>by
   rw[Ca,Q7];simp only[MV];cases h:Il w l
   ·simpa using Sh r
   ·rfl
def VW {w:AK} {AD:List Fact→Prop}: ∀ {cs:List (List Fact)},(∀l∈cs,AD l)→Q5 (MV w) (fun l s=>s=false∧AD l) cs false
 | [],_=>trivial
 | l ::r,h=>⟨⟨rfl,h l (.head _)⟩,fun hy=>by
     cases ht:Il w l
     ·have e:(MV w l false).2=false:=by simp[MV,ht]
      rw[e];exact VW fun x hx=>h x (.tail _ hx)
     ·simp[MV,ht]at hy⟩
abbrev lM (w:AK) (L:Nat) (E:Env) (ok:FuncId→Array Tmp→Code→Code→Nat→Prop) (nF:Nat):Prop:=
 K6 Tryz.prog L E ok (fun(x:List Fact×Bool)=>[Td x.1 x.2]) (fun s:Bool=>[.box nF [.b s]]) (fun _=>True) (fun x s=>if Il w x.1 then .stop (.exit 0) true else .go s) (fun x s=>s=false∧(∀y∈x.1,Hp w y)∧x.1.length<900)
def cq {w:AK} (f:Fact) (hn:Be w f=true) (hv:lv f≤100) {L:Nat} {E:Env} {ok:FuncId→Array Tmp→Code→Code→Nat→Prop} {nF:Nat} (hY:lM w L E ok nF) (σ:AH) (hs:Sat σ [.obj L (.loop .ready E ok),.box nF [.b false]]) :
    BC Tryz.prog 224 [.f (.yield L) [] [],.rp (xF f),.rp [.b false]] σ fun r σ'=>r= .ret (.t [])∧Sat σ' [.obj L (.loop (if Ta w f then .exit 0 else .ready) E ok),.box nF [.b (Ta w f)]]:=by
 have hg:=gw f hn hv false (fn:= .yield L) (fi:=[]) (ca:=[]) (H:=fun s:Bool=>[.obj L (.loop (if s then .exit 0 else .ready) E ok),.box nF [.b s]]) (stp:=MV w) (D:=fun l s=>s=false∧(∀y∈l,Hp w y)∧l.length<900) (s:=false) (by
  rintro nW b l s ⟨rfl,hl,hlen⟩ σ hs;refine hY.use (y:=(l,b)) (s:=false) ⟨rfl,hl,hlen⟩ (rest:=[.box nW [Ra nW]]) (hs.perm (HZ _ _ _ _)) ?_;intro r σ' hq;cases ht:Il w l
  ·simp only[ht,LU,if_false]at hq
   obtain⟨rfl,hs'⟩:=hq;have e:MV w l false=(true,false):=by simp[MV,ht]
   rw[e];exact⟨rfl,hs'.perm (HZ _ _ _ _).symm⟩
  ·simp only[ht,if_true]at hq
   obtain⟨rfl,hs'⟩:=hq;have e:MV w l false=(false,true):=by simp[MV,ht]
   rw[e]
   exact⟨rfl,hs'.perm (HZ _ _ _ _).symm⟩) (VW fun l hl=>⟨FN f hn false l hl,by have:=(JV f (DB _ hn) false).2 l hl;omega⟩) σ hs
 rw[Sh]at hg;exact hg
def lF (w:AK) (hw:CE w) (f:Fact) (hn:Be w f=true) (hv:lv f≤100):Pure Tryz.prog 141 [.rp (wC w (B0 w.parents)),.a (xF f)] (.b (Ta w f)):=by
 refine Pure.of ?_;refine kH kZ ?_;have hs:=Sn
 conv=>whnf
 repeat'((first|apply st|(apply sq;intro K U)|(apply si;intro A B Y Z)|(apply Y;clear Z B Y A)|(apply U;clear U K)|refine⟨kZ,?_⟩|refine El fun σ hs=>?_|refine Pure.use (aS _ _) ?_|(intro nn hnn;generalize hg:A8 _ nn _=σ;refine CW hg fun hs=>?_;clear hg)|fail)<;>conv=>whnf)
 rename_i _ nF hnF _ _ _ _;refine BC.mono (cq (w:=w) f hn hv (L:=nn) (nF:=nF) ?_ σ hs) ?_
 ·refine Lj (fun y=>rfl) ?_
  clear hs hnn hnF;rintro⟨l,b⟩ s ⟨rfl,hl,hlen⟩ rest σ hs;dsimp only at hl hlen;have htg:=Sq w hw l b hl hlen;dsimp only;cases ht:Il w l<;>rw[ht]at htg
  ·conv=>whnf
   repeat'((first|apply st|(apply sq;intro K U)|(apply si;intro A B Y Z)|(apply Y;clear Z B Y A)|(apply U;clear U K)|refine htg.use ?_|clear U K)<;>conv=>whnf)
   intro hn;exact SD (H:=fun s:Bool=>[.box nF [.b s]]) (J:=fun _=>True) (s:=false) rfl hs hn
  ·conv=>whnf
   repeat'((first|apply st|(apply sq;intro K U)|(apply si;intro A B Y Z)|(apply Y;clear Z B Y A)|(apply U;clear U K)|refine El fun σ hs=>?_|refine htg.use ?_|clear U K)<;>conv=>whnf)
   intro hn;exact T9 (H:=fun s:Bool=>[.box nF [.b s]]) (J:=fun _=>True) (s:=true) (st:= .exit 0) rfl hs hn
 ·clear hs hnn hnF
  cases hp:Ta w f
  ·rintro r σ ⟨rfl,hs⟩
   refine FJ hs fun σ hs=>?_
   conv=>whnf
   repeat'((first|apply st|(apply sq;intro K U)|(apply si;intro A B Y Z)|(apply Y;clear Z B Y A)|(apply U;clear U K)|refine ld ?_|fail)<;>conv=>whnf)
   exact AP (by rw[hp])
  ·rintro r σ ⟨rfl,hs⟩
   refine UC hs fun σ hs=>?_
   conv=>whnf
   repeat'((first|apply st|(apply sq;intro K U)|(apply si;intro A B Y Z)|(apply Y;clear Z B Y A)|(apply U;clear U K)|refine ld ?_|fail)<;>conv=>whnf)
   exact AP (by rw[hp])
def gD (f:Fact):Pure Tryz.prog 143 [.a (xF f)] (.a (xF (Fj f))):=by
 refine kF kZ ?_;have hs:=Sn
 conv=>whnf
 repeat'((first|apply st|(apply sq;intro K U)|(apply si;intro A B Y Z)|(apply Y;clear Z B Y A)|(apply U;clear U K)|refine⟨kZ,?_⟩|refine ld ?_|refine sn fun σ hs=>?_|(intro nn hnn;generalize hg:A8 _ nn _=σ;refine al hg fun hs=>?_;clear hg)|fail)<;>conv=>whnf)
 refine Bu (.a (.cons (.refl _) (.cons (.refl _) (.cons Cg (.cons (.refl _) (.cons (.refl _) (.cons ?_ .nil)))))));refine .l (fun h=>by cases h) ?_;simp only[Fj,Fact.kids,List.map,B5];exact Ij _
def lI (f g:Fact):Pure Tryz.prog 142 [.a (xF f),.a (xF g)] (.a (xF (OX f g))):=by
 refine kG kZ ?_;have hs:=Sn
 conv=>whnf
 repeat'((first|apply st|(apply sq;intro K U)|(apply si;intro A B Y Z)|(apply Y;clear Z B Y A)|(apply U;clear U K)|refine⟨kZ,?_⟩|refine ld ?_|refine sn fun σ hs=>?_|(intro nn hnn;generalize hg:A8 _ nn _=σ;refine al hg fun hs=>?_;clear hg)|fail)<;>conv=>whnf)
 refine Bu (.a (.cons (.refl _) (.cons (.refl _) (.cons Cg (.cons (.refl _) (.cons (.refl _) (.cons ?_ .nil)))))));refine .l (fun h=>by cases h) ?_;simp only[OX,Fact.kids,List.map,B5];exact Ij _
def UQ (w:AK) (hw:CE w) (a b:Fact) (ha:Be w a=true) (hb:Be w b=true) (hl:lv a+lv b≤100):Pure Tryz.prog 110 [.rp (wC w (B0 w.parents)),.a (xF a),.a (xF b)] (.b (RU w a b)):=by
 have hcan:=lF w hw (OX a (Fj b)) (SK ha hb) (by rw[gX];exact hl);refine ku kZ ?_;have hs:=Sn
 conv=>whnf
 repeat'((first|apply st|(apply sq;intro K U)|(apply si;intro A B Y Z)|(apply Y;clear Z B Y A)|(apply U;clear U K)|apply dr|refine rk ?_ ?_|exact fun s e=>by cases e;rfl|refine⟨kZ,?_⟩|refine Pure.use (gD _) ?_|refine Pure.use (lI _ _) ?_|refine hcan.use ?_|fail)<;>conv=>whnf)
 all_goals exact AI rfl
def Pu (w:AK) (hw:CE w) (a b:Fact) (ha:CN w a=true) (hb:CN w b=true) (hna:Be w a=true) (hnb:Be w b=true) (hl:lv a+lv b≤100):Pure Tryz.prog 76 [.a (A2 w),.a (xF a),.a (xF b)] (.t [.b (RU w a b),eI 0]):=by
 have hrd: ∀f,Pure Tryz.prog 109 [.a (A2 w),.l [xF a,xF b] f] (.t [.rp (wC w (B0 w.parents)),.b true]):=fun f=>by
  have:=MG w hw [a,b] f (by simp);rw[show([a,b].all (Jk w))=true by simp[MO,ha,hb]]at this;simpa[B5]using this
 have hip:=UQ w hw a b hna hnb hl;refine nC kZ ?_;have hs:=Sn
 conv=>whnf
 repeat'((first|apply st|(apply sq;intro K U)|(apply si;intro A B Y Z)|(apply Y;clear Z B Y A)|(apply U;clear U K)|refine⟨kZ,?_⟩|refine EA ?_|refine Pure.use (hrd _) ?_|refine hip.use ?_|fail)<;>conv=>whnf)
 all_goals exact AI rfl
attribute [local irreducible] L7
def rm (p:Prog) (nO:Nat) (r:R) (post:List At):Prop:=
 match BM p with
 | some s=>r= .ret (.t [])∧ ∃v,post= [.box nO [v],.own v 1 (iL s)]
 | none=>r= .Cy Di∧ ∃v s,post= [.box nO [v],.own v 1 (iL s)]
def Wk (p:Prog) (nO:Nat):Bd Tryz.prog 162 [.rp (BU p),.p nO 0] [.box nO [.l [] true]] (rm p nO):=fun σ hs=>
 BC.mono (Zc p nO σ hs) fun r σ' hq=>by
  unfold lP at hq;unfold rm;cases h:BM p with
  | some s=>
    rw[h]at hq;obtain⟨h1,v,h2⟩:=hq;exact⟨_,⟨h1,v,rfl⟩,h2⟩
  | none=>
    rw[h]at hq;obtain⟨h1,v,s,h2⟩:=hq;exact⟨_,⟨h1,v,s,rfl⟩,h2⟩
def dD {σ:AH} {n:Nat} {x:V} {rest:List At} (hs:Sat σ (.box n [x]::rest)) {Q:AH→Prop} (hq: ∀σ',Sat σ' (.box n [.b false]::rest)→Q σ'):L7 Tryz.prog 207 [.p n 0] (some Di) σ Q:=by
 refine Vy kZ ?_
 conv=>whnf
 repeat'((first|apply st|(apply sq;intro K U)|(apply si;intro A B Y Z)|(apply Y;clear Z B Y A)|(apply U;clear U K)|refine El fun σ hs=>?_|refine DJ fun σ hs=>?_|refine EA ?_|refine fA rfl ?_|(intro nn hnn;generalize hg:A8 _ nn _=σ;refine CW hg fun hs=>?_;clear hg)|fail)<;>conv=>whnf)
 exact hq _ (hs.less (Kh _ _))
def dE {σ:AH} {n:Nat} {x:V} {rest:List At} (hs:Sat σ (.box n [x]::rest)) {Q:AH→Prop} (hq: ∀σ',Sat σ' (.box n [x]::rest)→Q σ'):L7 Tryz.prog 207 [.p n 0] none σ Q:=by
 refine Vy kZ ?_
 conv=>whnf
 repeat'((first|apply st|(apply sq;intro K U)|(apply si;intro A B Y Z)|(apply Y;clear Z B Y A)|(apply U;clear U K)|refine EA ?_|fail)<;>conv=>whnf)
 exact hq _ hs
def XR (p:Prog) (nO:Nat):Bd Tryz.prog 161 [.f (.func 162) [] [.rp (BU p),.p nO 0]] [.box nO [.l [] true]] fun r post=>r= .ret (.b (BM p).isSome)∧ ∃v s,post= [.box nO [v],.own v 1 (iL s)]∧(BM p=none∨BM p=some s):=by
 intro σ hs;refine jy kZ ?_
 conv=>whnf
 repeat'((first|(apply sq;intro K U)|(apply si;intro A B Y Z)|(apply Y;clear Z B Y A)|(apply U;clear U K)|(intro nn hnn;generalize hg:A8 _ nn _=σ;refine CW hg fun hs=>?_;clear hg)|fail)<;>conv=>whnf)
 refine Bl ?_;refine(Wk p nO).use (rest:=[.box nn [.b false]]) (hs.perm (.swap _ _ _)) ?_;clear hs hnn;rintro r post σ hq hs;unfold rm at hq;cases h:BM p with
 | none=>
   rw[h]at hq;obtain⟨rfl,v,s,rfl⟩:=hq
   conv=>whnf
   repeat'((first|(refine Z _ _ _ ?_;clear Z B Y A)|clear U K)<;>conv=>whnf)
   refine dD (rest:=[.box nO [v],.own v 1 (iL s)]) (hs.perm Q8) fun σ hs=>?_
   conv=>whnf
   repeat'((first|refine ld ?_|fail)<;>conv=>whnf)
   exact AP ⟨_,⟨by rw[h];rfl,v,s,rfl,.inl h⟩,hs.less (Kh _ _)⟩
 | some s=>
   rw[h]at hq;obtain⟨rfl,v,rfl⟩:=hq
   conv=>whnf
   repeat'((first|apply st|(apply sq;intro K U)|(apply si;intro A B Y Z)|(apply Y;clear Z B Y A)|(apply U;clear U K)|refine El fun σ hs=>?_|fail)<;>conv=>whnf)
   replace hs:Sat σ ([.box nO [v],.own v 1 (iL s)]++[.box nn [.b true]]):=hs;refine dE (x:= .b true) (rest:=[.box nO [v],.own v 1 (iL s)]) (hs.perm Q8) fun σ hs=>?_
   conv=>whnf
   repeat'((first|refine ld ?_|fail)<;>conv=>whnf)
   exact AP ⟨_,⟨by rw[h];rfl,v,s,rfl,.inr h⟩,hs.less (Kh _ _)⟩
def Zd (p:Prog):Bd Tryz.prog 137 [.a (BU p)] [] fun r post=> ∃v s,r= .ret (.t [v,.b (BM p).isSome])∧post= [.own v 1 (iL s)]∧(BM p=none∨BM p=some s):=by
 intro σ hs;refine kL kZ ?_
 conv=>whnf
 repeat'((first|(apply sq;intro K U)|(apply si;intro A B Y Z)|(apply Y;clear Z B Y A)|(apply U;clear U K)|(intro nn hnn;generalize hg:A8 _ nn _=σ;refine CW hg fun hs=>?_;clear hg)|fail)<;>conv=>whnf)
 refine(XR p nn).use (rest:=[]) (by simpa using hs) ?_;clear hs;rintro r post σ ⟨rfl,v,s,rfl,hl⟩ hs
 conv=>whnf
 repeat'((first|apply st|(apply sq;intro K U)|(apply si;intro A B Y Z)|(apply Y;clear Z B Y A)|(apply U;clear U K)|refine ld ?_|fail)<;>conv=>whnf)
 exact AP ⟨_,⟨v,s,rfl,rfl,hl⟩,hs.less (.cons _ (.cons₂ _ (Lx _)))⟩
def an (p:Prog):Pure Tryz.prog 107 [.a (BU p)] (eI (if(BM p).isSome then 0 else 2)):=by
 refine Pure.of ?_;have hz:=Zd p;cases h:(BM p).isSome<;>rw[h]at hz
 all_goals
  refine kz kZ ?_;have hs:=Sn
  conv=>whnf
  repeat'((first|apply st|(apply sq;intro K U)|(apply si;intro A B Y Z)|(apply Y;clear Z B Y A)|(apply U;clear U K)|refine⟨kZ,?_⟩|fail)<;>conv=>whnf)
  refine hz.use (rest:=[]) (by simpa using hs) ?_;clear hs;rintro r post σ ⟨v,s,rfl,rfl,-⟩ hs
  conv=>whnf
  repeat'((first|apply st|(apply sq;intro K U)|(apply si;intro A B Y Z)|(apply Y;clear Z B Y A)|(apply U;clear U K)|refine E7 ?_|refine EA ?_|clear U K)<;>conv=>whnf)
  exact AP rfl
def mO {p:Prog} (h:(BM p).isSome=true):Bp p.AN≤40:=by
 obtain⟨hh,-⟩:=EO h;simp only[Cn,BY,CY]at hh;exact(KI hh.1).2.1
def lG {p:Prog} (h:(BM p).isSome=true):p.AN.length≤10:=by
 obtain⟨hh,-⟩:=EO h;simp only[Cn,BY,CY]at hh;exact(KI hh.1).2.2
def Mk {p:Prog} (h:(BM p).isSome=true):CE (AQ p):=by
 obtain⟨hh,-⟩:=EO h;simp only[Cn,BY,CY]at hh;exact(KI hh.1).1
def dY (p:Prog):Pure Tryz.prog 71 [.a (BU p)] (if(BM p).isSome then .t [.a (A2 (AQ p)),eI 0]else .t [.a [.l [] true,.l [] true],eI 2]):=by
 have hz:=an p;have hM:=Mx;cases h:(BM p).isSome<;>rw[h]at hz
 ·simp only[LU,if_false]at hz ⊢
  refine eN kZ ?_;have hs:=Sn
  conv=>whnf
  repeat'((first|apply st|(apply sq;intro K U)|(apply si;intro A B Y Z)|(apply Y;clear Z B Y A)|(apply U;clear U K)|refine⟨rfl,?_⟩|refine⟨kZ,?_⟩|refine ld ?_|refine DJ fun σ hs=>?_|refine hz.use ?_|(constructor<;>intro hc<;>(try rw[hc])<;>(replace hc:=bp hc)<;>try(exfalso;omega))|(intro nn hnn;generalize hg:A8 _ nn _=σ;refine CW hg fun hs=>?_;clear hg)|clear U K)<;>conv=>whnf)
  all_goals exact AI rfl
 ·simp only[if_true]at hz ⊢
  have hm:=mO h;have hc10:=lG h;refine eN kZ ?_;have hs:=Sn
  conv=>whnf
  repeat'((first|apply st|(apply sq;intro K U)|(apply si;intro A B Y Z)|(apply Y;clear Z B Y A)|(apply U;clear U K)|refine⟨rfl,?_⟩|refine⟨kZ,?_⟩|refine ld ?_|refine DJ fun σ hs=>?_|refine hz.use ?_|refine Pure.use (Rt p (by omega) (by omega)) ?_|(constructor<;>intro hc<;>(try rw[hc])<;>(replace hc:=bp hc)<;>(try simp(disch:=omega) only[BQ,wrap64,AL]at hc)<;>try(exfalso;omega))|(intro nn hnn;generalize hg:A8 _ nn _=σ;refine CW hg fun hs=>?_;clear hg)|fail)<;>conv=>whnf)
  all_goals exact AI rfl
end Go.Gl
namespace Go.Gl
open Go.Proofs
attribute [local irreducible] BC Ax Ai AU AO Ag AV AW AM Af AR AT A0 A9 Sat Ab A6 Ak W
abbrev uA (p:Prog) (L:Nat):List V:=BU p++(A2 (AQ p)++[.m L])
abbrev FR (p:Prog) (L:Nat):V:= .rp (uA p L)
abbrev kM (x:Int×Int):V:= .a [eI x.1,eI x.2]
def Eu (p:Prog) (M:List (Int×Int)):List (V×V):=M.map fun x=>(kM x,.b (ES p x.1 x.2))
def Gz (p:Prog) (M:List (Int×Int)): ∀kv∈Eu p M,Bo (.a [.i64,.i64]) kv.1=true:=by
 intro kv h;obtain⟨e,_,rfl⟩:=MT.1 h;rfl
def dz (x y:Int×Int):D6 (kM x) (kM y)=(x==y):=by
 obtain⟨a,b⟩:=x;obtain⟨c,d⟩:=y;have e:D6 (kM (a,b)) (kM (c,d))=(a==c&&b==d):=by simp[D6,CC,kM]
 rw[e];rfl
def NF (p:Prog) (x:Int×Int): ∀(M:List (Int×Int)),C6 (kM x) (Eu p M)=if M.contains x then some (.b (ES p x.1 x.2))else none
 | []=>rfl
 | y ::r=>by
   rw[Eu,Et,C6,dz,List.contains_cons];cases h:x==y
   ·rw[cond_false,Bool.false_or]
    exact NF p x r
   ·rw[cond_true,Bool.true_or,if_pos rfl]
    have:x=y:=by simpa using h
    rw[this]
def Qa (p:Prog) (x:Int×Int): ∀(M:List (Int×Int)),M.contains x=false→D5 (kM x) (.b (ES p x.1 x.2)) (Eu p M)=Eu p (M++[x])
 | [],_=>rfl
 | y::r,h=>by
   rw[List.contains_cons,Bool.or_eq_false_iff]at h;have ih:=Qa p x r h.2;simp only[Eu]at ih;rw[Eu,Et,D5,dz,h.1,cond_false,ih];rfl
def Gw (p:Prog):Bd Tryz.prog 42 [.a (BU p)] [] fun r post=>if(BM p).isSome then∃L,r= .ret (FR p L)∧post= [.map L []]else r= .ret .pn∧post= []:=by
 intro σ hs;have hw:=dY p;cases h:(BM p).isSome<;>rw[h]at hw
 ·simp only[LU,if_false]at hw ⊢
  refine eT kZ ?_
  conv=>whnf
  repeat'((first|apply st|(apply sq;intro K U)|(apply si;intro A B Y Z)|(apply Y;clear Z B Y A)|(apply U;clear U K)|refine⟨rfl,?_⟩|refine⟨kZ,?_⟩|refine DJ fun σ hs=>?_|refine hw.use ?_|(constructor<;>intro hc<;>(try rw[hc])<;>(replace hc:=bp hc)<;>try(exfalso;omega))|(intro nn hnn;generalize hg:A8 _ nn _=σ;refine CW hg fun hs=>?_;clear hg)|clear U K)<;>conv=>whnf)
  exact AP ⟨_,⟨rfl,rfl⟩,hs.less (Lx _)⟩
 ·simp only[if_true]at hw ⊢
  refine eT kZ ?_
  conv=>whnf
  repeat'((first|apply st|(apply sq;intro K U)|(apply si;intro A B Y Z)|(apply Y;clear Z B Y A)|(apply U;clear U K)|refine⟨rfl,?_⟩|refine⟨kZ,?_⟩|refine ld ?_|refine DJ fun σ hs=>?_|refine hw.use ?_|(constructor<;>intro hc<;>(try rw[hc])<;>(replace hc:=bp hc)<;>(try simp(disch:=omega) only[BQ,wrap64,AL]at hc)<;>try(exfalso;omega))|(intro nn hnn;generalize hg:A8 _ nn _=σ;refine CW hg fun hs=>?_;clear hg)|fail)<;>conv=>whnf)
  exact AP ⟨_,⟨nn,rfl,rfl⟩,hs.less (.cons₂ _ (Lx _))⟩
def mW (p:Prog) (L:Nat) (m:Int):Pure Tryz.prog 73 [eI m,.rp [FR p L]] (.b (!BE p m)):=by
 refine nG kZ ?_;have hs:=Sn
 conv=>whnf
 repeat'((first|apply st|(apply sq;intro K U)|(apply si;intro A B Y Z)|(apply Y;clear Z B Y A)|(apply U;clear U K)|refine⟨rfl,?_⟩|(constructor<;>intro hc<;>(try rw[hc])<;>(replace hc:=bp hc))|fail)<;>conv=>whnf)
 ·refine AI ?_
  have e1:decide (0≤m)=true:=decide_eq_true hc;rw[BE,e1,EW,BQ];show V.b (decide (m≥(p.methods.length:Int)))=_;by_cases hl:m<(p.methods.length:Int)
  ·rw[decide_eq_true hl,decide_eq_false (by omega)];rfl
  ·rw[decide_eq_false hl,decide_eq_true (by omega)];rfl
 ·refine AI ?_
  rw[BE,decide_eq_false (by omega)];rfl
def L9 {g:FuncId} {fi ca:List V} {f:Int→Bool} {xs:List Int} (b:Bool) (h: ∀y∈xs,Pure Tryz.prog g (fi++[eI y]++ca) (.b (f y))):Pure Tryz.prog 72 [.l (iL xs) b,.f (.func g) fi ca] (.b (xs.any f)):=by
 have:=F2 g fi ca (fun _=>[]) (fun y (_:Unit)=>(f y,())) (fun y _=>y∈xs) (Nd fun y hy=>h y hy) xs b () (GW fun y hy _=>hy);rw[KJ]at this;exact Pure.of (BC.mono (this emp Sat.nil) fun r σ' ⟨post,⟨h1,h2⟩,h3⟩=>h1)
def eE (p:Prog) (L:Nat) (l:List Int) (b:Bool):Pure Tryz.prog 43 [FR p L,.l (iL l) b] (.b (l.all (BE p))):=by
 have hc:=fun b=>L9 (g:=73) (fi:=[]) (ca:=[.rp [FR p L]]) (f:=fun m=> !BE p m) (xs:=l) b fun y _=>mW p L y
 refine eS kZ ?_;have hs:=Sn
 conv=>whnf
 repeat'((first|apply st|(apply sq;intro K U)|(apply si;intro A B Y Z)|(apply Y;clear Z B Y A)|(apply U;clear U K)|refine Pure.use (hc _) ?_|fail)<;>conv=>whnf)
 all_goals exact AI (by rw[List.all_eq_not_any_not];rfl)
def Yn (l:List Int) (b:Bool):Pure Tryz.prog 43 [.pn,.l (iL l) b] (.b false):=by
 refine eS kZ ?_;have hs:=Sn
 conv=>whnf
 repeat'((first|apply st|(apply sq;intro K U)|(apply si;intro A B Y Z)|(apply Y;clear Z B Y A)|(apply U;clear U K)|refine EA ?_|fail)<;>conv=>whnf)
 all_goals exact AI rfl
def MR (p:Prog) (L:Nat) (m n:Int) (hm:BE p m=true) (hn:BE p n=true):Pure Tryz.prog 44 [FR p L,eI m,eI n] (.b (Cw p m n)):=by
 refine Pure.fit (by kernel_rfl) fun hf=>?_
 have hxm:=CQ hm;have hxn:=CQ hn;simp only[BE,BY,CY]at hm hn;refine nY kZ ?_;have hs:=Sn
 conv=>whnf
 repeat'((first|apply st|(apply sq;intro K U)|(apply si;intro A B Y Z)|(apply Y;clear Z B Y A)|(apply U;clear U K)|apply dr|refine rk ?_ ?_|exact fun s e=>by cases e;rfl|refine⟨rfl,?_⟩|refine⟨kZ,?_⟩|refine F8 ?_|refine ld ?_|refine DJ fun σ hs=>?_|(constructor<;>intro hc<;>(try rw[hc])<;>(replace hc:=bp hc))|(intro nn hnn;generalize hg:A8 _ nn _=σ;refine CW hg fun hs=>?_;clear hg)|fail)<;>conv=>whnf)
 all_goals exact AI (by simp[Cw, *])
set_option maxHeartbeats 1000000 in
def PQ (p:Prog) (L:Nat) (m n:Int) (hk:EC p) (hgw:CE (AQ p)) (hfm: ∀x∈p.methods,CN (AQ p) x.fact=true) (hm:BE p m=true) (hn:BE p n=true) (M:List (Int×Int)) :
    Bd Tryz.prog 54 [FR p L,eI m,eI n] [.map L (Eu p M)] fun r post=>r= .ret (.b (ES p m n))∧ ∃M',post= [.map L (Eu p M')]:=by
 intro σ hs;have hxm:=CQ hm;have hxn:=CQ hn;have hmm:=Cj hxm;have hmn:=Cj hxn;have hip:=Pu (AQ p) hgw (BI p m).fact (BI p n).fact (hfm _ hmm) (hfm _ hmn) (hk.facts _ hmm).1 (hk.facts _ hmn).1 (by have:=(hk.facts _ hmm).2;have:=(hk.facts _ hmn).2;omega);simp only[BE,BY,CY]at hm hn;have hfd:=NF p (m,n) M;refine eP kZ ?_;cases hc:M.contains (m,n)
 ·rw[hc,if_neg (by decide)]at hfd
  conv=>whnf
  repeat'((first|apply st|(apply sq;intro K U)|(apply si;intro A B Y Z)|(apply Y;clear Z B Y A)|(apply U;clear U K)|apply dr|refine⟨kZ,?_⟩|refine F8 ?_|refine ld ?_|refine DJ fun σ hs=>?_|refine E7 ?_|refine K3 hs 1 rfl rfl (Gz _ _) hfd ?_|refine HL hs 1 rfl rfl (Gz _ _) fun σ hs=>?_|refine hip.use ?_|(intro nn hnn;generalize hg:A8 _ nn _=σ;refine CW hg fun hs=>?_;clear hg)|fail)<;>conv=>whnf)
  replace hs:Sat σ [.box nn [eI m,eI n],.map L (D5 (kM (m,n)) (.b (ES p m n)) (Eu p M))]:=hs;rw[Qa p (m,n) M hc]at hs;exact AP ⟨_,⟨rfl,_,rfl⟩,hs.less (Kh _ _)⟩
 ·rw[hc,if_pos rfl]at hfd
  conv=>whnf
  repeat'((first|apply st|(apply sq;intro K U)|(apply si;intro A B Y Z)|(apply Y;clear Z B Y A)|(apply U;clear U K)|apply dr|refine⟨kZ,?_⟩|refine ld ?_|refine DJ fun σ hs=>?_|refine EA ?_|refine K3 hs 1 rfl rfl (Gz _ _) hfd ?_|(intro nn hnn;generalize hg:A8 _ nn _=σ;refine CW hg fun hs=>?_;clear hg)|fail)<;>conv=>whnf)
  exact AP ⟨_,⟨rfl,M,rfl⟩,hs.less (Kh _ _)⟩
def dV (p:Prog) (L:Nat) (m n:Int) (hk:EC p) (hgw:CE (AQ p)) (hfm: ∀x∈p.methods,CN (AQ p) x.fact=true) (hm:BE p m=true) (hn:BE p n=true) (M:List (Int×Int)) :
    Bd Tryz.prog 45 [FR p L,eI m,eI n] [.map L (Eu p M)] fun r post=>r= .ret (.b (Ap p m n))∧ ∃M',post= [.map L (Eu p M')]:=by
 intro σ hs;have h1:=fun M=>PQ p L m n hk hgw hfm hm hn M
 have h2:=fun M=>PQ p L n m hk hgw hfm hn hm M
 unfold Ap;cases hb1:ES p m n<;>cases hb2:ES p n m<;>rw[hb1]at h1<;>rw[hb2]at h2
 all_goals
  refine eR kZ ?_
  conv=>whnf
  repeat'((first|(apply sq;intro K U)|(apply si;intro A B Y Z)|(apply Y;clear Z B Y A)|(apply U;clear U K)|fail)<;>conv=>whnf)
  refine(h1 M).use (rest:=[]) (by simpa using hs) ?_;clear hs;rintro r post σ ⟨rfl,M',rfl⟩ hs
  conv=>whnf
  repeat'((first|apply st|(apply Y;clear Z B Y A)|(apply U;clear U K)|fail)<;>conv=>whnf)
 ·exact AP ⟨_,⟨rfl,M',rfl⟩,hs⟩
 ·exact AP ⟨_,⟨rfl,M',rfl⟩,hs⟩
 all_goals
  refine(h2 M').use (rest:=[]) (by simpa using hs) ?_;clear hs;rintro r post σ ⟨rfl,M2,rfl⟩ hs
  conv=>whnf
  repeat'((first|apply st|(apply Y;clear Z B Y A)|(apply U;clear U K)|fail)<;>conv=>whnf)
  exact AP ⟨_,⟨rfl,M2,rfl⟩,hs⟩
def Jz {p:Prog} (h:(BM p).isSome=true): ∀x∈p.methods,CN (AQ p) x.fact=true:=fun x hx=>by
 have:=(EO h).2 x hx;simp only[MU,BY]at this;exact this.2.2.2.2.1
def Qn (p:Prog) (m n:Int):Pure Tryz.prog 12 [.a (BU p),eI m,eI n] (.t [.b (HG p m n).1,eI (HG p m n).2]):=by
 refine Pure.of ?_;have hr:=Gw p;refine nq kZ ?_;have hs:=Sn
 conv=>whnf
 repeat'((first|apply st|(apply sq;intro K U)|(apply si;intro A B Y Z)|(apply Y;clear Z B Y A)|(apply U;clear U K)|refine⟨kZ,?_⟩|fail)<;>conv=>whnf)
 refine hr.use (rest:=[]) (by simpa using hs) ?_;clear hs;cases h:(BM p).isSome
 ·have hh:=fun b=>Yn [m,n] b
  rintro r post σ ⟨rfl,rfl⟩ hs
  conv=>whnf
  repeat'((first|apply st|(apply sq;intro K U)|(apply si;intro A B Y Z)|(apply Y;clear Z B Y A)|(apply U;clear U K)|refine E7 ?_|refine Pure.use (hh _) ?_|clear U K)<;>conv=>whnf)
  exact AP (by simp[HG,h])
 ·rintro r post σ ⟨L,rfl,rfl⟩ hs
  have hh:=fun b=>eE p L [m,n] b
  have hall: [m,n].all (BE p)=(BE p m&&BE p n):=by simp
  rw[hall]at hh;cases hmn:BE p m&&BE p n<;>rw[hmn]at hh
  ·conv=>whnf
   repeat'((first|apply st|(apply sq;intro K U)|(apply si;intro A B Y Z)|(apply Y;clear Z B Y A)|(apply U;clear U K)|refine E7 ?_|refine Pure.use (hh _) ?_|clear U K)<;>conv=>whnf)
   exact AP (by simp only[HG,h,hmn];rfl)
  ·obtain⟨hm,hn⟩:=Bool.and_eq_true_iff.1 hmn
   have ha:=MR p L m n hm hn;cases hal:Cw p m n<;>rw[hal]at ha
   ·conv=>whnf
    repeat'((first|apply st|(apply sq;intro K U)|(apply si;intro A B Y Z)|(apply Y;clear Z B Y A)|(apply U;clear U K)|refine E7 ?_|refine EA ?_|refine Pure.use (hh _) ?_|refine ha.use ?_|clear U K)<;>conv=>whnf)
    exact AP (by simp only[HG,h,hmn,hal];rfl)
   ·conv=>whnf
    repeat'((first|apply st|(apply sq;intro K U)|(apply si;intro A B Y Z)|(apply Y;clear Z B Y A)|(apply U;clear U K)|refine EA ?_|refine Pure.use (hh _) ?_|refine ha.use ?_|fail)<;>conv=>whnf)
    refine(dV p L m n (look_ok h) (Mk h) (Jz h) hm hn []).use (rest:=[]) hs ?_;clear hs;rintro r post σ ⟨rfl,M,rfl⟩ hs
    conv=>whnf
    repeat'((first|apply st|(apply Y;clear Z B Y A)|(apply U;clear U K)|fail)<;>conv=>whnf)
    exact AP (by simp only[HG,h,hmn,hal];rfl)
structure WE (T:List (List Bool)) (l:List Int):Prop where
 len:T.length≤16
 sq: ∀r∈T,r.length=T.length
 ins: ∀x∈l,0≤x∧x<(T.length:Int)
 many:l.length≤16
def Lz (A:Int→Int→Bool) (l:List Int) (i k:Nat):Bool:=(List.range k).all fun j=>j==i||A (l.getD i 0) (l.getD j 0)
def M0 (A:Int→Int→Bool) (l:List Int):Option Nat:=(List.range l.length).find? fun i=>Lz A l i l.length
def WZ (A:Int→Int→Bool) (l:List Int) (i k:Nat):Lz A l i (k+1)=(Lz A l i k&&(k==i||A (l.getD i 0) (l.getD k 0))):=by
 rw[Lz,List.range_succ,List.all_append,Lz];simp
def E8 {l:List Int} {k:Nat} {x:Int} (h:l[k]? =some x):l.getD k 0=x:=by rw[Dc,h];rfl
def C7 (A:Int→Int→Bool):Nat→List Int→List Int×Bool
 | 0,_=>([],false)
 | k+1,l=>match M0 A l with
   | none=>([],!l.isEmpty)
   | some i=>(l.getD i 0::(C7 A k (l.eraseIdx i)).1,(C7 A k (l.eraseIdx i)).2)
def WE.less {T:List (List Bool)} {l:List Int} (h:WE T l) (i:Nat):WE T (l.eraseIdx i):=
 ⟨h.len,h.sq,fun x hx=>h.ins x (List.mem_of_mem_eraseIdx hx),Nat.le_trans (List.length_eraseIdx_le _ _) h.many⟩
def L3 (x:Int) (out:List Int):List Int:=out.takeWhile (fun y=>decide (y<x))++x::out.dropWhile (fun y=>decide (y<x))
def Iq (l:List Int):List Int:=l.foldl (fun out x=>L3 x out) []
def WL (A:Int→Int→Bool) (l:List Int) (i k:Nat):Bool:=(List.range k).all fun j=> !A (l.getD j 0) (l.getD i 0)
def Tc (A:Int→Int→Bool) (l:List Int):Option Nat:=(List.range l.length).find? fun i=>WL A l i l.length
def GR (A:Int→Int→Bool):Nat→List Int→List Int
 | 0,_=>[]
 | k+1,l=>l.getD ((Tc A l).getD 0) 0::GR A k (l.eraseIdx ((Tc A l).getD 0))
abbrev RW:=Nat×List Bool
def PV {l:List Int} {k:Nat} (h:k<l.length):l.getD k 0∈l:=by
 rw[Dc,Da h];exact List.getElem_mem h
structure fD (n:Nat) (R:List RW):Prop where
 len:R.length=n
 row: ∀r∈R,r.2.length=n
def fD.put {n:Nat} {R:List RW} {r:RW} (h:fD n R) {j k:Nat} {b:Bool} (hr:R[j]? =some r):fD n (R.set j (r.1,r.2.set k b)):=by
 refine⟨by rw[List.length_set];exact h.len,fun q hq=>?_⟩;rcases List.mem_or_eq_of_mem_set hq with hq|rfl
 ·exact h.row q hq
 ·rw[List.length_set];exact h.row r (Cj hr)
def find_congr {f g:Nat→Bool}: ∀ {l:List Nat},(∀x∈l,f x=g x)→l.find? f=l.find? g
 | [],_=>rfl
 | x::r,h=>by
   rw[List.find?_cons,List.find?_cons,h x (.head _),find_congr fun y hy=>h y (.tail _ hy)]
def NH {x y:Int} {out:List Int}:y∈L3 x out↔y=x∨y∈out:=by
 have h:=List.takeWhile_append_dropWhile (p:=fun y=>decide (y<x)) (l:=out);rw[L3];constructor
 ·intro hy
  rcases FQ.1 hy with hy|hy
  ·right;rw[←h];exact OO _ hy
  ·rcases Fh.1 hy with rfl|hy
   ·exact .inl rfl
   ·right;rw[←h];exact OK _ hy
 ·rintro(rfl|hy)
  ·exact OK _ (.head _)
  ·rw[←h]at hy
   rcases FQ.1 hy with hy|hy
   ·exact OO _ hy
   ·exact OK _ (.tail _ hy)
def N6: ∀(l out:List Int) (y:Int),y∈l.foldl (fun out x=>L3 x out) out↔y∈l∨y∈out
 | [],out,y=>by simp
 | x ::r,out,y=>by
   rw[List.foldl_cons,N6 r,NH,Fh];constructor
   ·rintro(h|h|h)
    ·exact .inl (.inr h)
    ·exact .inl (.inl h)
    ·exact .inr h
   ·rintro((h|h)|h)
    ·exact .inr (.inl h)
    ·exact .inl h
    ·exact .inr (.inr h)
def Wj {l:List Int} {y:Int}:y∈Iq l↔y∈l:=by rw[Iq,N6];simp
structure Mv (p:Prog) (l:List Int):Prop where
 Om: ∀x∈l,BE p x=true
 alike: ∀x∈l,∀y∈l,Cw p x y=true
 many:l.length≤16
def dc (p:Prog) (l:List Int) (kd:Bool) (x:Int):Bool:=BE p x&&((BI p x).gen==(BI p (l.getD 0 0)).gen&&(!kd||Cw p x (l.getD 0 0)))
def Gp (p:Prog) (l:List Int) (kd:Bool):Bool:=l.all (dc p l kd)&&decide l.Nodup
def XB {p:Prog} {l:List Int} {kd:Bool} {i:Nat} {x:Int} (hx:l[i]? =some x) (h:dc p l kd x=false):Gp p l kd=false:=by
 rw[Gp,Bool.and_eq_false_iff];left;rw[←Bool.not_eq_true,EY];intro h2;rw[h2 x (Cj hx)]at h;cases h
def XA {p:Prog} {l:List Int} {kd:Bool} {i k:Nat} {x:Int} (hx:l[i]? =some x) (hk:l[k]? =some x) (h:k<i):Gp p l kd=false:=by
 rw[Gp,Bool.and_eq_false_iff];right;rw[decide_eq_false_iff_not];intro h2;have hi:=(Hr.1 hx)
 have hj:=(Hr.1 hk)
 have:=(List.nodup_iff_pairwise_ne.1 h2)
 rw[List.pairwise_iff_getElem]at this;exact this k i hj.1 hi.1 h (by rw[hj.2,hi.2])
def UL {l:List Int} {i:Nat} {x:Int} (hx:l[i]? =some x) (h:(l.take i).Nodup) (hn: ∀k y,k<i→l[k]? =some y→y≠x):(l.take (i+1)).Nodup:=by
 rw[AX hx,List.nodup_append];refine⟨h,by simp,fun a ha b hb=>?_⟩;rw[Kj.1 hb];obtain⟨k,hk⟩:=List.getElem?_of_mem ha;rw[List.getElem?_take]at hk;split at hk
 ·exact hn k a (by assumption) hk
 ·cases hk
def SJ: ∀(n:Nat) (l:List Int),l.Nodup→(∀x∈l,0≤x∧x<(n:Int))→l.length≤n
 | 0,l,_,h=>by
   cases l with
   | nil=>simp
   | cons x r=>have:=h x (.head _);omega
 | n + 1,l,hn,h=>by
   have h1:=SJ n (l.erase (n:Int)) (hn.erase _) fun x hx=>by
    have hm:=(List.Nodup.mem_erase_iff hn).1 hx;have:=h x hm.2;have:=hm.1;omega
   have h2:=List.length_erase (a:=(n:Int)) (l:=l);split at h2<;>omega
def Zx {p:Prog} {l:List Int} (hok:EC p) (h:Gp p l true=true):Mv p l∧l.Nodup:=by
 rw[Gp,BY,EY,CY]at h;obtain⟨h1,h2⟩:=h
 have hm: ∀x∈l,BE p x=true∧Cw p x (l.getD 0 0)=true:=fun x hx=>by
  have:=h1 x hx;simp only[dc,BY,Bool.not_true,Bool.false_or]at this;exact⟨this.1,this.2.2⟩
 refine⟨⟨fun x hx=>(hm x hx).1,fun x hx y hy=>?_,Nat.le_trans (SJ p.methods.length l h2 fun x hx=>?_) hok.many⟩,h2⟩
 ·have a:=(hm x hx).2
  have b:=(hm y hy).2;simp only[Cw,BY,Dn]at a b ⊢;exact⟨a.1.trans b.1.symm,a.2.trans b.2.symm⟩
 ·have:=(hm x hx).1
  simp only[BE,BY,CY]at this;omega
def HM (p:Prog) (l:List Int):(List Int×Bool)×Int:=if(BM p).isSome&&Gp p l true then(C7 (Ap p) l.length l,0)else(([],false),2)
end Go.Gl
