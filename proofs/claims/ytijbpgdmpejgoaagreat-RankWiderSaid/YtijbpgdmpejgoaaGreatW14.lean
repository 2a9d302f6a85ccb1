import Derived.Test.YtijbpgdmpejgoaaGreatW13
set_option linter.all false
set_option linter.defProp false
noncomputable section
namespace Go.Gl
open Go.Proofs
attribute [local irreducible] BD Aw Ai AU AO Ah AV AW AN Ag AS AT Ay A9 Sat Ab A4 Aj W
structure IT (w:AK) (kf:Int→List Int→Kn):Prop where
 ok: ∀a p,fX 1000 (kf a p)
 low: ∀a p,-1000000000≤(kf a p).low∧(kf a p).low≤1000000000
 short: ∀a p,2≤p.length→(kf a p).AP= []
 AP: ∀a p,∀s∈(kf a p).AP,0≤s∧s<w.owner.length
abbrev Hx (L:Nat) (pre post:List C2) (e:C2) (s:List C2):List At:=
 .box e.b [eI e.k.low,eI e.k.high,e.vn,eU e.k.CV,eU e.k.GK,.b e.k.whole,.b e.k.A0,e.vs]:: .own e.vn 1 (iL e.k.no)::Gz L (pre++e::(post++s)) pre (post++s)
def nJ {σ:AH} {L:Nat} {pre post:List C2} {e:C2} {s:List C2} (h:Sat σ (B5 L (pre++e::(post++s)))):Sat σ (.own e.vs 1 (iL e.k.AP)::Hx L pre post e s):=
 (G0 (X:=[]) h).perm ((Hs _ _ _ _).symm)
def gu {σ:AH} {L:Nat} {pre post:List C2} {e:C2} {s:List C2} (h:Sat σ (.own e.vs 1 (iL e.k.AP)::Hx L pre post e s)):Sat σ (B5 L (pre++e::(post++s))):=
 EO (X:=[]) (e:=e) (e':=e) rfl rfl rfl (h.perm (Hs _ _ _ _))
def NC (kf:Int→List Int→Kn) (L:Nat) (es:List C2) (post:List At):Prop:= ∃es',O5 es es'∧Dw kf es'∧post=B5 L es'
def ed (w:AK) (us:List Nat) {kf:Int→List Int→Kn} {L:Nat} {pre post:List C2} {e:C2} {a:Int} {p:List Int} (hp:p.length<2) :
    L7 Tryz.prog (.f (.func 290) [] [.rp [Rv w us L],.rp (J0 a p)]) eI (fun s=> .own e.vs 1 (iL e.k.AP)::Hx L pre post e s) (fun y=> !(kf a (p++[y])).A0) (fun s=>Dw kf (pre++e::(post++s))∧ ∀x∈s,x.k=k0) (fun _=>True):=by
 rintro y s - ⟨hj,hj0⟩ σ hs;refine Bk ?_;show BD Tryz.prog 290 ([]++[eI y]++[.rp [Rv w us L],.rp (J0 a p)]) σ _;refine ji kZ ?_
 conv=>whnf
 repeat'((first|apply st|(apply sq;intro K U)|(apply si;intro A B Y Z)|(apply Y;clear Z B Y A)|(apply U;clear U K)|apply dr|refine rk ?_ ?_|exact fun s e=>by cases e;rfl|refine⟨kZ,?_⟩|refine Pure.use (Ml a p y hp) ?_|fail)<;>conv=>whnf)
 refine(KF w us hj (a:=a) (p:=p++[y]) (by simp;omega)).use (rest:=[]) (by simpa using gu hs) ?_;clear hs;rintro r post' σ ⟨es4,e4,got,rfl,rfl⟩ hs;have hek4:=got.k;obtain⟨new,he4,hnew⟩:=got.ext;have hinv:=got.inv;obtain⟨pre4,post4,he5⟩:=List.append_of_mem got.mem;rw[H3,he5]at hs;replace hs:=G0 (X:=[]) hs
 conv=>whnf
 repeat'((first|apply st|(apply Y;clear Z B Y A)|(apply U;clear U K)|apply dr|refine ld ?_|fail)<;>conv=>whnf)
 refine AQ ⟨by rw[hek4],s++new,⟨?_,fun x hx=>?_⟩,?_⟩
 ·rw[he4]at hinv
  simpa using hinv
 ·rcases FX.1 hx with hx|hx
  ·exact hj0 x hx
  ·exact hnew x hx
 ·have h2:=EO (X:=[]) (e:=e4) (e':=e4) rfl rfl rfl hs
  rw[←he5,he4]at h2;refine nJ ?_;simpa using h2
def ee (w:AK) (us:List Nat) {kf:Int→List Int→Kn} (hr:IT w kf) {L:Nat} {es:List C2} (h:Dw kf es) {a:Int} {p:List Int} (hp:p.length≤2) :
    Bc Tryz.prog 288 [Rv w us L,EW a p] (B5 L es) fun r post=>r= .ret (.b (NH kf a p))∧NC kf L es post:=by
 intro σ hs;have hM:=Mx;refine jk kZ ?_
 conv=>whnf
 repeat'((first|apply st|(apply sq;intro K U)|(apply si;intro A B Y Z)|(apply Y;clear Z B Y A)|(apply U;clear U K)|refine⟨kZ,?_⟩|fail)<;>conv=>whnf)
 refine(KF w us h (a:=a) (p:=p) hp).use (rest:=[]) (by simpa using hs) ?_;clear hs;rintro r post σ ⟨es4,e4,got,rfl,rfl⟩ hs;have hek:=got.k;obtain⟨pre,post,rfl⟩:=List.append_of_mem got.mem;rw[H3]at hs;replace hs:=G0 (X:=[]) hs;have hsl:=(hr.ok a p).2.2.2;have hsh:=hr.short a p;rw[←hek]at hsl hsh
 have hst:p.length<2∨e4.k.AP= []:=by
  rcases Nat.lt_or_ge p.length 2 with h'|h'
  ·exact .inl h'
  ·exact .inr (hsh h')
 have hE:NH kf a p=e4.k.AP.all fun y=> !(kf a (p++[y])).A0:=by rw[NH,hek]
 conv=>whnf
 repeat'((first|refine ld ?_|fail)<;>conv=>whnf)
 have hall:Bc Tryz.prog 177 [e4.vs,.f (.func 290) [] [.rp [Rv w us L],.rp (J0 a p)]] (.own e4.vs 1 (iL e4.k.AP)::Hx L pre post e4 []) fun r post'=>r= .ret (.b (e4.k.AP.all fun y=> !(kf a (p++[y])).A0))∧ ∃s',(Dw kf (pre++e4::(post++s'))∧ ∀x∈s',x.k=k0)∧post'= .own e4.vs 1 (iL e4.k.AP)::Hx L pre post e4 s':=by
  rcases hst with h'|h'
  ·exact W0 290 [] [.rp [Rv w us L],.rp (J0 a p)] (Hx L pre post e4) _ _ _ (ed w us h') (fun _ _=>trivial) (by omega) [] ⟨by simpa using got.inv,by simp⟩
  ·exact W0 290 [] [.rp [Rv w us L],.rp (J0 a p)] (Hx L pre post e4) _ _ (fun _=>False) (fun y s hf=>hf.elim) (fun x hx=>by rw[h']at hx;cases hx) (by omega) [] ⟨by simpa using got.inv,by simp⟩
 refine hall.use (rest:=[]) (by
  have h2:=nJ (L:=L) (pre:=pre) (post:=post) (e:=e4) (s:=[]) (by simpa using EO (X:=[]) (e:=e4) (e':=e4) rfl rfl rfl hs)
  simpa using h2) ?_
 clear hs;rintro r post' σ ⟨rfl,s',⟨hi,hn⟩,rfl⟩ hs
 conv=>whnf
 repeat'((first|apply st|(apply Y;clear Z B Y A)|(apply U;clear U K)|fail)<;>conv=>whnf)
 refine AQ ⟨_,⟨by rw[hE],pre++e4::(post++s'),got.ext.trans ⟨s',by simp,hn⟩,hi,rfl⟩,gu (by simpa using hs)⟩
def cJ {m u:Nat} (hm:m<18446744073709551616):(M6 m u=0)↔O0 m u=true:=by
 rw[Nc (by simpa using hm)];constructor
 ·intro h b hb
  have hlt:b<64:=by
   rcases Nat.lt_or_ge b 64 with h'|h'
   ·exact h'
   ·rw[Nat.testBit_lt_two_pow (Nat.lt_of_lt_of_le hm (by simpa using Nat.pow_le_pow_right (n:=2) (by decide) h'))]at hb;cases hb
  have:=N1 (a:=m) (b:=u) hlt;rw[h,Nat.zero_testBit,hb]at this;simpa using this
 ·intro h
  refine Nat.eq_of_testBit_eq fun i=>?_
  rw[Nat.zero_testBit];rcases Nat.lt_or_ge i 64 with hlt|hge
  ·rw[N1 hlt]
   cases hb:m.testBit i with
   | false=>rfl
   | true=>rw[h i hb];rfl
  ·exact Nat.testBit_lt_two_pow (Nat.lt_of_lt_of_le (RM _ _) (by simpa using Nat.pow_le_pow_right (n:=2) (by decide) hge))
def Ss (w:AK) (us:List Nat) {kf:Int→List Int→Kn} (hr:IT w kf) {L:Nat} {es:List C2} (h:Dw kf es) {a:Int} {p:List Int} (hp:p.length≤2) (c:Nat) (hc:c<64) :
    Bc Tryz.prog 284 [Rv w us L,EW a p,eI c] (B5 L es) fun r post=>r= .ret (.b (HQ kf a p c))∧NC kf L es post:=by
 intro σ hs;refine jn kZ ?_
 conv=>whnf
 repeat'((first|apply st|(apply sq;intro K U)|(apply si;intro A B Y Z)|(apply Y;clear Z B Y A)|(apply U;clear U K)|refine⟨kZ,?_⟩|fail)<;>conv=>whnf)
 refine(KF w us h (a:=a) (p:=p) hp).use (rest:=[]) (by simpa using hs) ?_;clear hs;rintro r post σ ⟨es4,e4,got,rfl,rfl⟩ hs;have hek:=got.k;obtain⟨pre,post,rfl⟩:=List.append_of_mem got.mem;rw[H3]at hs;replace hs:=G0 (X:=[]) hs;have hok:=hr.ok a p;rw[←hek]at hok;have hu:1|||2 ^ c<18446744073709551616:=J8 (by decide) (JY hc)
 have hb1:bits .andNot .u64 (e4.k.CV:Int) ((1|||2 ^ c:Nat):Int)=((M6 e4.k.CV (1|||2 ^ c):Nat):Int):=QC;have hb2:bits .and .u64 (e4.k.GK:Int) ((1|||2 ^ c:Nat):Int)=((e4.k.GK&&&(1|||2 ^ c):Nat):Int):=Kl hok.2.1 hu;have hb3:=cJ (u:=1|||2 ^ c) hok.1;have F:HQ kf a p c=(O0 e4.k.CV (1|||2 ^ c)&&(e4.k.GK&&&(1|||2 ^ c)==0&&NH kf a p)):=by rw[HQ,hek]
 conv=>whnf
 repeat'((first|apply st|(apply sq;intro K U)|(apply si;intro A B Y Z)|(apply Y;clear Z B Y A)|(apply U;clear U K)|refine⟨rfl,?_⟩|refine⟨kZ,?_⟩|refine ld ?_|refine Pure.use (Vv 1 c (by decide) hc) ?_|(constructor<;>intro hc<;>(try rw[hc])<;>(replace hc:=bp hc))|fail)<;>conv=>whnf)
 ·have h1:O0 e4.k.CV (1|||2 ^ c)=true:=hb3.1 (by omega)
  have h2:(e4.k.GK&&&(1|||2 ^ c)==0)=true:=by rw[Du];omega
  refine(ee w us hr got.inv hp).use (rest:=[]) (by simpa using EO (X:=[]) (e:=e4) (e':=e4) rfl rfl rfl hs) ?_;clear hs;rintro r post' σ ⟨rfl,es5,hx,hi,rfl⟩ hs
  conv=>whnf
  repeat'((first|apply st|(apply Y;clear Z B Y A)|(apply U;clear U K)|fail)<;>conv=>whnf)
  exact AQ ⟨_,⟨by rw[F,h1,h2];rfl,es5,got.ext.trans hx,hi,rfl⟩,by simpa using hs⟩
 ·have h2:(e4.k.GK&&&(1|||2 ^ c)==0)=false:=by rw[beq_eq_false_iff_ne];omega
  exact AQ ⟨_,⟨by rw[F,h2];simp,_,got.ext,got.inv,rfl⟩,by simpa using EO (X:=[]) (e:=e4) (e':=e4) rfl rfl rfl hs⟩
 ·have h1:O0 e4.k.CV (1|||2 ^ c)=false:=by
   rw[←Bool.not_eq_true,←hb3];omega
  exact AQ ⟨_,⟨by rw[F,h1];simp,_,got.ext,got.inv,rfl⟩,by simpa using EO (X:=[]) (e:=e4) (e':=e4) rfl rfl rfl hs⟩
def OW (w:AK) (us:List Nat) {kf:Int→List Int→Kn} (hr:IT w kf) {L:Nat} {es:List C2} (h:Dw kf es) {a:Int} {p:List Int} (hp:p.length≤2) :
    Bc Tryz.prog 278 [Rv w us L,EW a p] (B5 L es) fun r post=>r= .ret (.t [eI (JZ (kf a p)),.b (Qc kf a p)])∧NC kf L es post:=by
 intro σ hs;have hM:=Mx;refine jt kZ ?_
 conv=>whnf
 repeat'((first|apply st|(apply sq;intro K U)|(apply si;intro A B Y Z)|(apply Y;clear Z B Y A)|(apply U;clear U K)|refine⟨kZ,?_⟩|fail)<;>conv=>whnf)
 refine(KF w us h (a:=a) (p:=p) hp).use (rest:=[]) (by simpa using hs) ?_;clear hs;rintro r post σ ⟨es4,e4,got,rfl,rfl⟩ hs;have hek:=got.k;obtain⟨pre,post,rfl⟩:=List.append_of_mem got.mem;rw[H3]at hs;replace hs:=G0 (X:=[]) hs;have hok:=hr.ok a p;have hlo:=hr.low a p;rw[←hek]at hok hlo;have hno:=hok.2.2.1;have hle:=Wg e4.k.no e4.k.low;have hL:JZ (kf a p)=Gr e4.k.no (from_ e4.k.no e4.k.low) e4.k.low:=by rw[JZ,←hek];exact W4 hle (IE _)
 conv=>whnf
 repeat'((first|apply st|(apply sq;intro K U)|(apply si;intro A B Y Z)|(apply Y;clear Z B Y A)|(apply U;clear U K)|refine ld ?_|fail)<;>conv=>whnf)
 refine Gh (fun n:Int=>from_ e4.k.no n) (fun n=>[(7,eI n)]) (fun _=> .box e4.b [eI e4.k.low,eI e4.k.high,e4.vn,eU e4.k.CV,eU e4.k.GK,.b e4.k.whole,.b e4.k.A0,e4.vs]:: .own e4.vn 1 (iL e4.k.no):: .own e4.vs 1 (iL e4.k.AP)::([]++Gz L (pre++e4::post) pre post)) (fun n=> -1000000000≤n∧n+from_ e4.k.no n≤1000001000∧JZ (kf a p)=Gr e4.k.no (from_ e4.k.no n) n) e4.k.low rfl ⟨by omega,by omega,hL⟩ hs ?_;clear hs hL hle;rintro n σ ⟨hn0,hn1,hL⟩ hs;have hct2:=fun b=>Ds e4.k.no b n
 cases hcB:e4.k.no.contains n<;>rw[hcB]at hct2
 ·have hout:n∉e4.k.no:=by simpa using hcB
  rw[fO hout]at hL;have hI:Qc kf a p=(decide (n≤e4.k.high)&&HQ kf a p 1):=by rw[Qc,hL,hek]
  conv=>whnf
  repeat'((first|apply st|(apply sq;intro K U)|(apply si;intro A B Y Z)|(apply Y;clear Z B Y A)|(apply U;clear U K)|refine⟨rfl,?_⟩|refine⟨kZ,?_⟩|refine ld ?_|refine Pure.T9 (hct2 false) (.cons (hs.QU 1 rfl) (.cons (.refl _) .nil)) rfl ?_|(constructor<;>intro hc<;>(try rw[hc])<;>(replace hc:=bp hc))|clear U K)<;>conv=>whnf)
  all_goals
   have hsc:Sat σ (B5 L (pre++e4::post)):=by simpa using EO (X:=[]) (e:=e4) (e':=e4) rfl rfl rfl hs
  ·refine(Ss w us hr got.inv hp 1 (by decide)).use (rest:=[]) (by simpa using hsc) ?_
   clear hs hsc;rintro r post' σ ⟨rfl,es5,hx,hi,rfl⟩ hs
   conv=>whnf
   repeat'((first|apply st|(apply Y;clear Z B Y A)|(apply U;clear U K)|fail)<;>conv=>whnf)
   exact AQ ⟨_,⟨by rw[hL,hI,decide_eq_true (by assumption)];rfl,es5,got.ext.trans hx,hi,rfl⟩,by simpa using hs⟩
  ·exact AQ ⟨_,⟨by rw[hL,hI,decide_eq_false (by omega)];rfl,_,got.ext,got.inv,rfl⟩,hsc⟩
 ·have hin:n∈e4.k.no:=by simpa using hcB
  have hlt:=RH hin;have hwr:IntKind.i64.wrap (n+1)=n+1:=wrap64 (by omega) (by omega);obtain⟨m,hm⟩: ∃m,from_ e4.k.no n=m+1:=⟨from_ e4.k.no n - 1,by omega⟩
  have hL2:JZ (kf a p)=Gr e4.k.no (from_ e4.k.no (n+1)) (n+1):=by rw[hL,hm,mr hin];exact W4 (by omega) (IE _)
  conv=>whnf
  repeat'((first|apply st|(apply sq;intro K U)|(apply si;intro A B Y Z)|(apply Y;clear Z B Y A)|(apply U;clear U K)|refine⟨rfl,?_⟩|refine ld ?_|refine Pure.T9 (hct2 false) (.cons (hs.QU 1 rfl) (.cons (.refl _) .nil)) rfl ?_|clear U K)<;>conv=>whnf)
  exact⟨n+1,hlt,by rw[hwr];rfl,⟨by omega,by omega,hL2⟩,hs⟩
def WH (w:AK) (us:List Nat) {kf:Int→List Int→Kn} (hr:IT w kf) {L:Nat} {es:List C2} (h:Dw kf es) {a:Int} {p:List Int} (hp:p.length≤2) :
    Bc Tryz.prog 279 [Rv w us L,EW a p] (B5 L es) fun r post=>r= .ret (.b (J9 kf a p))∧NC kf L es post:=by
 intro σ hs;refine js kZ ?_
 conv=>whnf
 repeat'((first|apply st|(apply sq;intro K U)|(apply si;intro A B Y Z)|(apply Y;clear Z B Y A)|(apply U;clear U K)|refine⟨kZ,?_⟩|fail)<;>conv=>whnf)
 refine(KF w us h (a:=a) (p:=p) hp).use (rest:=[]) (by simpa using hs) ?_;clear hs;rintro r post σ ⟨es4,e4,got,rfl,rfl⟩ hs;have hek:=got.k;obtain⟨pre,post,rfl⟩:=List.append_of_mem got.mem;rw[H3]at hs;have hsc:=hs;replace hs:=G0 (X:=[]) hs;have hN:J9 kf a p=(!e4.k.whole&&HQ kf a p 2):=by rw[J9,hek]
 cases hw:e4.k.whole<;>rw[hw]at hs hN
 ·conv=>whnf
  repeat'((first|apply st|refine⟨kZ,?_⟩|refine ld ?_|refine FI ?_|fail)<;>conv=>whnf)
  refine(Ss w us hr got.inv hp 2 (by decide)).use (rest:=[]) (by simpa using hsc) ?_;clear hs hsc;rintro r post' σ ⟨rfl,es5,hx,hi,rfl⟩ hs
  conv=>whnf
  repeat'((first|apply st|(apply Y;clear Z B Y A)|(apply U;clear U K)|fail)<;>conv=>whnf)
  exact AQ ⟨_,⟨by rw[hN];rfl,es5,got.ext.trans hx,hi,rfl⟩,by simpa using hs⟩
 ·conv=>whnf
  repeat'((first|apply st|(apply Y;clear Z B Y A)|(apply U;clear U K)|refine ld ?_|refine EM ?_|fail)<;>conv=>whnf)
  exact AQ ⟨_,⟨by rw[hN];rfl,_,got.ext,got.inv,rfl⟩,hsc⟩
def Qj {σ:AH} {X:List At} {L:Nat} {pre post:List C2} {e:C2} {s:List C2} (h:Sat σ (X++B5 L (pre++e::(post++s)))):Sat σ (.own e.vs 1 (iL e.k.AP)::(X++Hx L pre post e s)):=by
 have h2:=G0 h;refine h2.perm ((Hs _ _ _ _).symm.trans (.cons _ ?_));exact(List.perm_middle.trans (.cons _ List.perm_middle)).symm
def e8 {σ:AH} {X:List At} {L:Nat} {pre post:List C2} {e:C2} {s:List C2} (h:Sat σ (.own e.vs 1 (iL e.k.AP)::(X++Hx L pre post e s))):Sat σ (X++B5 L (pre++e::(post++s))):=by
 refine EO (X:=X) (e:=e) (e':=e) rfl rfl rfl ?_;refine h.perm ?_;refine List.Perm.trans (.cons _ (List.perm_middle.trans (.cons _ List.perm_middle))) ?_;exact Hs _ _ _ _
def Wa (s:Nat) (c:Int) (hs0:s<18446744073709551616) (h0:0≤c) (hc:c<64):Pure Tryz.prog 152 [eU s,eI c] (.b (s.testBit c.toNat)):=by
 have:=NS s c.toNat hs0 (by omega);rw[Int.toNat_of_nonneg h0]at this;exact this
def cK {m:Nat} (hm:m<18446744073709551616):M6 m 1=Gv m:=by
 refine Nat.eq_of_testBit_eq fun i=>?_
 rw[TD];rcases Nat.lt_or_ge i 64 with hlt|hge
 ·rw[N1 hlt,show(1:Nat)=2 ^ 0 from rfl,Nat.testBit_two_pow]
  congr 2;rw[K5,CL,Du];omega
 ·have h64:18446744073709551616≤2 ^ i:=by simpa using Nat.pow_le_pow_right (n:=2) (by decide) hge
  rw[Nat.testBit_lt_two_pow (Nat.lt_of_lt_of_le (RM _ _) h64),Nat.testBit_lt_two_pow (Nat.lt_of_lt_of_le hm h64)];rfl
set_option maxHeartbeats 4000000 in
def Pk (w : AK) (hw:CH w) {kf:Int→List Int→Kn} (hr:IT w kf) {a:Int} {p:List Int} (hp:p.length≤2) (can:Int→Bool)
    (hcan: ∀s∈(kf a p).AP,∀L es,Dw kf es→Bc Tryz.prog 260 [Rv w (B2 w.parents) L,EW a (p++[s])] (B5 L es) fun r post=>r= .ret (.b (can s))∧NC kf L es post) {L:Nat} {es:List C2} (h:Dw kf es) :
    Bc Tryz.prog 280 [Rv w (B2 w.parents) L,EW a p] (B5 L es) fun r post=>r= .ret (.t [eU (MU w (kf a p) (fun s=>(kf a (p++[s])).A0) can).1,.b (MU w (kf a p) (fun s=>(kf a (p++[s])).A0) can).2])∧NC kf L es post:=by
 intro σ hs;have hM:=Mx;generalize hus:B2 w.parents=us at *;refine jr kZ ?_
 conv=>whnf
 repeat'((first|apply st|(apply sq;intro K U)|(apply si;intro A B Y Z)|(apply Y;clear Z B Y A)|(apply U;clear U K)|refine⟨kZ,?_⟩|fail)<;>conv=>whnf)
 refine(KF w us h (a:=a) (p:=p) hp).use (rest:=[]) (by simpa using hs) ?_;clear hs;rintro r post σ ⟨es4,e4,got,rfl,rfl⟩ hs;have hek:=got.k;obtain⟨pre,post,rfl⟩:=List.append_of_mem got.mem;rw[H3]at hs;have hsc:=hs;replace hs:=G0 (X:=[]) hs;have hok:=hr.ok a p;have hsl:=(hr.ok a p).2.2.2;have hsh:=hr.short a p;have hsw:=hr.AP a p;rw[←hek]at hok hsl hsh hsw hcan;have hO:MU w (kf a p) (fun s=>(kf a (p++[s])).A0) can=MU w e4.k (fun s=>(kf a (p++[s])).A0) can:=by rw[hek]
 have hOn:(e4.k.whole=true∨e4.k.CV.testBit 1=true∨e4.k.CV.testBit 2=true∨e4.k.GK.testBit 0=true)→MU w (kf a p) (fun s=>(kf a (p++[s])).A0) can=(0,false):=fun h=>by
  rw[hO,MU,if_pos];rcases h with h|h|h|h<;>rw[h]<;>simp
 have hOy:e4.k.whole=false→e4.k.CV.testBit 1=false→e4.k.CV.testBit 2=false→e4.k.GK.testBit 0=false→MU w (kf a p) (fun s=>(kf a (p++[s])).A0) can=match Hv w (fun s=>(kf a (p++[s])).A0) can e4.k.AP (e4.k.CV,e4.k.GK)with
  | none=>(0,false)
  | some u=>(Gv (Dd (B2 w.parents) w.parents.length u.1),Gv (Dd (B2 w.parents) w.parents.length u.1)&&&u.2==0):=fun h1 h2 h3 h4=>by
  rw[hO,MU,h1,h2,h3,h4];rfl
 clear hO;cases hb0:e4.k.whole<;>rw[hb0]at hs
 rotate_left
 ·conv=>whnf
  repeat'((first|apply st|(apply sq;intro K U)|(apply si;intro A B Y Z)|(apply Y;clear Z B Y A)|(apply U;clear U K)|apply dr|refine ld ?_|clear U K)<;>conv=>whnf)
  exact AQ ⟨_,⟨by rw[hOn (.inl hb0)];rfl,_,got.ext,got.inv,rfl⟩,hsc⟩
 ·conv => whnf
  repeat'((first|apply st|(apply sq;intro K U)|(apply si;intro A B Y Z)|(apply Y;clear Z B Y A)|(apply U;clear U K)|apply dr|refine lo ?_|refine ld ?_|refine Pure.use (NS e4.k.CV 1 hok.1 (by decide)) ?_|refine Pure.use (NS e4.k.CV 2 hok.1 (by decide)) ?_|refine Pure.use (NS e4.k.GK 0 hok.2.1 (by decide)) ?_|(constructor<;>intro hc<;>(try rw[hc])<;>(replace hc:=bp hc))|clear U K)<;>conv=>whnf)
  all_goals first
   | exact AQ ⟨_,⟨by rw[hOn (by first|exact .inl (by assumption)|exact .inr (.inl (by assumption))|exact .inr (.inr (.inl (by assumption)))|exact .inr (.inr (.inr (by assumption))))];rfl,_,got.ext,got.inv,rfl⟩,hsc⟩
   | skip
  replace hOy:=hOy hb0 (by assumption) (by assumption) (by assumption);clear hOn;generalize hnf:(fun s=>(kf a (p++[s])).A0)=A0 at *
  have hs1:Sat σ (.own e4.vs 1 (iL e4.k.AP)::Hx L pre post e4 []):=by
   have h2:=Qj (X:=[]) (L:=L) (pre:=pre) (post:=post) (e:=e4) (s:=[]) (by simpa using hsc);simpa using h2
  refine CZ e4.k.AP.length (fun k (x:(Nat×Nat)×List C2)=>[(47,eI (BH k)),(7,eU x.1.1),(8,eU x.1.2)]) (fun k x=> .own e4.vs 1 (iL e4.k.AP)::Hx L pre post e4 x.2) (fun k x=>(x.1.1<18446744073709551616∧x.1.2<18446744073709551616)∧(Dw kf (pre++e4::(post++x.2))∧ ∀y∈x.2,y.k=k0)∧Hv w A0 can e4.k.AP (e4.k.CV,e4.k.GK)=Hv w A0 can (e4.k.AP.drop k) x.1) ((e4.k.CV,e4.k.GK),[]) rfl ⟨⟨hok.1,hok.2.1⟩,⟨by simpa using got.inv,by simp⟩,rfl⟩ hs1 ?_;clear hs hs1 hsc;rintro k ⟨⟨m,no⟩,new⟩ σ hk ⟨⟨hm,hno⟩,⟨hinv,hnew⟩,hF⟩ hs;simp only at hm hno hinv hnew hF hs;have hck:BH k=k:=AM (by have:=hok.2.2.2;omega);rcases BM e4.k.AP hk with⟨s,hsk,hlt⟩|hke
  ·have hsm:=Cg hsk
   have hp2:p.length<2:=by
    rcases Nat.lt_or_ge p.length 2 with h'|h'
    ·exact h'
    ·rw[hsh h']at hsm;cases hsm
   obtain⟨hs0,hs1⟩:=hsw s hsm;rw[drop_cons hsk,Hv]at hF
   conv=>whnf
   repeat'((first|apply st|(apply sq;intro K U)|(apply si;intro A B Y Z)|(apply Y;clear Z B Y A)|(apply U;clear U K)|apply dr|refine⟨rfl,?_⟩|refine⟨kZ,?_⟩|refine ld ?_|refine DT fun σ hs=>?_|refine oi ?_|refine ol fun x hx=>?_|(refine Cv (fun hc=>?_)<;>(try rw[hc])<;>clear hc)|refine Pure.use (Ml a p _ hp2) ?_|(intro nn hnn;generalize hg:A7 _ nn _=σ;refine CY hg fun hs=>?_;clear hg)|fail)<;>conv=>whnf)
   obtain rfl:x=s:=by rw[hck,Jz,hsk]at hx;exact(Option.some.inj hx).symm
   generalize nn=n7 at *;have hs2:Sat σ ([.box n7 (J0 a (p++[x]))]++B5 L (pre++e4::(post++new))):=e8 (X:=[.box n7 (J0 a (p++[x]))]) (hs.perm (.swap _ _ _));clear hs;obtain⟨o,ho⟩: ∃o,w.owner[x.toNat]? =some o:=⟨_,DZ (by omega)⟩
   have hoI:CA w x=o:=by simp only[CA,DS,ho];rfl
   obtain⟨ho1,ho2⟩:=hw.2.2 o (Cg ho);have hwp:=hw.1.1;have hcx:=hcan x hsm L;cases hnx:A0 x<;>cases hcy:can x
   all_goals
    rw[hcy]at hcx;rw[Vh,hnx,hcy,hoI]at hF;refine(KF w us hinv (a:=a) (p:=p++[x]) (by simp;omega)).use (rest:=[.box n7 (J0 a (p++[x]))]) (hs2.perm Rt) ?_;clear hs2;rintro r post' σ ⟨es5,e5,got5,rfl,rfl⟩ hs;have hek5:e5.k.A0=A0 x:=by rw[got5.k,←hnf]
    rw[hnx]at hek5;obtain⟨newA,heA,hnA⟩:=got5.ext;obtain⟨pre5,post5,he5⟩:=List.append_of_mem got5.mem;rw[he5]at hs;replace hs:=G0 (X:=[.box n7 (J0 a (p++[x]))]) (hs.perm Rt);rw[hek5]at hs
    conv=>whnf
    repeat'((first|apply dr|refine rk ?_ ?_|exact fun s e=>by cases e;rfl|refine⟨kZ,?_⟩|refine ld ?_|fail)<;>conv=>whnf)
    have hs2:Sat σ ([.box n7 (J0 a (p++[x]))]++B5 L (pre5++e5::post5)):=EO (X:=[.box n7 (J0 a (p++[x]))]) (e:=e5) (e':=e5) rfl rfl rfl (by rw[←hek5]at hs;exact hs);clear hs;refine(hcx es5 got5.inv).use (rest:=[.box n7 (J0 a (p++[x]))]) (by rw[he5];exact hs2.perm Rt) ?_;clear hs2;rintro r post' σ ⟨rfl,es6,⟨new6,he6,hn6⟩,hi6,rfl⟩ hs;have he7:es6=pre5++e5::(post5++new6):=by rw[he6,he5];simp
    rw[he7]at hs;replace hs:=G0 (X:=[.box n7 (J0 a (p++[x]))]) (hs.perm Rt);rw[hek5]at hs
    conv=>whnf
    repeat'((first|apply st|(apply sq;intro K U)|(apply si;intro A B Y Z)|(apply Y;clear Z B Y A)|(apply U;clear U K)|apply dr|refine rk ?_ ?_|exact fun s e=>by cases e;rfl|refine⟨rfl,?_⟩|refine ID ?_|refine ld ?_|refine FI ?_|refine EM ?_|refine Pure.use (G4 m o hm (by omega) (by omega)) ?_|refine Pure.use (G4 no o hno (by omega) (by omega)) ?_|clear U K)<;>conv=>whnf)
    simp only[Bool.not_false,Bool.not_true,Bool.and_true,Bool.and_false,Lu,if_false,if_true,Option.bind_some,Option.bind_none]at hF;have e7:es6=pre++e4::(post++(new++newA++new6)):=by rw[he6,heA];simp
    have hs2:Sat σ ([.box n7 (J0 a (p++[x]))]++B5 L (pre5++e5::(post5++new6))):=EO (X:=[.box n7 (J0 a (p++[x]))]) (e:=e5) (e':=e5) rfl rfl rfl (by rw[←hek5]at hs;exact hs)
    have hs3:Sat σ (B5 L (pre++e4::(post++(new++newA++new6)))):=by
     rw[←he7,e7]at hs2;exact hs2.less (List.sublist_append_right _ _)
    have hi7:Dw kf (pre++e4::(post++(new++newA++new6))):=by rw[←e7];exact hi6
    have hn7: ∀y∈new++newA++new6,y.k=k0:=fun y hy=>by
     rcases FX.1 hy with hy|hy
     ·rcases FX.1 hy with hy|hy
      ·exact hnew y hy
      ·exact hnA y hy
     ·exact hn6 y hy
    have hob:2 ^ o.toNat<18446744073709551616:=JY (by omega)
   ·exact⟨hlt,((m,no|||2 ^ o.toNat),new++newA++new6),rfl,⟨⟨hm,J8 hno hob⟩,⟨hi7,hn7⟩,hF⟩,Qj (X:=[]) hs3⟩
   ·exact⟨hlt,((m,no),new++newA++new6),rfl,⟨⟨hm,hno⟩,⟨hi7,hn7⟩,hF⟩,Qj (X:=[]) hs3⟩
   ·rw[hF]at hOy
    exact AQ ⟨_,⟨by rw[hOy];rfl,_,got.ext.trans ⟨_,by simp,hn7⟩,hi7,rfl⟩,hs3⟩
   ·exact⟨hlt,((m|||2 ^ o.toNat,no),new++newA++new6),rfl,⟨⟨J8 hm hob,hno⟩,⟨hi7,hn7⟩,hF⟩,Qj (X:=[]) hs3⟩
  ·rw [Ap hke,Hv]at hF
   rw[hF]at hOy;simp only at hOy
   conv=>whnf
   repeat'((first|apply st|(apply sq;intro K U)|(apply si;intro A B Y Z)|(apply Y;clear Z B Y A)|(apply U;clear U K)|refine⟨rfl,?_⟩|(refine EI (fun hc=>?_)<;>(try rw[hc])<;>clear hc)|clear U K)<;>conv=>whnf)
   have hu:m7 us:=by rw[←hus];exact G5 _ _ (by have:=hw.1.1;omega)
   have hul:us.length=3+w.parents.length:=by rw[←hus];exact Eb _ _
   have hwp:=hw.1.1;have hwl:IntKind.i64.wrap (3+((Ei w.parents).length:Nat))=3+(w.parents.length:Int):=by rw[BR,wrap64 (by omega) (by omega)]
   refine CZ w.parents.length (fun k (x:Nat)=>[(14,eI (J5 3 k)),(7,eU x)]) (fun _ _=> .own e4.vs 1 (iL e4.k.AP)::Hx L pre post e4 new) (fun k x=>x<18446744073709551616∧x=Dd us k m) m rfl ⟨hm,rfl⟩ hs ?_;clear hs;clear hke hck hk k;rintro k x σ hk ⟨hx64,hxe⟩ hs;have hc3:J5 3 k=3+k:=Mr (by omega) (by omega);by_cases hlt:k<w.parents.length
   ·have hbt:Dd us (k+1) m=if x.testBit (J5 3 k).toNat then x|||us.getD (3+k) 0 else x:=by
     rw[Dd,←hxe,hc3,show(3+(k:Int)).toNat=3+k by omega]
    have hup:(List.drop ((J5 3 k).toNat*1) (List.drop 2 (wC w us)))[0]? =some (eU (us.getD (3+k) 0)):=by
     rw[cQ,cQ,←Vf w us (i:=3+k) (by omega)];congr 1;omega
    conv=>whnf
    repeat'((first|apply st|(apply sq;intro K U)|(apply si;intro A B Y Z)|(apply Y;clear Z B Y A)|(apply U;clear U K)|refine⟨rfl,?_⟩|refine nE ?_|(rw[hup])|refine Pure.use (Wa x (J5 3 k) hx64 (by omega) (by omega)) ?_|(constructor<;>intro hc<;>(try rw[hc])<;>(replace hc:=bp hc)<;>(try simp(disch:=omega) only[BR,wrap64,AM]at hc)<;>try(exfalso;omega))|clear U K)<;>conv=>whnf)
    ·refine⟨hlt,x|||us.getD (3+k) 0,?_,⟨J8 hx64 (LK hu _),by rw[hbt,if_pos (by assumption)]⟩,hs⟩
     rw[KQ hx64 (LK hu _)];rfl
    ·exact⟨hlt,x,rfl,⟨hx64,by rw[hbt,if_neg (by rw[‹x.testBit _=false›];decide)]⟩,hs⟩
   ·have hke:k=w.parents.length:=by omega
    rw[hus,←hke,←hxe]at hOy
    have Y:bits .andNot .u64 (x:Int) 1=((Gv x:Nat):Int):=by
     have:=QC (a:=x) (b:=1);rw[cK hx64]at this;exact this
    have hcl:Gv x<18446744073709551616:=by unfold Gv;omega
    have Z:bits .and .u64 ((Gv x:Nat):Int) (no:Int)=((Gv x&&&no:Nat):Int):=Kl hcl hno
    conv=>whnf
    repeat'((first|apply st|(apply sq;intro K U)|(apply si;intro A B Y Z)|(apply Y;clear Z B Y A)|(apply U;clear U K)|refine⟨rfl,?_⟩|(constructor<;>intro hc<;>(try rw[hc])<;>(replace hc:=bp hc)<;>(try simp(disch:=omega) only[BR,wrap64,AM]at hc)<;>try(exfalso;omega))|clear U K)<;>conv=>whnf)
    rw[Y,Z];refine AQ ⟨_,⟨?_,_,got.ext.trans ⟨new,by simp,hnew⟩,hinv,rfl⟩,gu hs⟩;rw[hOy]
    have hz:(((Gv x&&&no:Nat):Int)==0)=(Gv x&&&no==0):=by
     rw[K5,Du,Du];omega
    rw[←hz]
def mh (w:AK) (hw:CH w) {kf:Int→List Int→Kn} (hr:IT w kf) (a:Int): ∀(d:Nat) (p:List Int),p.length+d=2→ ∀(L:Nat) (es:List C2),Dw kf es→
    Bc Tryz.prog 260 [Rv w (B2 w.parents) L,EW a p] (B5 L es) fun r post=>r= .ret (.b (MX w kf a d p))∧NC kf L es post:=by
 intro d
 induction d with
 | zero=>
   intro p hp L es h σ hs;have hint:=OW w (B2 w.parents) hr h (L:=L) (a:=a) (p:=p) (by omega);have hnone:=fun es h=>WH w (B2 w.parents) hr (es:=es) h (L:=L) (a:=a) (p:=p) (by omega)
   have hobj:=fun es h=>Pk w hw hr (a:=a) (p:=p) (by omega) (fun _=>false) (by rw[hr.short a p (by omega)];intro s hs;cases hs) (L:=L) (es:=es) h
   rw[MX];cases hI:Qc kf a p<;>cases hN:J9 kf a p<;>rw[hI]at hint<;>rw[hN]at hnone
   all_goals
    refine Zq kZ ?_
    conv=>whnf
    repeat'((first|apply st|(apply sq;intro K U)|(apply si;intro A B Y Z)|(apply Y;clear Z B Y A)|(apply U;clear U K)|refine⟨kZ,?_⟩|fail)<;>conv=>whnf)
    refine hint.use (rest:=[]) (by simpa using hs) ?_;clear hs;rintro r post σ ⟨rfl,es2,hx2,hi2,rfl⟩ hs;rw[H3]at hs
    conv=>whnf
    repeat'((first|apply st|(apply sq;intro K U)|(apply si;intro A B Y Z)|(apply Y;clear Z B Y A)|(apply U;clear U K)|refine⟨kZ,?_⟩|clear U K)<;>conv=>whnf)
   rotate_left 2
   ·exact AQ ⟨_,⟨rfl,es2,hx2,hi2,rfl⟩,hs⟩
   ·exact AQ ⟨_,⟨rfl,es2,hx2,hi2,rfl⟩,hs⟩
   all_goals
    refine(hnone es2 hi2).use (rest:=[]) (by simpa using hs) ?_;clear hs;rintro r post σ ⟨rfl,es3,hx3,hi3,rfl⟩ hs;rw[H3]at hs
    conv=>whnf
    repeat'((first|apply st|(apply sq;intro K U)|(apply si;intro A B Y Z)|(apply Y;clear Z B Y A)|(apply U;clear U K)|refine⟨kZ,?_⟩|refine FI ?_|refine EM ?_|clear U K)<;>conv=>whnf)
   rotate_left 1
   ·exact AQ ⟨_,⟨rfl,es3,hx2.trans hx3,hi3,rfl⟩,hs⟩
   ·refine(hobj es3 hi3).use (rest:=[]) (by simpa using hs) ?_
    clear hs;rintro r post σ ⟨rfl,es4,hx4,hi4,rfl⟩ hs;rw[H3]at hs
    conv=>whnf
    repeat'((first|apply st|(apply sq;intro K U)|(apply si;intro A B Y Z)|(apply Y;clear Z B Y A)|(apply U;clear U K)|fail)<;>conv=>whnf)
    exact AQ ⟨_,⟨rfl,es4,(hx2.trans hx3).trans hx4,hi4,rfl⟩,hs⟩
 | succ d ih=>
   intro p hp L es h σ hs;have hint:=OW w (B2 w.parents) hr h (L:=L) (a:=a) (p:=p) (by omega);have hnone:=fun es h=>WH w (B2 w.parents) hr (es:=es) h (L:=L) (a:=a) (p:=p) (by omega)
   have hobj:=fun es h=>Pk w hw hr (a:=a) (p:=p) (by omega) (fun s=>MX w kf a d (p++[s])) (fun s hs L es h=>ih (p++[s]) (by simp;omega) L es h) (L:=L) (es:=es) h
   rw[MX];cases hI:Qc kf a p<;>cases hN:J9 kf a p<;>rw[hI]at hint<;>rw[hN]at hnone
   all_goals
    refine Zq kZ ?_
    conv=>whnf
    repeat'((first|apply st|(apply sq;intro K U)|(apply si;intro A B Y Z)|(apply Y;clear Z B Y A)|(apply U;clear U K)|refine⟨kZ,?_⟩|fail)<;>conv=>whnf)
    refine hint.use (rest:=[]) (by simpa using hs) ?_;clear hs;rintro r post σ ⟨rfl,es2,hx2,hi2,rfl⟩ hs;rw[H3]at hs
    conv=>whnf
    repeat'((first|apply st|(apply sq;intro K U)|(apply si;intro A B Y Z)|(apply Y;clear Z B Y A)|(apply U;clear U K)|refine⟨kZ,?_⟩|clear U K)<;>conv=>whnf)
   rotate_left 2
   ·exact AQ ⟨_,⟨rfl,es2,hx2,hi2,rfl⟩,hs⟩
   ·exact AQ ⟨_,⟨rfl,es2,hx2,hi2,rfl⟩,hs⟩
   all_goals
    refine(hnone es2 hi2).use (rest:=[]) (by simpa using hs) ?_;clear hs;rintro r post σ ⟨rfl,es3,hx3,hi3,rfl⟩ hs;rw[H3]at hs
    conv=>whnf
    repeat'((first|apply st|(apply sq;intro K U)|(apply si;intro A B Y Z)|(apply Y;clear Z B Y A)|(apply U;clear U K)|refine⟨kZ,?_⟩|refine FI ?_|refine EM ?_|clear U K)<;>conv=>whnf)
   rotate_left 1
   ·exact AQ ⟨_,⟨rfl,es3,hx2.trans hx3,hi3,rfl⟩,hs⟩
   ·refine(hobj es3 hi3).use (rest:=[]) (by simpa using hs) ?_
    clear hs;rintro r post σ ⟨rfl,es4,hx4,hi4,rfl⟩ hs;rw[H3]at hs
    conv=>whnf
    repeat'((first|apply st|(apply sq;intro K U)|(apply si;intro A B Y Z)|(apply Y;clear Z B Y A)|(apply U;clear U K)|fail)<;>conv=>whnf)
    exact AQ ⟨_,⟨rfl,es4,(hx2.trans hx3).trans hx4,hi4,rfl⟩,hs⟩
abbrev gQ:V:= .J1 257 (.a [])
def aR (w:AK) (hw:CH w) {kf:Int→List Int→Kn} (hr:IT w kf) {L:Nat} {es:List C2} (h:Dw kf es) :
    Bc Tryz.prog 231 [Rv w (B2 w.parents) L] (B5 L es) fun r post=>r=(if Yw w kf then .ret (.t [])else .Cw gQ)∧post= []:=by
 intro σ hs;refine kL kZ ?_
 conv=>whnf
 repeat'((first|apply st|(apply sq;intro K U)|(apply si;intro A B Y Z)|(apply Y;clear Z B Y A)|(apply U;clear U K)|fail)<;>conv=>whnf)
 refine CZ 3 (fun k (x:List C2)=>[(3,eI (BH k))]) (fun k x=>B5 L x) (fun k x=>Dw kf x∧Yw w kf=((Bj 3).drop k).all fun a=>MX w kf a 2 []) es rfl ⟨h,rfl⟩ hs ?_;clear hs h;rintro k es σ hk ⟨h,hn⟩ hs;have hck:BH k=k:=AM (by simp only[Ac];omega);have hl3:(Bj 3).length=3:=rfl;rcases BM (Bj 3) hk with⟨a,ha,hlt⟩|hke
 ·rw[drop_cons ha,Rs]at hn
  have hak:a=BH k:=by
   rw[hck];simp only[Bj,PF,List.getElem?_range (show k<3 from hlt),Ym]at ha;exact(Option.some.inj ha).symm
  subst hak;have hcan:=mh w hw hr (BH k) 2 [] rfl L es h;cases hC:MX w kf (BH k) 2 []<;>rw[hC]at hcan hn
  all_goals
   conv=>whnf
   repeat'((first|apply st|(apply sq;intro K U)|(apply si;intro A B Y Z)|(apply Y;clear Z B Y A)|(apply U;clear U K)|refine⟨rfl,?_⟩|(constructor<;>intro hc<;>(try rw[hc])<;>(replace hc:=bp hc)<;>(try simp(disch:=omega) only[BR,wrap64,AM]at hc)<;>try(exfalso;omega))|fail)<;>conv=>whnf)
   refine hcan.use (rest:=[]) (by simpa using hs) ?_;clear hs;rintro r post σ ⟨rfl,es2,hx2,hi2,rfl⟩ hs;rw[H3]at hs
   conv=>whnf
   repeat'((first|apply st|(apply si;intro A B Y Z)|(apply Y;clear Z B Y A)|(refine Z _ _ _ ?_;clear Z B Y A)|(apply U;clear U K)|refine⟨rfl,?_⟩|refine FI ?_|refine EM ?_|clear U K)<;>conv=>whnf)
  ·exact DI ⟨_,⟨by rw[hn];rfl,rfl⟩,hs.less (Lr _)⟩
  ·exact⟨by omega,es2,rfl,⟨hi2,by simpa using hn⟩,hs⟩
 ·rw[Ap hke]at hn
  conv=>whnf
  repeat'((first|apply st|(apply sq;intro K U)|(apply si;intro A B Y Z)|(apply Y;clear Z B Y A)|(apply U;clear U K)|refine⟨rfl,?_⟩|(constructor<;>intro hc<;>(try rw[hc])<;>(replace hc:=bp hc)<;>(try simp(disch:=omega) only[BR,wrap64,AM]at hc)<;>try(exfalso;omega))|clear U K)<;>conv=>whnf)
  exact AQ ⟨_,⟨by rw[hn];rfl,rfl⟩,hs.less (Lr _)⟩
def W5 {w:AK} {ls:List Fact} (hw:w.parents.length≤60) (h: ∀x∈ls,IA w x):Ub ls:=by
 intro l hl;obtain⟨-,hc,hsm,hsh⟩:=Ke h;obtain⟨-,hn,hlf⟩:=G8 (h l hl);exact⟨Fo hlf,hsh l hl,fun ho=>by have:=hc l hl ho;omega,hsm l hl⟩
def jS {ls:List Fact} (h:UJ ls) (a:Int) (p:List Int): -1000000000≤(kn ls a p).low∧(kn ls a p).low≤1000000000:=by
 have key: ∀(ls:List Fact) (k:Kn),UJ ls→(-1000000000≤k.low∧k.low≤1000000000)→ -1000000000≤(ls.foldl (DC a p) k).low∧(ls.foldl (DC a p) k).low≤1000000000:=by
  intro ls
  induction ls with
  | nil=>intro k _ h;exact h
  | cons l r ih=>
    intro k hs hk;refine ih _ (fun x hx=>hs x (.tail _ hx)) ?_;have hn:=hs l (.head _);unfold DC Co Dj cS
    repeat' split
    all_goals first
     | exact hk
     | exact hn
     | (simp only;exact hk)
     | (simp only;exact hn)
 exact key ls k0 h ⟨by decide,by decide⟩
def V8 {w:AK} {ls:List Fact} (h: ∀x∈ls,IA w x):HR w.owner.length ls:=by
 intro l hl s hs;obtain⟨-,hn,-⟩:=G8 (h l hl);rw[CK,BV]at hn;have:=hn.1;simp only[C1,EX,BV,EL,Gx,CL]at this;exact this.2.2.2.2.1.1 s hs
def dW {w:AK} (hw:CH w) {ls:List Fact} (h: ∀x∈ls,IA w x) (hlen:ls.length<900):IT w (kn ls):=by
 have hadd:=W5 (by have:=hw.1.1;omega) h;obtain⟨-,-,hsm,hsh⟩:=Ke h;have hp:=V8 h;refine⟨fun a p=>?_,jS hsm,fun a p hpl=>?_,fun a p s hs=>?_⟩
 ·obtain⟨h1,h2,h3,h4⟩:=Zf hadd a p
  exact⟨h1,h2,by omega,by omega⟩
 ·rw[Kg hp]
  exact PY hsh hpl
 ·rw[Kg hp]at hs
  exact Lb hs
def iI {w:AK} (hw:CH w) {ls:List Fact} (h: ∀x∈ls,IA w x):Yw w (kn ls)=I5 w ls:=by
 obtain⟨-,hc,-,-⟩:=Ke h;refine iJ ?_ (fun s h0 h1=>?_) (by have:=hw.1.1;omega) (fun l hl ho=>by have:=hc l hl ho;omega) (V8 h)
 ·exact Iy hw.1
 ·obtain⟨o,ho⟩: ∃o,w.owner[s.toNat]? =some o:=⟨_,DZ (by omega)⟩
  have hoI:CA w s=o:=by simp only[CA,DS,ho];rfl
  rw[hoI];exact hw.2.2 o (Cg ho)
def ei {σ:AH} {n:Nat} {x:V} {rest:List At} (hs:Sat σ (.box n [x]::rest)) {Q:AH→Prop} (hq: ∀σ',Sat σ' (.box n [.b false]::rest)→Q σ'):MZ Tryz.prog 229 [.p n 0] (some gQ) σ Q:=by
 refine Wr kZ ?_
 conv=>whnf
 repeat'((first|apply st|(apply sq;intro K U)|(apply si;intro A B Y Z)|(apply Y;clear Z B Y A)|(apply U;clear U K)|refine EV fun σ hs=>?_|refine DT fun σ hs=>?_|refine gi rfl ?_|(intro nn hnn;generalize hg:A7 _ nn _=σ;refine CY hg fun hs=>?_;clear hg)|fail)<;>conv=>whnf)
 exact hq _ (hs.less (JR _ _))
def eo {σ:AH} {n:Nat} {x:V} {rest:List At} (hs:Sat σ (.box n [x]::rest)) {Q:AH→Prop} (hq: ∀σ',Sat σ' (.box n [x]::rest)→Q σ'):MZ Tryz.prog 229 [.p n 0] none σ Q:=by
 refine Wr kZ ?_
 conv=>whnf
 repeat'((first|apply st|(apply sq;intro K U)|(apply si;intro A B Y Z)|(apply Y;clear Z B Y A)|(apply U;clear U K)|refine⟨rfl,?_⟩|refine DT fun σ hs=>?_|(intro nn hnn;generalize hg:A7 _ nn _=σ;refine CY hg fun hs=>?_;clear hg)|fail)<;>conv=>whnf)
 exact hq _ (hs.less (JR _ _))
attribute [local irreducible] MZ
def TN (w:AK) (hw:CH w) (ls:List Fact) (b:Bool) (hl: ∀x∈ls,IA w x) (hlen:ls.length<900):Pure Tryz.prog 183 [.rp (wC w (B2 w.parents)),.l (Ex ls) b] (.b (I5 w ls)):=by
 refine Pure.of ?_;refine lG kZ ?_;have hs:=Sn
 conv=>whnf
 repeat'((first|(apply sq;intro K U)|(apply si;intro A B Y Z)|(apply Y;clear Z B Y A)|(apply U;clear U K)|(intro nn hnn;generalize hg:A7 _ nn _=σ;refine CY hg fun hs=>?_;clear hg)|fail)<;>conv=>whnf)
 refine(aW w (B2 w.parents) ls b (W5 (by have:=hw.1.1;omega) hl) hlen).use (rest:=[.box nn [.b false]]) (by simpa using hs) ?_;clear hs;rintro r post σ ⟨L,es,rfl,hinv,rfl⟩ hs;have hwh:=aR w hw (dW hw hl hlen) hinv (L:=L);rw[iI hw hl]at hwh;cases ht:I5 w ls<;>rw[ht]at hwh
 all_goals
  conv=>whnf
  refine hwh.use (rest:=[.box nn [.b false]]) hs ?_;clear hs;rintro r post σ ⟨rfl,rfl⟩ hs
  conv=>whnf
  repeat'((first|apply st|(apply sq;intro K U)|(apply si;intro A B Y Z)|(apply Y;clear Z B Y A)|(refine Z _ _ _ ?_;clear Z B Y A)|(apply U;clear U K)|refine EV fun σ hs=>?_|clear U K)<;>conv=>whnf)
 ·refine ei (rest:=[]) hs fun σ hs=>?_
  conv=>whnf
  repeat'((first|refine ld ?_|fail)<;>conv=>whnf)
  exact AQ (by rw[ht];rfl)
 ·refine eo (rest:=[]) (x:= .b true) hs fun σ hs=>?_
  conv=>whnf
  repeat'((first|refine ld ?_|fail)<;>conv=>whnf)
  exact AQ (by rw[ht];rfl)
end Go.Gl
namespace Go.Gl
open Go.Proofs
attribute [local irreducible] BD Aw Ai AU AO Ah AV AW AN Ag AS AT Ay A9 Sat Ab A4 Aj W
def Rk {α S:Type} (stp:α→S→Bool×S) (D:α→S→Prop):List α→S→Prop
 | [],_=>True
 | y::r,s=>D y s∧((stp y s).1=true→Rk stp D r (stp y s).2)
section
variable {α β S:Type} {stp:α→S→Bool×S} {D:α→S→Prop}
def N2: ∀(A B:List α) (s:S),Ch stp (A++B) s=if(Ch stp A s).1 then Ch stp B (Ch stp A s).2 else(false,(Ch stp A s).2)
 | [],B,s=>by simp[Ch]
 | y::r,B,s=>by
   rw[List.cons_append,Ch,Ch];cases(stp y s).1
   ·rfl
   ·simpa using N2 r B (stp y s).2
def TF (l:α) (s:S):Ch stp [l] s=stp l s:=by
 rw[Ch,Ch];rcases stp l s with⟨b,s'⟩;cases b<;>rfl
def Q2: ∀ {A B:List α} {s:S},Rk stp D (A++B) s→Rk stp D A s∧((Ch stp A s).1=true→Rk stp D B (Ch stp A s).2)
 | [],B,s,h=>⟨trivial,fun _=>h⟩
 | y ::r,B,s,h=>by
   obtain⟨h1,h2⟩:=h;rw[Rk,Ch];cases hy:(stp y s).1
   ·exact⟨⟨h1,fun h=>(by cases h)⟩,fun h=>(by simp at h)⟩
   ·obtain⟨h3,h4⟩:=Q2 (h2 hy)
    exact⟨⟨h1,fun _=>h3⟩,by simpa using h4⟩
def Mk {A:List α}: ∀ {B:List α} {s:S},(∀y∈B,y∈A)→Rk stp D B s→Rk stp (fun y s=>y∈A∧D y s) B s
 | [],_,_,_=>trivial
 | y::r,_,hm,h=>⟨⟨hm y (.head _),h.1⟩,fun hy=>Mk (fun z hz=>hm z (.tail _ hz)) (h.2 hy)⟩
def WB {g:β→α}: ∀ {B:List β} {s:S},Rk stp D (B.map g) s→Rk (fun b s=>stp (g b) s) (fun b s=>D (g b) s) B s
 | [],_,_=>trivial
 | y::r,_,h=>⟨h.1,fun hy=>WB (h.2 hy)⟩
end
section
variable {S:Type} {stp:List Fact→S→Bool×S} {D:List Fact→S→Prop}
def QH (B:List (List Fact)): ∀(A:List (List Fact)) (s:S),Ch stp (F3 A B) s=Ch (fun x s=>Ch (fun y s=>stp (Cr x y) s) B s) A s
 | [],s=>rfl
 | x::r,s=>by
   have ih:=QH B r;rw[F3,List.flatMap_cons,N2,Kq,Ch];simp only[F3]at ih;rw[ih]
def Sv (B:List (List Fact)): ∀ {A:List (List Fact)} {s:S},Rk stp D (F3 A B) s→Rk (fun x s=>Ch (fun y s=>stp (Cr x y) s) B s) (fun x s=>Rk (fun y s=>stp (Cr x y) s) (fun y s=>D (Cr x y) s) B s) A s
 | [],_,_=>trivial
 | x::r,s,h=>by
   rw[F3,List.flatMap_cons]at h;obtain⟨h1,h2⟩:=Q2 h;refine⟨WB h1,fun hy=>?_⟩;rw[Kq]at h2;exact Sv B (h2 hy)
end
abbrev T8 (l:List Fact) (b:Bool):V:= .l (Ex l) b
def PO {S:Type} (x:V) (H:S→List At) (stp:List Fact→S→Bool×S) (D:List Fact→S→Prop):Prop:= ∀b,C5 Tryz.prog x (fun l=>T8 l b) H stp D
abbrev SA (n:Nat):V:= .f (.func 225) [] [.p n 0]
def Xv {f:Fact} (hl:Bm f=true) (c:Bool):JT (if c then F2 f else f)=xF f++[.b c]:=by
 have:=Fo hl;cases c with
 | true=>rfl
 | false=>
   have h5: ¬f.op=5:=by omega
   simp only[JT,Lu,if_false,A8,if_neg h5]
def WalkC (f:Fact):Prop:= ∀(c:Bool) (S:Type) (fn:Fn) (fi ca:List V) (H:S→List At) (stp:List Fact→S→Bool×S) (D:List Fact→S→Prop) (nW:Nat) (s:S),
 PO (.f fn fi ca) (fun s=> .box nW [SA nW]::H s) stp D→Rk stp D (Bg f c) s→ ∀σ,Sat σ (.box nW [SA nW]::H s)→
  Ay Tryz.prog (SA nW) [.a (xF f),.b c,.f fn fi ca] σ fun r σ'=>r= .ret (.b (Ch stp (Bg f c) s).1)∧Sat σ' (.box nW [SA nW]::H (Ch stp (Bg f c) s).2)
def b7 {w:AK} {S:Type} {fn:Fn} {fi ca:List V} {H:S→List At} {stp:List Fact→S→Bool×S} {D:List Fact→S→Prop} (hT:PO (.f fn fi ca) H stp D) {k0 k1:Fact} {c:Bool} (hn0:BW w k0=true) (hn1:BW w k1=true) (hv0:lv k0≤100) (hv1:lv k1≤100) {a:List Fact} (ha:a∈Bg k0 c) (fa:Bool) :
    PO (.f (.func 227) [] [.rp [.f fn fi ca],.rp [T8 a fa]]) H (fun y s=>stp (Cr a y) s) (fun y s=>y∈Bg k1 c∧D (Cr a y) s):=by
 rintro b y s ⟨hy,hd⟩ σ hs;refine Bk ?_;show BD Tryz.prog 227 ([]++[T8 y b]++[.rp [.f fn fi ca],.rp [T8 a fa]]) σ _;have hla:=(Js k0 (DD _ hn0) c).2 a ha;have hly:=(Js k1 (DD _ hn1) c).2 y hy;have hM:=Mx;refine kP kZ ?_
 conv=>whnf
 repeat'((first|apply st|(apply sq;intro K U)|(apply si;intro A B Y Z)|(apply Y;clear Z B Y A)|(apply U;clear U K)|apply dr|refine rk ?_ ?_|exact fun s e=>by cases e;rfl|refine Pure.use (X3 (w:=w) a y fa b (FW k0 hn0 c a ha) (FW k1 hn1 c y hy) (by omega)) ?_|fail)<;>conv=>whnf)
 refine(hT false).use hd hs ?_;clear hs;intro σ hs
 conv=>whnf
 repeat'((first|apply st|(apply Y;clear Z B Y A)|(apply U;clear U K)|apply dr|fail)<;>conv=>whnf)
 exact AQ ⟨rfl,hs⟩
def b9 {w:AK} {S:Type} {fn:Fn} {fi ca:List V} {H:S→List At} {stp:List Fact→S→Bool×S} {D:List Fact→S→Prop} {nW:Nat} (hT:PO (.f fn fi ca) (fun s=> .box nW [SA nW]::H s) stp D) {f k0 k1:Fact} (hk:f.kids= [k0,k1]) {c:Bool} (hn0:BW w k0=true) (hn1:BW w k1=true) (hv0:lv k0≤100) (hv1:lv k1≤100) (hw1:WalkC k1) :
    PO (.f (.func 226) [] [.p nW 0,.rp (xF f),.rp [.b c],.rp [.f fn fi ca]]) (fun s=> .box nW [SA nW]::H s) (fun a s=>Ch (fun y s=>stp (Cr a y) s) (Bg k1 c) s) (fun a s=>a∈Bg k0 c∧Rk (fun y s=>stp (Cr a y) s) (fun y s=>D (Cr a y) s) (Bg k1 c) s):=by
 rintro fa a s ⟨ha,hd⟩ σ hs;refine Bk ?_;show BD Tryz.prog 226 ([]++[T8 a fa]++[.p nW 0,.rp (xF f),.rp [.b c],.rp [.f fn fi ca]]) σ _;have h1:f.kids[(1:Int).toNat]? =some k1:=by rw[hk];rfl
 refine kQ kZ ?_
 conv=>whnf
 repeat'((first|apply st|(apply sq;intro K U)|(apply si;intro A B Y Z)|(apply Y;clear Z B Y A)|(apply U;clear U K)|apply dr|refine⟨kZ,?_⟩|refine O3 ?_|refine ld ?_|fail)<;>conv=>whnf)
 refine(hw1 c S _ _ _ H _ _ nW s (b7 hT hn0 hn1 hv0 hv1 ha fa) (Mk (fun y hy=>hy) hd) σ hs).mono ?_;clear hs;rintro r σ ⟨rfl,hs⟩
 conv=>whnf
 repeat'((first|apply st|(apply Y;clear Z B Y A)|(apply U;clear U K)|apply dr|fail)<;>conv=>whnf)
 exact AQ ⟨rfl,hs⟩
set_option maxHeartbeats 2000000 in
def dC {w : AK} (f:Fact):BW w f=true→lv f≤100→WalkC f:=by
 induction f using Fact.ind with
 | h f ih=>
   intro hn hv c S fn fi ca H stp D nW s hT hd σ hs;have har:=DD _ hn
   have hnk: ∀k∈f.kids,BW w k=true:=by
    rw[CK,BV,EL]at hn;exact hn.2
   have hop:f.op=1∨f.op=5∨Bm f=true∨f.op=6∨f.op=7:=by
    rw[CK,BV]at hn;have h1:=hn.1;simp only[C1,Rw,BV]at h1;rw[Nj];simp only[BV,CL];have h2:=h1.1;split at h2
    ·omega
    ·split at h2
     ·omega
     ·simp only[Fj,Du]at h2
      omega
   refine Bk ?_;show BD Tryz.prog 225 ([]++[.a (xF f),.b c,.f fn fi ca]++[.p nW 0]) σ _;refine kR kZ ?_;rw[HM,IX]at hd;have hcs:=HM f c;rw[IX]at hcs;rcases hop with h1|h5|hl|h67
   ·rw[if_pos h1]at hd hcs
    rw[hcs];cases c
    ·rw[if_neg (by decide)]at hd ⊢
     rw[TF]
     conv=>whnf
     repeat'((first|apply st|(apply sq;intro K U)|(apply si;intro A B Y Z)|(apply Y;clear Z B Y A)|(apply U;clear U K)|refine⟨rfl,?_⟩|(constructor<;>intro hc<;>(try rw[hc])<;>(replace hc:=bp hc)<;>try(exfalso;omega))|fail)<;>conv=>whnf)
     refine(hT true).use (y:=[]) hd.1 hs ?_;clear hs;intro σ hs
     conv=>whnf
     repeat'((first|apply st|(apply Y;clear Z B Y A)|(apply U;clear U K)|clear U K)<;>conv=>whnf)
     exact AQ ⟨rfl,hs⟩
    ·rw[if_pos rfl]at hd ⊢
     conv=>whnf
     repeat'((first|apply st|(apply sq;intro K U)|(apply si;intro A B Y Z)|(apply Y;clear Z B Y A)|(apply U;clear U K)|refine⟨rfl,?_⟩|(constructor<;>intro hc<;>(try rw[hc])<;>(replace hc:=bp hc)<;>try(exfalso;omega))|clear U K)<;>conv=>whnf)
     exact AQ ⟨rfl,hs⟩
   ·obtain⟨k,hk,-⟩:=It har h5
    have hkm:k∈f.kids:=by rw[hk];exact .head _
    have hvk:lv k≤100:=by
     rw[NB,cV,if_pos h5,hk]at hv;exact hv
    rw[if_neg (by omega),if_pos h5,hk]at hd hcs;have hcs2:Bg f c=Bg k (!c):=hcs;have h0:f.kids[(0:Int).toNat]? =some k:=by rw[hk];rfl
    rw[hcs2]
    conv=>whnf
    repeat'((first|apply st|(apply sq;intro K U)|(apply si;intro A B Y Z)|(apply Y;clear Z B Y A)|(apply U;clear U K)|apply dr|refine⟨rfl,?_⟩|refine⟨kZ,?_⟩|refine O3 ?_|refine ld ?_|(constructor<;>intro hc<;>(try rw[hc])<;>(replace hc:=bp hc)<;>try(exfalso;omega))|fail)<;>conv=>whnf)
    refine(ih k hkm (hnk k hkm) hvk (!c) S _ _ _ H stp D nW s hT hd σ hs).mono ?_;clear hs;rintro r σ ⟨rfl,hs⟩
    conv=>whnf
    repeat'((first|apply st|(apply Y;clear Z B Y A)|(apply U;clear U K)|apply dr|clear U K)<;>conv=>whnf)
    exact AQ ⟨rfl,hs⟩
   ·have hlo:=Fo hl
    have hlB:=Mm f;rw[hl]at hlB;rw[if_neg (by omega),if_neg (by omega),if_neg (by omega)]at hd hcs;have hcs2:Bg f c= [[if c then F2 f else f]]:=by rw[hcs];cases c<;>rfl
    rw[←hcs,hcs2]at hd;rw[hcs2,TF]
    have e:T8 [if c then F2 f else f] true= .l [xF f++[.b c]] true:=by
     show V.l [JT (if c then F2 f else f)] true=_;rw[Xv hl]
    have hst:=(hT true) [if c then F2 f else f] s hd.1;simp only[e]at hst
    conv=>whnf
    repeat'((first|apply st|(apply sq;intro K U)|(apply si;intro A B Y Z)|(apply Y;clear Z B Y A)|(apply U;clear U K)|refine⟨rfl,?_⟩|refine⟨kZ,?_⟩|refine hlB.use ?_|(constructor<;>intro hc<;>(try rw[hc])<;>(replace hc:=bp hc)<;>try(exfalso;omega))|fail)<;>conv=>whnf)
    refine(hst σ hs).mono ?_;clear hs;rintro r σ ⟨rfl,hs⟩
    conv=>whnf
    repeat'((first|apply st|(apply Y;clear Z B Y A)|(apply U;clear U K)|clear U K)<;>conv=>whnf)
    exact AQ ⟨rfl,hs⟩
   ·obtain⟨k0,k1,hk,-,-⟩:=Is har h67
    have hkm0:k0∈f.kids:=by rw[hk];exact .head _
    have hkm1:k1∈f.kids:=by rw[hk];exact .tail _ (.head _)
    have hlf:Bm f=false:=by rw[Nj,decide_eq_false (show¬f.op≤4 by omega),Bool.and_false]
    have hlB:=Mm f;rw[hlf]at hlB
    have hvk:lv k0+lv k1≤100:=by
     rw[NB,cV,if_neg (by omega),if_pos h67,hk]at hv;exact hv
    rw[if_neg (by omega),if_neg (by omega),if_pos h67,hk]at hd hcs;have h0:f.kids[(0:Int).toNat]? =some k0:=by rw[hk];rfl
    have h1:f.kids[(1:Int).toNat]? =some k1:=by rw[hk];rfl
    have i0:=ih k0 hkm0 (hnk k0 hkm0) (by omega);have i1:=ih k1 hkm1 (hnk k1 hkm1) (by omega);by_cases hap:(c != (f.op==7))=true
    ·rw [if_pos hap]at hd hcs
     have hcs2:Bg f c=Bg k0 c++Bg k1 c:=hcs;have hd2:Rk stp D (Bg k0 c++Bg k1 c) s:=hd;obtain⟨hd3,hd4⟩:=Q2 hd2;rw[hcs2,N2];clear hcs hcs2 hd hd2;rcases h67 with h6|h7
     ·have h6b:(f.op==6)=true:=by rw[h6];rfl
      have hct:c=true:=by rw[h6]at hap;cases c<;>simp_all
      subst hct
      conv=>whnf
      repeat'((first|apply st|(apply sq;intro K U)|(apply si;intro A B Y Z)|(apply Y;clear Z B Y A)|(apply U;clear U K)|apply dr|refine⟨rfl,?_⟩|refine⟨kZ,?_⟩|refine O3 ?_|refine ld ?_|refine FI ?_|refine hlB.use ?_|(rw[h6b])|(constructor<;>intro hc<;>(try rw[hc])<;>(replace hc:=bp hc)<;>try(exfalso;omega))|fail)<;>conv=>whnf)
      refine(i0 true S _ _ _ H stp D nW s hT hd3 σ hs).mono ?_;clear hs;rintro r σ ⟨rfl,hs⟩;generalize Ch stp (Bg k0 true) s=x at *;obtain⟨b1,s1⟩:=x;cases b1
      ·conv=>whnf
       repeat'((first|apply st|(apply Y;clear Z B Y A)|(apply U;clear U K)|apply dr|clear U K)<;>conv=>whnf)
       exact AQ ⟨rfl,hs⟩
      ·conv=>whnf
       repeat'((first|apply st|apply dr|refine⟨kZ,?_⟩|refine O3 ?_|refine ld ?_|fail)<;>conv=>whnf)
       refine(i1 true S _ _ _ H stp D nW s1 hT (hd4 rfl) σ hs).mono ?_;clear hs;rintro r σ ⟨rfl,hs⟩
       conv=>whnf
       repeat'((first|apply st|(apply Y;clear Z B Y A)|(apply U;clear U K)|apply dr|clear U K)<;>conv=>whnf)
       exact AQ ⟨rfl,hs⟩
     ·have h6b:(f.op==6)=false:=by rw[h7];rfl
      have hct:c=false:=by rw[h7]at hap;cases c<;>simp_all
      subst hct
      conv=>whnf
      repeat'((first|apply st|(apply sq;intro K U)|(apply si;intro A B Y Z)|(apply Y;clear Z B Y A)|(apply U;clear U K)|apply dr|refine⟨rfl,?_⟩|refine⟨kZ,?_⟩|refine O3 ?_|refine ld ?_|refine FI ?_|refine hlB.use ?_|(rw[h6b])|(constructor<;>intro hc<;>(try rw[hc])<;>(replace hc:=bp hc)<;>try(exfalso;omega))|fail)<;>conv=>whnf)
      refine(i0 false S _ _ _ H stp D nW s hT hd3 σ hs).mono ?_;clear hs;rintro r σ ⟨rfl,hs⟩;generalize Ch stp (Bg k0 false) s=x at *;obtain⟨b1,s1⟩:=x;cases b1
      ·conv=>whnf
       repeat'((first|apply st|(apply Y;clear Z B Y A)|(apply U;clear U K)|apply dr|clear U K)<;>conv=>whnf)
       exact AQ ⟨rfl,hs⟩
      ·conv=>whnf
       repeat'((first|apply st|apply dr|refine⟨kZ,?_⟩|refine O3 ?_|refine ld ?_|fail)<;>conv=>whnf)
       refine(i1 false S _ _ _ H stp D nW s1 hT (hd4 rfl) σ hs).mono ?_;clear hs;rintro r σ ⟨rfl,hs⟩
       conv=>whnf
       repeat'((first|apply st|(apply Y;clear Z B Y A)|(apply U;clear U K)|apply dr|clear U K)<;>conv=>whnf)
       exact AQ ⟨rfl,hs⟩
    ·rw[if_neg hap]at hd hcs
     have hcs2:Bg f c=F3 (Bg k0 c) (Bg k1 c):=hcs;have hd2:Rk stp D (F3 (Bg k0 c) (Bg k1 c)) s:=hd;have hd3:=Sv _ hd2;have hT2:=b9 hT hk (c:=c) (hnk k0 hkm0) (hnk k1 hkm1) (by omega) (by omega) i1;rw[hcs2,QH];clear hcs hcs2 hd hd2;rcases h67 with h6|h7
     ·have h6b:(f.op==6)=true:=by rw[h6];rfl
      have hct:c=false:=by rw[h6]at hap;cases c<;>simp_all
      subst hct
      conv=>whnf
      repeat'((first|apply st|(apply sq;intro K U)|(apply si;intro A B Y Z)|(apply Y;clear Z B Y A)|(apply U;clear U K)|apply dr|refine⟨rfl,?_⟩|refine⟨kZ,?_⟩|refine O3 ?_|refine ld ?_|refine EM ?_|refine hlB.use ?_|(rw[h6b])|(constructor<;>intro hc<;>(try rw[hc])<;>(replace hc:=bp hc)<;>try(exfalso;omega))|fail)<;>conv=>whnf)
      refine(i0 false S _ _ _ H _ _ nW s hT2 (Mk (fun y hy=>hy) hd3) σ hs).mono ?_;clear hs;rintro r σ ⟨rfl,hs⟩
      conv=>whnf
      repeat'((first|apply st|(apply Y;clear Z B Y A)|(apply U;clear U K)|apply dr|fail)<;>conv=>whnf)
      exact AQ ⟨rfl,hs⟩
     ·have h6b:(f.op==6)=false:=by rw[h7];rfl
      have hct:c=true:=by rw[h7]at hap;cases c<;>simp_all
      subst hct
      conv=>whnf
      repeat'((first|apply st|(apply sq;intro K U)|(apply si;intro A B Y Z)|(apply Y;clear Z B Y A)|(apply U;clear U K)|apply dr|refine⟨rfl,?_⟩|refine⟨kZ,?_⟩|refine O3 ?_|refine ld ?_|refine EM ?_|refine hlB.use ?_|(rw[h6b])|(constructor<;>intro hc<;>(try rw[hc])<;>(replace hc:=bp hc)<;>try(exfalso;omega))|fail)<;>conv=>whnf)
      refine(i0 true S _ _ _ H _ _ nW s hT2 (Mk (fun y hy=>hy) hd3) σ hs).mono ?_;clear hs;rintro r σ ⟨rfl,hs⟩
      conv=>whnf
      repeat'((first|apply st|(apply Y;clear Z B Y A)|(apply U;clear U K)|apply dr|fail)<;>conv=>whnf)
      exact AQ ⟨rfl,hs⟩
def jY {w:AK} (f:Fact) (hn:BW w f=true) (hv:lv f≤100) (c:Bool) {S:Type} {fn:Fn} {fi ca:List V} {H:S→List At} {stp:List Fact→S→Bool×S} {D:List Fact→S→Prop} {s:S} (hT: ∀nW,PO (.f fn fi ca) (fun s=> .box nW [SA nW]::H s) stp D) (hd:Rk stp D (Bg f c) s) (σ:AH) (hs:Sat σ (H s)) :
    BD Tryz.prog 224 [.f fn fi ca,.rp (xF f),.rp [.b c]] σ fun r σ'=>r= .ret (.t [])∧Sat σ' (H (Ch stp (Bg f c) s).2):=by
 refine kS kZ ?_
 conv=>whnf
 repeat'((first|apply st|(apply sq;intro K U)|(apply si;intro A B Y Z)|(apply Y;clear Z B Y A)|(apply U;clear U K)|refine⟨kZ,?_⟩|refine ld ?_|refine EV fun σ hs=>?_|(intro nn hnn;generalize hg:A7 _ nn _=σ;refine CY hg fun hs=>?_;clear hg)|fail)<;>conv=>whnf)
 refine(dC f hn hv c S fn fi ca H stp D nn s (hT nn) hd σ hs).mono ?_;clear hs;rintro r σ ⟨rfl,hs⟩
 conv=>whnf
 repeat'((first|(apply Y;clear Z B Y A)|fail)<;>conv=>whnf)
 exact AQ ⟨rfl,hs.less (JR _ _)⟩
def cA (f:Fact) (c:Bool):Pure Tryz.prog 182 [.a (xF f),.b c] (.f (.func 224) [] [.rp (xF f),.rp [.b c]]):=by
 refine lH kZ ?_;have hs:=Sn
 conv=>whnf
 repeat'((first|apply st|(apply sq;intro K U)|(apply si;intro A B Y Z)|(apply Y;clear Z B Y A)|(apply U;clear U K)|fail)<;>conv=>whnf)
 all_goals exact AI rfl
abbrev Mw (w:AK) (l:List Fact) (s:Bool):Bool×Bool:=if I5 w l then(false,true)else(true,s)
def TG {w:AK}: ∀(cs:List (List Fact)),Ch (Mw w) cs false=(!cs.any (I5 w),cs.any (I5 w))
 | []=>rfl
 | l::r=>by
   rw[Ch,QO];simp only[Mw];cases h:I5 w l
   ·simpa using TG r
   ·rfl
def WC {w:AK} {AD:List Fact→Prop}: ∀ {cs:List (List Fact)},(∀l∈cs,AD l)→Rk (Mw w) (fun l s=>s=false∧AD l) cs false
 | [],_=>trivial
 | l ::r,h=>⟨⟨rfl,h l (.head _)⟩,fun hy=>by
     cases ht:I5 w l
     ·have e:(Mw w l false).2=false:=by simp[Mw,ht]
      rw[e];exact WC fun x hx=>h x (.tail _ hx)
     ·simp[Mw,ht]at hy⟩
abbrev my (w:AK) (L:Nat) (E:Env) (ok:FuncId→Array Tmp→Code→Code→Nat→Prop) (nF:Nat):Prop:=
 LS Tryz.prog L E ok (fun(x:List Fact×Bool)=>[T8 x.1 x.2]) (fun s:Bool=>[.box nF [.b s]]) (fun _=>True) (fun x s=>if I5 w x.1 then .stop (.exit 0) true else .go s) (fun x s=>s=false∧(∀y∈x.1,IA w y)∧x.1.length<900)
def eS {w:AK} (f:Fact) (hn:BW w f=true) (hv:lv f≤100) {L:Nat} {E:Env} {ok:FuncId→Array Tmp→Code→Code→Nat→Prop} {nF:Nat} (hY:my w L E ok nF) (σ:AH) (hs:Sat σ [.obj L (.loop .ready E ok),.box nF [.b false]]) :
    BD Tryz.prog 224 [.f (.yield L) [] [],.rp (xF f),.rp [.b false]] σ fun r σ'=>r= .ret (.t [])∧Sat σ' [.obj L (.loop (if T6 w f then .exit 0 else .ready) E ok),.box nF [.b (T6 w f)]]:=by
 have hg:=jY f hn hv false (fn:= .yield L) (fi:=[]) (ca:=[]) (H:=fun s:Bool=>[.obj L (.loop (if s then .exit 0 else .ready) E ok),.box nF [.b s]]) (stp:=Mw w) (D:=fun l s=>s=false∧(∀y∈l,IA w y)∧l.length<900) (s:=false) (by
  rintro nW b l s ⟨rfl,hl,hlen⟩ σ hs;refine hY.use (y:=(l,b)) (s:=false) ⟨rfl,hl,hlen⟩ (rest:=[.box nW [SA nW]]) (hs.perm (Hs _ _ _ _)) ?_;intro r σ' hq;cases ht:I5 w l
  ·simp only[ht,Lu,if_false]at hq
   obtain⟨rfl,hs'⟩:=hq;have e:Mw w l false=(true,false):=by simp[Mw,ht]
   rw[e];exact⟨rfl,hs'.perm (Hs _ _ _ _).symm⟩
  ·simp only[ht,if_true]at hq
   obtain⟨rfl,hs'⟩:=hq;have e:Mw w l false=(false,true):=by simp[Mw,ht]
   rw[e]
   exact⟨rfl,hs'.perm (Hs _ _ _ _).symm⟩) (WC fun l hl=>⟨FW f hn false l hl,by have:=(Js f (DD _ hn) false).2 l hl;omega⟩) σ hs
 rw[TG]at hg;exact hg
def mj (w:AK) (hw:CH w) (f:Fact) (hn:BW w f=true) (hv:lv f≤100):Pure Tryz.prog 141 [.rp (wC w (B2 w.parents)),.a (xF f)] (.b (T6 w f)):=by
 refine Pure.of ?_;refine l9 kZ ?_;have hs:=Sn
 conv=>whnf
 repeat'((first|apply st|(apply sq;intro K U)|(apply si;intro A B Y Z)|(apply Y;clear Z B Y A)|(apply U;clear U K)|refine⟨kZ,?_⟩|refine EV fun σ hs=>?_|refine Pure.use (cA _ _) ?_|(intro nn hnn;generalize hg:A7 _ nn _=σ;refine CY hg fun hs=>?_;clear hg)|fail)<;>conv=>whnf)
 rename_i _ nF hnF _ _ _ _;refine BD.mono (eS (w:=w) f hn hv (L:=nn) (nF:=nF) ?_ σ hs) ?_
 ·refine MD (fun y=>rfl) ?_
  clear hs hnn hnF;rintro⟨l,b⟩ s ⟨rfl,hl,hlen⟩ rest σ hs;dsimp only at hl hlen;have htg:=TN w hw l b hl hlen;dsimp only;cases ht:I5 w l<;>rw[ht]at htg
  ·conv=>whnf
   repeat'((first|apply st|(apply sq;intro K U)|(apply si;intro A B Y Z)|(apply Y;clear Z B Y A)|(apply U;clear U K)|refine htg.use ?_|clear U K)<;>conv=>whnf)
   intro hn;exact Sp (H:=fun s:Bool=>[.box nF [.b s]]) (J:=fun _=>True) (s:=false) rfl hs hn
  ·conv=>whnf
   repeat'((first|apply st|(apply sq;intro K U)|(apply si;intro A B Y Z)|(apply Y;clear Z B Y A)|(apply U;clear U K)|refine EV fun σ hs=>?_|refine htg.use ?_|clear U K)<;>conv=>whnf)
   intro hn;exact Um (H:=fun s:Bool=>[.box nF [.b s]]) (J:=fun _=>True) (s:=true) (st:= .exit 0) rfl hs hn
 ·clear hs hnn hnF
  cases hp:T6 w f
  ·rintro r σ ⟨rfl,hs⟩
   refine FR hs fun σ hs=>?_
   conv=>whnf
   repeat'((first|apply st|(apply sq;intro K U)|(apply si;intro A B Y Z)|(apply Y;clear Z B Y A)|(apply U;clear U K)|refine ld ?_|fail)<;>conv=>whnf)
   exact AQ (by rw[hp])
  ·rintro r σ ⟨rfl,hs⟩
   refine Uq hs fun σ hs=>?_
   conv=>whnf
   repeat'((first|apply st|(apply sq;intro K U)|(apply si;intro A B Y Z)|(apply Y;clear Z B Y A)|(apply U;clear U K)|refine ld ?_|fail)<;>conv=>whnf)
   exact AQ (by rw[hp])
def ig (f:Fact):Pure Tryz.prog 143 [.a (xF f)] (.a (xF (F2 f))):=by
 refine l7 kZ ?_;have hs:=Sn
 conv=>whnf
 repeat'((first|apply st|(apply sq;intro K U)|(apply si;intro A B Y Z)|(apply Y;clear Z B Y A)|(apply U;clear U K)|refine⟨kZ,?_⟩|refine ld ?_|refine sn fun σ hs=>?_|(intro nn hnn;generalize hg:A7 _ nn _=σ;refine al hg fun hs=>?_;clear hg)|fail)<;>conv=>whnf)
 refine Bu (.a (.cons (.refl _) (.cons (.refl _) (.cons Cc (.cons (.refl _) (.cons (.refl _) (.cons ?_ .nil)))))));refine .l (fun h=>by cases h) ?_;simp only[F2,Fact.kids,List.map,B0];exact HN _
def mo (f g:Fact):Pure Tryz.prog 142 [.a (xF f),.a (xF g)] (.a (xF (O6 f g))):=by
 refine l8 kZ ?_;have hs:=Sn
 conv=>whnf
 repeat'((first|apply st|(apply sq;intro K U)|(apply si;intro A B Y Z)|(apply Y;clear Z B Y A)|(apply U;clear U K)|refine⟨kZ,?_⟩|refine ld ?_|refine sn fun σ hs=>?_|(intro nn hnn;generalize hg:A7 _ nn _=σ;refine al hg fun hs=>?_;clear hg)|fail)<;>conv=>whnf)
 refine Bu (.a (.cons (.refl _) (.cons (.refl _) (.cons Cc (.cons (.refl _) (.cons (.refl _) (.cons ?_ .nil)))))));refine .l (fun h=>by cases h) ?_;simp only[O6,Fact.kids,List.map,B0];exact HN _
def U6 (w:AK) (hw:CH w) (a b:Fact) (ha:BW w a=true) (hb:BW w b=true) (hl:lv a+lv b≤100):Pure Tryz.prog 110 [.rp (wC w (B2 w.parents)),.a (xF a),.a (xF b)] (.b (O4 w a b)):=by
 have hcan:=mj w hw (O6 a (F2 b)) (Sw ha hb) (by rw[jI];exact hl);refine mV kZ ?_;have hs:=Sn
 conv=>whnf
 repeat'((first|apply st|(apply sq;intro K U)|(apply si;intro A B Y Z)|(apply Y;clear Z B Y A)|(apply U;clear U K)|apply dr|refine rk ?_ ?_|exact fun s e=>by cases e;rfl|refine⟨kZ,?_⟩|refine Pure.use (ig _) ?_|refine Pure.use (mo _ _) ?_|refine hcan.use ?_|fail)<;>conv=>whnf)
 all_goals exact AI rfl
def QM (w:AK) (hw:CH w) (a b:Fact) (ha:CW w a=true) (hb:CW w b=true) (hna:BW w a=true) (hnb:BW w b=true) (hl:lv a+lv b≤100):Pure Tryz.prog 76 [.a (BE w),.a (xF a),.a (xF b)] (.t [.b (O4 w a b),eI 0]):=by
 have hrd: ∀f,Pure Tryz.prog 109 [.a (BE w),.l [xF a,xF b] f] (.t [.rp (wC w (B2 w.parents)),.b true]):=fun f=>by
  have:=Mh w hw [a,b] f (by simp);rw[show([a,b].all (KA w))=true by simp[Mp,ha,hb]]at this;simpa[B0]using this
 have hip:=U6 w hw a b hna hnb hl;refine pB kZ ?_;have hs:=Sn
 conv=>whnf
 repeat'((first|apply st|(apply sq;intro K U)|(apply si;intro A B Y Z)|(apply Y;clear Z B Y A)|(apply U;clear U K)|refine⟨kZ,?_⟩|refine EM ?_|refine Pure.use (hrd _) ?_|refine hip.use ?_|fail)<;>conv=>whnf)
 all_goals exact AI rfl
attribute [local irreducible] MZ
def tK (p:Prog) (nO:Nat) (r:R) (post:List At):Prop:=
 match BA p with
 | some s=>r= .ret (.t [])∧ ∃v,post= [.box nO [v],.own v 1 (iL s)]
 | none=>r= .Cw Dn∧ ∃v s,post= [.box nO [v],.own v 1 (iL s)]
def XY (p:Prog) (nO:Nat):Bc Tryz.prog 162 [.rp (BN p),.p nO 0] [.box nO [.l [] true]] (tK p nO):=fun σ hs=>
 BD.mono (ah p nO σ hs) fun r σ' hq=>by
  unfold m5 at hq;unfold tK;cases h:BA p with
  | some s=>
    rw[h]at hq;obtain⟨h1,v,h2⟩:=hq;exact⟨_,⟨h1,v,rfl⟩,h2⟩
  | none=>
    rw[h]at hq;obtain⟨h1,v,s,h2⟩:=hq;exact⟨_,⟨h1,v,s,rfl⟩,h2⟩
def ep {σ:AH} {n:Nat} {x:V} {rest:List At} (hs:Sat σ (.box n [x]::rest)) {Q:AH→Prop} (hq: ∀σ',Sat σ' (.box n [.b false]::rest)→Q σ'):MZ Tryz.prog 207 [.p n 0] (some Dn) σ Q:=by
 refine Ws kZ ?_
 conv=>whnf
 repeat'((first|apply st|(apply sq;intro K U)|(apply si;intro A B Y Z)|(apply Y;clear Z B Y A)|(apply U;clear U K)|refine EV fun σ hs=>?_|refine DT fun σ hs=>?_|refine EM ?_|refine gi rfl ?_|(intro nn hnn;generalize hg:A7 _ nn _=σ;refine CY hg fun hs=>?_;clear hg)|fail)<;>conv=>whnf)
 exact hq _ (hs.less (JR _ _))
def er {σ:AH} {n:Nat} {x:V} {rest:List At} (hs:Sat σ (.box n [x]::rest)) {Q:AH→Prop} (hq: ∀σ',Sat σ' (.box n [x]::rest)→Q σ'):MZ Tryz.prog 207 [.p n 0] none σ Q:=by
 refine Ws kZ ?_
 conv=>whnf
 repeat'((first|apply st|(apply sq;intro K U)|(apply si;intro A B Y Z)|(apply Y;clear Z B Y A)|(apply U;clear U K)|refine EM ?_|fail)<;>conv=>whnf)
 exact hq _ hs
def YI (p:Prog) (nO:Nat):Bc Tryz.prog 161 [.f (.func 162) [] [.rp (BN p),.p nO 0]] [.box nO [.l [] true]] fun r post=>r= .ret (.b (BA p).isSome)∧ ∃v s,post= [.box nO [v],.own v 1 (iL s)]∧(BA p=none∨BA p=some s):=by
 intro σ hs;refine lY kZ ?_
 conv=>whnf
 repeat'((first|(apply sq;intro K U)|(apply si;intro A B Y Z)|(apply Y;clear Z B Y A)|(apply U;clear U K)|(intro nn hnn;generalize hg:A7 _ nn _=σ;refine CY hg fun hs=>?_;clear hg)|fail)<;>conv=>whnf)
 refine Bk ?_;refine(XY p nO).use (rest:=[.box nn [.b false]]) (hs.perm (.swap _ _ _)) ?_;clear hs hnn;rintro r post σ hq hs;unfold tK at hq;cases h:BA p with
 | none=>
   rw[h]at hq;obtain⟨rfl,v,s,rfl⟩:=hq
   conv=>whnf
   repeat'((first|(refine Z _ _ _ ?_;clear Z B Y A)|clear U K)<;>conv=>whnf)
   refine ep (rest:=[.box nO [v],.own v 1 (iL s)]) (hs.perm Rt) fun σ hs=>?_
   conv=>whnf
   repeat'((first|refine ld ?_|fail)<;>conv=>whnf)
   exact AQ ⟨_,⟨by rw[h];rfl,v,s,rfl,.inl h⟩,hs.less (JR _ _)⟩
 | some s=>
   rw[h]at hq;obtain⟨rfl,v,rfl⟩:=hq
   conv=>whnf
   repeat'((first|apply st|(apply sq;intro K U)|(apply si;intro A B Y Z)|(apply Y;clear Z B Y A)|(apply U;clear U K)|refine EV fun σ hs=>?_|fail)<;>conv=>whnf)
   replace hs:Sat σ ([.box nO [v],.own v 1 (iL s)]++[.box nn [.b true]]):=hs;refine er (x:= .b true) (rest:=[.box nO [v],.own v 1 (iL s)]) (hs.perm Rt) fun σ hs=>?_
   conv=>whnf
   repeat'((first|refine ld ?_|fail)<;>conv=>whnf)
   exact AQ ⟨_,⟨by rw[h];rfl,v,s,rfl,.inr h⟩,hs.less (JR _ _)⟩
def ai (p:Prog):Bc Tryz.prog 137 [.a (BN p)] [] fun r post=> ∃v s,r= .ret (.t [v,.b (BA p).isSome])∧post= [.own v 1 (iL s)]∧(BA p=none∨BA p=some s):=by
 intro σ hs;refine mD kZ ?_
 conv=>whnf
 repeat'((first|(apply sq;intro K U)|(apply si;intro A B Y Z)|(apply Y;clear Z B Y A)|(apply U;clear U K)|(intro nn hnn;generalize hg:A7 _ nn _=σ;refine CY hg fun hs=>?_;clear hg)|fail)<;>conv=>whnf)
 refine(YI p nn).use (rest:=[]) (by simpa using hs) ?_;clear hs;rintro r post σ ⟨rfl,v,s,rfl,hl⟩ hs
 conv=>whnf
 repeat'((first|apply st|(apply sq;intro K U)|(apply si;intro A B Y Z)|(apply Y;clear Z B Y A)|(apply U;clear U K)|refine ld ?_|fail)<;>conv=>whnf)
 exact AQ ⟨_,⟨v,s,rfl,rfl,hl⟩,hs.less (.cons _ (.cons₂ _ (Lr _)))⟩
def cP (p:Prog):Pure Tryz.prog 107 [.a (BN p)] (eI (if(BA p).isSome then 0 else 2)):=by
 refine Pure.of ?_;have hz:=ai p;cases h:(BA p).isSome<;>rw[h]at hz
 all_goals
  refine mY kZ ?_;have hs:=Sn
  conv=>whnf
  repeat'((first|apply st|(apply sq;intro K U)|(apply si;intro A B Y Z)|(apply Y;clear Z B Y A)|(apply U;clear U K)|refine⟨kZ,?_⟩|fail)<;>conv=>whnf)
  refine hz.use (rest:=[]) (by simpa using hs) ?_;clear hs;rintro r post σ ⟨v,s,rfl,rfl,-⟩ hs
  conv=>whnf
  repeat'((first|apply st|(apply sq;intro K U)|(apply si;intro A B Y Z)|(apply Y;clear Z B Y A)|(apply U;clear U K)|refine FI ?_|refine EM ?_|clear U K)<;>conv=>whnf)
  exact AQ rfl
def ZF {p:Prog} (h:(BA p).isSome=true):Bl p.AL≤40:=by
 obtain⟨hh,-⟩:=DA h;simp only[Cf,BV,CL]at hh;exact(Kj hh.1).2.1
def UW {p:Prog} (h:(BA p).isSome=true):p.AL.length≤10:=by
 obtain⟨hh,-⟩:=DA h;simp only[Cf,BV,CL]at hh;exact(Kj hh.1).2.2
def NG {p:Prog} (h:(BA p).isSome=true):CH (AR p):=by
 obtain⟨hh,-⟩:=DA h;simp only[Cf,BV,CL]at hh;exact(Kj hh.1).1
def fQ (p:Prog):Pure Tryz.prog 71 [.a (BN p)] (if(BA p).isSome then .t [.a (BE (AR p)),eI 0]else .t [.a [.l [] true,.l [] true],eI 2]):=by
 have hz:=cP p;have hM:=Mx;cases h:(BA p).isSome<;>rw[h]at hz
 ·simp only[Lu,if_false]at hz ⊢
  refine gJ kZ ?_;have hs:=Sn
  conv=>whnf
  repeat'((first|apply st|(apply sq;intro K U)|(apply si;intro A B Y Z)|(apply Y;clear Z B Y A)|(apply U;clear U K)|refine⟨rfl,?_⟩|refine⟨kZ,?_⟩|refine ld ?_|refine DT fun σ hs=>?_|refine hz.use ?_|(constructor<;>intro hc<;>(try rw[hc])<;>(replace hc:=bp hc)<;>try(exfalso;omega))|(intro nn hnn;generalize hg:A7 _ nn _=σ;refine CY hg fun hs=>?_;clear hg)|clear U K)<;>conv=>whnf)
  all_goals exact AI rfl
 ·simp only[if_true]at hz ⊢
  have hm:=ZF h;have hc10:=UW h;refine gJ kZ ?_;have hs:=Sn
  conv=>whnf
  repeat'((first|apply st|(apply sq;intro K U)|(apply si;intro A B Y Z)|(apply Y;clear Z B Y A)|(apply U;clear U K)|refine⟨rfl,?_⟩|refine⟨kZ,?_⟩|refine ld ?_|refine DT fun σ hs=>?_|refine hz.use ?_|refine Pure.use (SS p (by omega) (by omega)) ?_|(constructor<;>intro hc<;>(try rw[hc])<;>(replace hc:=bp hc)<;>(try simp(disch:=omega) only[BR,wrap64,AM]at hc)<;>try(exfalso;omega))|(intro nn hnn;generalize hg:A7 _ nn _=σ;refine CY hg fun hs=>?_;clear hg)|fail)<;>conv=>whnf)
  all_goals exact AI rfl
end Go.Gl
namespace Go.Gl
open Go.Proofs
attribute [local irreducible] BD Aw Ai AU AO Ah AV AW AN Ag AS AT Ay A9 Sat Ab A4 Aj W
abbrev vL (p:Prog) (L:Nat):List V:=BN p++(BE (AR p)++[.m L])
abbrev Ff (p:Prog) (L:Nat):V:= .rp (vL p L)
abbrev kM (x:Int×Int):V:= .a [eI x.1,eI x.2]
def E2 (p:Prog) (M:List (Int×Int)):List (V×V):=M.map fun x=>(kM x,.b (EC p x.1 x.2))
def G9 (p:Prog) (M:List (Int×Int)): ∀kv∈E2 p M,Bo (.a [.i64,.i64]) kv.1=true:=by
 intro kv h;obtain⟨e,_,rfl⟩:=Ls.1 h;rfl
def fw (x y:Int×Int):EF (kM x) (kM y)=(x==y):=by
 obtain⟨a,b⟩:=x;obtain⟨c,d⟩:=y;have e:EF (kM (a,b)) (kM (c,d))=(a==c&&b==d):=by simp[EF,CD,kM]
 rw[e];rfl
def Nk (p:Prog) (x:Int×Int): ∀(M:List (Int×Int)),C9 (kM x) (E2 p M)=if M.contains x then some (.b (EC p x.1 x.2))else none
 | []=>rfl
 | y ::r=>by
   rw[E2,EA,C9,fw,List.contains_cons];cases h:x==y
   ·rw[cond_false,Bool.false_or]
    exact Nk p x r
   ·rw[cond_true,Bool.true_or,if_pos rfl]
    have:x=y:=by simpa using h
    rw[this]
def RA (p:Prog) (x:Int×Int): ∀(M:List (Int×Int)),M.contains x=false→ED (kM x) (.b (EC p x.1 x.2)) (E2 p M)=E2 p (M++[x])
 | [],_=>rfl
 | y::r,h=>by
   rw[List.contains_cons,Bool.or_eq_false_iff]at h;have ih:=RA p x r h.2;simp only[E2]at ih;rw[E2,EA,ED,fw,h.1,cond_false,ih];rfl
def IZ (p:Prog):Bc Tryz.prog 42 [.a (BN p)] [] fun r post=>if(BA p).isSome then∃L,r= .ret (Ff p L)∧post= [.map L []]else r= .ret .pn∧post= []:=by
 intro σ hs;have hw:=fQ p;cases h:(BA p).isSome<;>rw[h]at hw
 ·simp only[Lu,if_false]at hw ⊢
  refine gP kZ ?_
  conv=>whnf
  repeat'((first|apply st|(apply sq;intro K U)|(apply si;intro A B Y Z)|(apply Y;clear Z B Y A)|(apply U;clear U K)|refine⟨rfl,?_⟩|refine⟨kZ,?_⟩|refine DT fun σ hs=>?_|refine hw.use ?_|(constructor<;>intro hc<;>(try rw[hc])<;>(replace hc:=bp hc)<;>try(exfalso;omega))|(intro nn hnn;generalize hg:A7 _ nn _=σ;refine CY hg fun hs=>?_;clear hg)|clear U K)<;>conv=>whnf)
  exact AQ ⟨_,⟨rfl,rfl⟩,hs.less (Lr _)⟩
 ·simp only[if_true]at hw ⊢
  refine gP kZ ?_
  conv=>whnf
  repeat'((first|apply st|(apply sq;intro K U)|(apply si;intro A B Y Z)|(apply Y;clear Z B Y A)|(apply U;clear U K)|refine⟨rfl,?_⟩|refine⟨kZ,?_⟩|refine ld ?_|refine DT fun σ hs=>?_|refine hw.use ?_|(constructor<;>intro hc<;>(try rw[hc])<;>(replace hc:=bp hc)<;>(try simp(disch:=omega) only[BR,wrap64,AM]at hc)<;>try(exfalso;omega))|(intro nn hnn;generalize hg:A7 _ nn _=σ;refine CY hg fun hs=>?_;clear hg)|fail)<;>conv=>whnf)
  exact AQ ⟨_,⟨nn,rfl,rfl⟩,hs.less (.cons₂ _ (Lr _))⟩
def oR (p:Prog) (L:Nat) (m:Int):Pure Tryz.prog 73 [eI m,.rp [Ff p L]] (.b (!A5 p m)):=by
 refine pE kZ ?_;have hs:=Sn
 conv=>whnf
 repeat'((first|apply st|(apply sq;intro K U)|(apply si;intro A B Y Z)|(apply Y;clear Z B Y A)|(apply U;clear U K)|refine⟨rfl,?_⟩|(constructor<;>intro hc<;>(try rw[hc])<;>(replace hc:=bp hc))|fail)<;>conv=>whnf)
 ·refine AI ?_
  have e1:decide (0≤m)=true:=decide_eq_true hc;rw[A5,e1,Ev,BR];show V.b (decide (m≥(p.methods.length:Int)))=_;by_cases hl:m<(p.methods.length:Int)
  ·rw[decide_eq_true hl,decide_eq_false (by omega)];rfl
  ·rw[decide_eq_false hl,decide_eq_true (by omega)];rfl
 ·refine AI ?_
  rw[A5,decide_eq_false (by omega)];rfl
def Mb {g:FuncId} {fi ca:List V} {f:Int→Bool} {xs:List Int} (b:Bool) (h: ∀y∈xs,Pure Tryz.prog g (fi++[eI y]++ca) (.b (f y))):Pure Tryz.prog 72 [.l (iL xs) b,.f (.func g) fi ca] (.b (xs.any f)):=by
 have:=GH g fi ca (fun _=>[]) (fun y (_:Unit)=>(f y,())) (fun y _=>y∈xs) (OC fun y hy=>h y hy) xs b () (Gk fun y hy _=>hy);rw[Kk]at this;exact Pure.of (BD.mono (this emp Sat.nil) fun r σ' ⟨post,⟨h1,h2⟩,h3⟩=>h1)
def gA (p:Prog) (L:Nat) (l:List Int) (b:Bool):Pure Tryz.prog 43 [Ff p L,.l (iL l) b] (.b (l.all (A5 p))):=by
 have hc:=fun b=>Mb (g:=73) (fi:=[]) (ca:=[.rp [Ff p L]]) (f:=fun m=> !A5 p m) (xs:=l) b fun y _=>oR p L y
 refine gO kZ ?_;have hs:=Sn
 conv=>whnf
 repeat'((first|apply st|(apply sq;intro K U)|(apply si;intro A B Y Z)|(apply Y;clear Z B Y A)|(apply U;clear U K)|refine Pure.use (hc _) ?_|fail)<;>conv=>whnf)
 all_goals exact AI (by rw[List.all_eq_not_any_not];rfl)
def Zj (l:List Int) (b:Bool):Pure Tryz.prog 43 [.pn,.l (iL l) b] (.b false):=by
 refine gO kZ ?_;have hs:=Sn
 conv=>whnf
 repeat'((first|apply st|(apply sq;intro K U)|(apply si;intro A B Y Z)|(apply Y;clear Z B Y A)|(apply U;clear U K)|refine EM ?_|fail)<;>conv=>whnf)
 all_goals exact AI rfl
def Ms (p:Prog) (L:Nat) (m n:Int) (hm:A5 p m=true) (hn:A5 p n=true):Pure Tryz.prog 44 [Ff p L,eI m,eI n] (.b (Cq p m n)):=by
 refine Pure.fit (by kernel_rfl) fun hf=>?_
 have hxm:=B7 hm;have hxn:=B7 hn;simp only[A5,BV,CL]at hm hn;refine pU kZ ?_;have hs:=Sn
 conv=>whnf
 repeat'((first|apply st|(apply sq;intro K U)|(apply si;intro A B Y Z)|(apply Y;clear Z B Y A)|(apply U;clear U K)|apply dr|refine rk ?_ ?_|exact fun s e=>by cases e;rfl|refine⟨rfl,?_⟩|refine⟨kZ,?_⟩|refine ID ?_|refine ld ?_|refine DT fun σ hs=>?_|(constructor<;>intro hc<;>(try rw[hc])<;>(replace hc:=bp hc))|(intro nn hnn;generalize hg:A7 _ nn _=σ;refine CY hg fun hs=>?_;clear hg)|fail)<;>conv=>whnf)
 all_goals exact AI (by simp[Cq, *])
set_option maxHeartbeats 1000000 in
def Pv (p:Prog) (L:Nat) (m n:Int) (hk:DE p) (hgw:CH (AR p)) (hfm: ∀x∈p.methods,CW (AR p) x.fact=true) (hm:A5 p m=true) (hn:A5 p n=true) (M:List (Int×Int)) :
    Bc Tryz.prog 54 [Ff p L,eI m,eI n] [.map L (E2 p M)] fun r post=>r= .ret (.b (EC p m n))∧ ∃M',post= [.map L (E2 p M')]:=by
 intro σ hs;have hxm:=B7 hm;have hxn:=B7 hn;have hmm:=Cg hxm;have hmn:=Cg hxn;have hip:=QM (AR p) hgw (BL p m).fact (BL p n).fact (hfm _ hmm) (hfm _ hmn) (hk.facts _ hmm).1 (hk.facts _ hmn).1 (by have:=(hk.facts _ hmm).2;have:=(hk.facts _ hmn).2;omega);simp only[A5,BV,CL]at hm hn;have hfd:=Nk p (m,n) M;refine gL kZ ?_;cases hc:M.contains (m,n)
 ·rw[hc,if_neg (by decide)]at hfd
  conv=>whnf
  repeat'((first|apply st|(apply sq;intro K U)|(apply si;intro A B Y Z)|(apply Y;clear Z B Y A)|(apply U;clear U K)|apply dr|refine⟨kZ,?_⟩|refine ID ?_|refine ld ?_|refine DT fun σ hs=>?_|refine FI ?_|refine LO hs 1 rfl rfl (G9 _ _) hfd ?_|refine Ha hs 1 rfl rfl (G9 _ _) fun σ hs=>?_|refine hip.use ?_|(intro nn hnn;generalize hg:A7 _ nn _=σ;refine CY hg fun hs=>?_;clear hg)|fail)<;>conv=>whnf)
  replace hs:Sat σ [.box nn [eI m,eI n],.map L (ED (kM (m,n)) (.b (EC p m n)) (E2 p M))]:=hs;rw[RA p (m,n) M hc]at hs;exact AQ ⟨_,⟨rfl,_,rfl⟩,hs.less (JR _ _)⟩
 ·rw[hc,if_pos rfl]at hfd
  conv=>whnf
  repeat'((first|apply st|(apply sq;intro K U)|(apply si;intro A B Y Z)|(apply Y;clear Z B Y A)|(apply U;clear U K)|apply dr|refine⟨kZ,?_⟩|refine ld ?_|refine DT fun σ hs=>?_|refine EM ?_|refine LO hs 1 rfl rfl (G9 _ _) hfd ?_|(intro nn hnn;generalize hg:A7 _ nn _=σ;refine CY hg fun hs=>?_;clear hg)|fail)<;>conv=>whnf)
  exact AQ ⟨_,⟨rfl,M,rfl⟩,hs.less (JR _ _)⟩
def fN (p:Prog) (L:Nat) (m n:Int) (hk:DE p) (hgw:CH (AR p)) (hfm: ∀x∈p.methods,CW (AR p) x.fact=true) (hm:A5 p m=true) (hn:A5 p n=true) (M:List (Int×Int)) :
    Bc Tryz.prog 45 [Ff p L,eI m,eI n] [.map L (E2 p M)] fun r post=>r= .ret (.b (Al p m n))∧ ∃M',post= [.map L (E2 p M')]:=by
 intro σ hs;have h1:=fun M=>Pv p L m n hk hgw hfm hm hn M
 have h2:=fun M=>Pv p L n m hk hgw hfm hn hm M
 unfold Al;cases hb1:EC p m n<;>cases hb2:EC p n m<;>rw[hb1]at h1<;>rw[hb2]at h2
 all_goals
  refine gN kZ ?_
  conv=>whnf
  repeat'((first|(apply sq;intro K U)|(apply si;intro A B Y Z)|(apply Y;clear Z B Y A)|(apply U;clear U K)|fail)<;>conv=>whnf)
  refine(h1 M).use (rest:=[]) (by simpa using hs) ?_;clear hs;rintro r post σ ⟨rfl,M',rfl⟩ hs
  conv=>whnf
  repeat'((first|apply st|(apply Y;clear Z B Y A)|(apply U;clear U K)|fail)<;>conv=>whnf)
 ·exact AQ ⟨_,⟨rfl,M',rfl⟩,hs⟩
 ·exact AQ ⟨_,⟨rfl,M',rfl⟩,hs⟩
 all_goals
  refine(h2 M').use (rest:=[]) (by simpa using hs) ?_;clear hs;rintro r post σ ⟨rfl,M2,rfl⟩ hs
  conv=>whnf
  repeat'((first|apply st|(apply Y;clear Z B Y A)|(apply U;clear U K)|fail)<;>conv=>whnf)
  exact AQ ⟨_,⟨rfl,M2,rfl⟩,hs⟩
def KM {p:Prog} (h:(BA p).isSome=true): ∀x∈p.methods,CW (AR p) x.fact=true:=fun x hx=>by
 have:=(DA h).2 x hx;simp only[Mu,BV]at this;exact this.2.2.2.2.1
def RP (p:Prog) (m n:Int):Pure Tryz.prog 12 [.a (BN p),eI m,eI n] (.t [.b (HU p m n).1,eI (HU p m n).2]):=by
 refine Pure.of ?_;have hr:=IZ p;refine pj kZ ?_;have hs:=Sn
 conv=>whnf
 repeat'((first|apply st|(apply sq;intro K U)|(apply si;intro A B Y Z)|(apply Y;clear Z B Y A)|(apply U;clear U K)|refine⟨kZ,?_⟩|fail)<;>conv=>whnf)
 refine hr.use (rest:=[]) (by simpa using hs) ?_;clear hs;cases h:(BA p).isSome
 ·have hh:=fun b=>Zj [m,n] b
  rintro r post σ ⟨rfl,rfl⟩ hs
  conv=>whnf
  repeat'((first|apply st|(apply sq;intro K U)|(apply si;intro A B Y Z)|(apply Y;clear Z B Y A)|(apply U;clear U K)|refine FI ?_|refine Pure.use (hh _) ?_|clear U K)<;>conv=>whnf)
  exact AQ (by simp[HU,h])
 ·rintro r post σ ⟨L,rfl,rfl⟩ hs
  have hh:=fun b=>gA p L [m,n] b
  have hall: [m,n].all (A5 p)=(A5 p m&&A5 p n):=by simp
  rw[hall]at hh;cases hmn:A5 p m&&A5 p n<;>rw[hmn]at hh
  ·conv=>whnf
   repeat'((first|apply st|(apply sq;intro K U)|(apply si;intro A B Y Z)|(apply Y;clear Z B Y A)|(apply U;clear U K)|refine FI ?_|refine Pure.use (hh _) ?_|clear U K)<;>conv=>whnf)
   exact AQ (by simp only[HU,h,hmn];rfl)
  ·obtain⟨hm,hn⟩:=Bool.and_eq_true_iff.1 hmn
   have ha:=Ms p L m n hm hn;cases hal:Cq p m n<;>rw[hal]at ha
   ·conv=>whnf
    repeat'((first|apply st|(apply sq;intro K U)|(apply si;intro A B Y Z)|(apply Y;clear Z B Y A)|(apply U;clear U K)|refine FI ?_|refine EM ?_|refine Pure.use (hh _) ?_|refine ha.use ?_|clear U K)<;>conv=>whnf)
    exact AQ (by simp only[HU,h,hmn,hal];rfl)
   ·conv=>whnf
    repeat'((first|apply st|(apply sq;intro K U)|(apply si;intro A B Y Z)|(apply Y;clear Z B Y A)|(apply U;clear U K)|refine EM ?_|refine Pure.use (hh _) ?_|refine ha.use ?_|fail)<;>conv=>whnf)
    refine(fN p L m n (look_ok h) (NG h) (KM h) hm hn []).use (rest:=[]) hs ?_;clear hs;rintro r post σ ⟨rfl,M,rfl⟩ hs
    conv=>whnf
    repeat'((first|apply st|(apply Y;clear Z B Y A)|(apply U;clear U K)|fail)<;>conv=>whnf)
    exact AQ (by simp only[HU,h,hmn,hal];rfl)
structure XA (T:List (List Bool)) (l:List Int):Prop where
 len:T.length≤16
 sq: ∀r∈T,r.length=T.length
 ins: ∀x∈l,0≤x∧x<(T.length:Int)
 many:l.length≤16
def I4 (A:Int→Int→Bool) (l:List Int) (i k:Nat):Bool:=(List.range k).all fun j=>j==i||A (l.getD i 0) (l.getD j 0)
def IW (A:Int→Int→Bool) (l:List Int):Option Nat:=(List.range l.length).find? fun i=>I4 A l i l.length
def XO (A:Int→Int→Bool) (l:List Int) (i k:Nat):I4 A l i (k+1)=(I4 A l i k&&(k==i||A (l.getD i 0) (l.getD k 0))):=by
 rw[I4,List.range_succ,List.all_append,I4];simp
def FF {l:List Int} {k:Nat} {x:Int} (h:l[k]? =some x):l.getD k 0=x:=by rw[DS,h];rfl
def CI (A:Int→Int→Bool):Nat→List Int→List Int×Bool
 | 0,_=>([],false)
 | k+1,l=>match IW A l with
   | none=>([],!l.isEmpty)
   | some i=>(l.getD i 0::(CI A k (l.eraseIdx i)).1,(CI A k (l.eraseIdx i)).2)
def XA.less {T:List (List Bool)} {l:List Int} (h:XA T l) (i:Nat):XA T (l.eraseIdx i):=
 ⟨h.len,h.sq,fun x hx=>h.ins x (List.mem_of_mem_eraseIdx hx),Nat.le_trans (List.length_eraseIdx_le _ _) h.many⟩
def MW (x:Int) (out:List Int):List Int:=out.takeWhile (fun y=>decide (y<x))++x::out.dropWhile (fun y=>decide (y<x))
def Hq (l:List Int):List Int:=l.foldl (fun out x=>MW x out) []
def R1 (A:Int→Int→Bool) (l:List Int) (i k:Nat):Bool:=(List.range k).all fun j=> !A (l.getD j 0) (l.getD i 0)
def QZ (A:Int→Int→Bool) (l:List Int):Option Nat:=(List.range l.length).find? fun i=>R1 A l i l.length
def E4 (A:Int→Int→Bool):Nat→List Int→List Int
 | 0,_=>[]
 | k+1,l=>l.getD ((QZ A l).getD 0) 0::E4 A k (l.eraseIdx ((QZ A l).getD 0))
abbrev RW:=Nat×List Bool
def Fv {l:List Int} {k:Nat} (h:k<l.length):l.getD k 0∈l:=by
 rw[DS,DZ h];exact List.getElem_mem h
structure gl (n:Nat) (R:List RW):Prop where
 len:R.length=n
 row: ∀r∈R,r.2.length=n
def gl.put {n:Nat} {R:List RW} {r:RW} (h:gl n R) {j k:Nat} {b:Bool} (hr:R[j]? =some r):gl n (R.set j (r.1,r.2.set k b)):=by
 refine⟨by rw[List.length_set];exact h.len,fun q hq=>?_⟩;rcases List.mem_or_eq_of_mem_set hq with hq|rfl
 ·exact h.row q hq
 ·rw[List.length_set];exact h.row r (Cg hr)
def Ju {f g:Nat→Bool}: ∀ {l:List Nat},(∀x∈l,f x=g x)→l.all f=l.all g
 | [],_=>rfl
 | x::r,h=>by rw[Rs,Rs,h x (.head _),Ju fun y hy=>h y (.tail _ hy)]
def Ug {A B:Int→Int→Bool} {l:List Int} (h: ∀x∈l,∀y∈l,A x y=B x y) {i:Nat} (hi:i<l.length):I4 A l i l.length=I4 B l i l.length:=by
 rw[I4,I4];refine Ju fun k hk=>?_
 rw[h _ (Fv hi) _ (Fv (List.mem_range.1 hk))]
def find_congr {f g:Nat→Bool}: ∀ {l:List Nat},(∀x∈l,f x=g x)→l.find? f=l.find? g
 | [],_=>rfl
 | x::r,h=>by
   rw[List.find?_cons,List.find?_cons,h x (.head _),find_congr fun y hy=>h y (.tail _ hy)]
def Rc {A B:Int→Int→Bool} {l:List Int} (h: ∀x∈l,∀y∈l,A x y=B x y):IW A l=IW B l:=
 find_congr fun i hi=>Ug h (List.mem_range.1 hi)
def K1 {A B:Int→Int→Bool}: ∀(k:Nat) (l:List Int),(∀x∈l,∀y∈l,A x y=B x y)→CI A k l=CI B k l
 | 0,_,_=>rfl
 | k + 1,l,h=>by
   rw[CI,CI,Rc h];cases IW B l with
   | none=>rfl
   | some i=>
     dsimp only;rw[K1 k (l.eraseIdx i) fun x hx y hy=>h x (List.mem_of_mem_eraseIdx hx) y (List.mem_of_mem_eraseIdx hy)]
def U1 {A B:Int→Int→Bool} {l:List Int} (h: ∀x∈l,∀y∈l,A x y=B x y):QZ A l=QZ B l:=
 find_congr fun i hi=>by
  rw[R1,R1];refine Ju fun k hk=>?_
  rw[h _ (Fv (List.mem_range.1 hk)) _ (Fv (List.mem_range.1 hi))]
def Om {A B:Int→Int→Bool}: ∀(k:Nat) (l:List Int),(∀x∈l,∀y∈l,A x y=B x y)→E4 A k l=E4 B k l
 | 0,_,_=>rfl
 | k+1,l,h=>by
   rw[E4,E4,U1 h,Om k (l.eraseIdx _) fun x hx y hy=>h x (List.mem_of_mem_eraseIdx hx) y (List.mem_of_mem_eraseIdx hy)]
def Nn {x y:Int} {out:List Int}:y∈MW x out↔y=x∨y∈out:=by
 have h:=List.takeWhile_append_dropWhile (p:=fun y=>decide (y<x)) (l:=out);rw[MW];constructor
 ·intro hy
  rcases FX.1 hy with hy|hy
  ·right;rw[←h];exact Mt _ hy
  ·rcases FE.1 hy with rfl|hy
   ·exact .inl rfl
   ·right;rw[←h];exact LA _ hy
 ·rintro(rfl|hy)
  ·exact LA _ (.head _)
  ·rw[←h]at hy
   rcases FX.1 hy with hy|hy
   ·exact Mt _ hy
   ·exact LA _ (.tail _ hy)
def Oc: ∀(l out:List Int) (y:Int),y∈l.foldl (fun out x=>MW x out) out↔y∈l∨y∈out
 | [],out,y=>by simp
 | x ::r,out,y=>by
   rw[List.foldl_cons,Oc r,Nn,FE];constructor
   ·rintro(h|h|h)
    ·exact .inl (.inr h)
    ·exact .inl (.inl h)
    ·exact .inr h
   ·rintro((h|h)|h)
    ·exact .inr (.inl h)
    ·exact .inl h
    ·exact .inr (.inr h)
def La {l:List Int} {y:Int}:y∈Hq l↔y∈l:=by rw[Hq,Oc];simp
structure NR (p:Prog) (l:List Int):Prop where
 Ly: ∀x∈l,A5 p x=true
 alike: ∀x∈l,∀y∈l,Cq p x y=true
 many:l.length≤16
def fW (p:Prog) (l:List Int) (kd:Bool) (x:Int):Bool:=A5 p x&&((BL p x).gen==(BL p (l.getD 0 0)).gen&&(!kd||Cq p x (l.getD 0 0)))
def G1 (p:Prog) (l:List Int) (kd:Bool):Bool:=l.all (fW p l kd)&&decide l.Nodup
def Xy {p:Prog} {l:List Int} {kd:Bool} {i:Nat} {x:Int} (hx:l[i]? =some x) (h:fW p l kd x=false):G1 p l kd=false:=by
 rw[G1,Bool.and_eq_false_iff];left;rw[←Bool.not_eq_true,EL];intro h2;rw[h2 x (Cg hx)]at h;cases h
def Xx {p:Prog} {l:List Int} {kd:Bool} {i k:Nat} {x:Int} (hx:l[i]? =some x) (hk:l[k]? =some x) (h:k<i):G1 p l kd=false:=by
 rw[G1,Bool.and_eq_false_iff];right;rw[decide_eq_false_iff_not];intro h2;have hi:=(H4.1 hx)
 have hj:=(H4.1 hk)
 have:=(List.nodup_iff_pairwise_ne.1 h2)
 rw[List.pairwise_iff_getElem]at this;exact this k i hj.1 hi.1 h (by rw[hj.2,hi.2])
def U0 {l:List Int} {i:Nat} {x:Int} (hx:l[i]? =some x) (h:(l.take i).Nodup) (hn: ∀k y,k<i→l[k]? =some y→y≠x):(l.take (i+1)).Nodup:=by
 rw[AX hx,List.nodup_append];refine⟨h,by simp,fun a ha b hb=>?_⟩;rw[K8.1 hb];obtain⟨k,hk⟩:=List.getElem?_of_mem ha;rw[List.getElem?_take]at hk;split at hk
 ·exact hn k a (by assumption) hk
 ·cases hk
def Nh: ∀(n:Nat) (l:List Int),l.Nodup→(∀x∈l,0≤x∧x<(n:Int))→l.length≤n
 | 0,l,_,h=>by
   cases l with
   | nil=>simp
   | cons x r=>have:=h x (.head _);omega
 | n + 1,l,hn,h=>by
   have h1:=Nh n (l.erase (n:Int)) (hn.erase _) fun x hx=>by
    have hm:=(List.Nodup.mem_erase_iff hn).1 hx;have:=h x hm.2;have:=hm.1;omega
   have h2:=List.length_erase (a:=(n:Int)) (l:=l);split at h2<;>omega
def bK {p:Prog} {l:List Int} (hok:DE p) (h:G1 p l true=true):NR p l∧l.Nodup:=by
 rw[G1,BV,EL,CL]at h;obtain⟨h1,h2⟩:=h
 have hm: ∀x∈l,A5 p x=true∧Cq p x (l.getD 0 0)=true:=fun x hx=>by
  have:=h1 x hx;simp only[fW,BV,Bool.not_true,Bool.false_or]at this;exact⟨this.1,this.2.2⟩
 refine⟨⟨fun x hx=>(hm x hx).1,fun x hx y hy=>?_,Nat.le_trans (Nh p.methods.length l h2 fun x hx=>?_) hok.many⟩,h2⟩
 ·have a:=(hm x hx).2
  have b:=(hm y hy).2;simp only[Cq,BV,Du]at a b ⊢;exact⟨a.1.trans b.1.symm,a.2.trans b.2.symm⟩
 ·have:=(hm x hx).1
  simp only[A5,BV,CL]at this;omega
def Hb (p:Prog) (l:List Int):(List Int×Bool)×Int:=if(BA p).isSome&&G1 p l true then(CI (Al p) l.length l,0)else(([],false),2)
end Go.Gl
