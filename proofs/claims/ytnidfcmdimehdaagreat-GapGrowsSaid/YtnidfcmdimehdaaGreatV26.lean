import Derived.Test.YtnidfcmdimehdaaGreatV14
import Derived.Test.YtnidfcmdimehdaaGreatV23
import Derived.Test.YtnidfcmdimehdaaGreatV24
import Derived.Test.YtnidfcmdimehdaaGreatV25
set_option linter.all false
set_option linter.defProp false
set_option maxHeartbeats 8000000
noncomputable section
namespace Go.Gl
open Go.Proofs
attribute [local irreducible] Av An Af AQ AL Ac AP AS AK Ab AN AO As A3 Sat AV A0 Ag W
structure EH (w:AG) (kf:Int->List Int->Kn):Prop where
 ok: ∀a p,ba 1000 (kf a p)
 low: ∀a p,-1000000000<=(kf a p).low/\(kf a p).low<=1000000000
 short: ∀a p,2<=p.length->(kf a p).AF= []
 AF: ∀a p,∀s∈(kf a p).AF,0<=s/\s<w.owner.length
abbrev Hx (L:Nat) (pre post:List B2) (e:B2) (s:List B2):List At:=
 .box e.b [eI e.k.low,eI e.k.high,e.vn,eU e.k.BS,eU e.k.Dt,.b e.k.whole,.b e.k.AZ,e.vs]:: .own e.vn 1 (iL e.k.no)::Hq L (pre++e::(post++s)) pre (post++s)
def xz {Z:AE} {L:Nat} {pre post:List B2} {e:B2} {s:List B2} (h:Sat Z (CH L (pre++e::(post++s)))):Sat Z (.own e.vs 1 (iL e.k.AF)::Hx L pre post e s):=
 (Ht (X:=[]) h).perm ((JX _ _ _ _).symm)
def rq {Z:AE} {L:Nat} {pre post:List B2} {e:B2} {s:List B2} (h:Sat Z (.own e.vs 1 (iL e.k.AF)::Hx L pre post e s)):Sat Z (CH L (pre++e::(post++s))):=
 Eg (X:=[]) (e:=e) (e':=e) rfl rfl rfl (h.perm (JX _ _ _ _))
def P0 (kf:Int->List Int->Kn) (L:Nat) (es:List B2) (post:List At):Prop:= ∃es',Ko es es'/\Bv kf es'/\post=CH L es'
def pF (w:AG) (us:List Nat) {kf:Int->List Int->Kn} {L:Nat} {pre post:List B2} {e:B2} {a:Int} {p:List Int} (hp:p.length<2) :
    Of zP (.f (.func 286) [] [.rp [VD w us L],.rp (Fv a p)]) eI (fun s=> .own e.vs 1 (iL e.k.AF)::Hx L pre post e s) (fun y=> !(kf a (p++[y])).AZ) (fun s=>Bv kf (pre++e::(post++s))/\ ∀x∈s,x.k=k0) (fun _=>True):=by
 rintro y s - ⟨hj,hj0⟩ Z hs;refine BH ?_;show Av zP 286 ([]++[eI y]++[.rp [VD w us L],.rp (Fv a p)]) Z _;refine ua kZ ?_
 conv=>whnf
 repeat'((first|clear U K|apply st|(apply zk;intro K U)|refine zY ?_|refine rk ?_ ?_|exact fun s e=>by cases e;rfl|refine Pure.use (PU a p y hp) ?_|fail)<;>conv=>whnf)
 refine(MA w us hj (a:=a) (p:=p++[y]) (by simp;omega)).use (rest:=[]) (by simpa using rq hs) ?_;clear hs;rintro r post' Z ⟨es4,e4,got,rfl,rfl⟩ hs;have hek4:=got.k;obtain⟨new,he4,hnew⟩:=got.ext;have hinv:=got.inv;obtain⟨pre4,post4,he5⟩:=List.append_of_mem got.mem;rw[FE,he5]at hs;replace hs:=Ht (X:=[]) hs;refine zz ?_;(repeat clear U K);repeat intro K U
 refine AH ⟨by rw[hek4],s++new,⟨?_,fun x hx=>?_⟩,?_⟩
 .rw[he4]at hinv
  simpa using hinv
 .rcases Ds.1 hx with hx|hx
  .exact hj0 x hx
  .exact hnew x hx
 .have h2:=Eg (X:=[]) (e:=e4) (e':=e4) rfl rfl rfl hs
  rw[<-he5,he4]at h2;refine xz ?_;simpa using h2
def pG (w:AG) (us:List Nat) {kf:Int->List Int->Kn} (hr:EH w kf) {L:Nat} {es:List B2} (h:Bv kf es) {a:Int} {p:List Int} (hp:p.length<=2) :
    BO zP 238 [VD w us L,CE a p] (CH L es) fun r post=>r= .ret (.b (Hv kf a p))/\P0 kf L es post:=by
 intro Z hs;have hM:=Mx;refine vC kZ ?_;refine zz ?_;(repeat clear U K);repeat intro K U
 refine(MA w us h (a:=a) (p:=p) hp).use (rest:=[]) (by simpa using hs) ?_;clear hs;rintro r post Z ⟨es4,e4,got,rfl,rfl⟩ hs;have hek:=got.k;obtain⟨pre,post,rfl⟩:=List.append_of_mem got.mem;rw[FE]at hs;replace hs:=Ht (X:=[]) hs;have hsl:=(hr.ok a p).2.2.2;have hsh:=hr.short a p;rw[<-hek]at hsl hsh
 have hst:p.length<2\/e4.k.AF= []:=by
  rcases Nat.lt_or_ge p.length 2 with h'|h'
  .exact .inl h'
  .exact .inr (hsh h')
 have hE:Hv kf a p=e4.k.AF.all fun y=> !(kf a (p++[y])).AZ:=by rw[Hv,hek]
 refine zz ?_;(repeat clear U K);repeat intro K U
 have hall:BO zP 180 [e4.vs,.f (.func 286) [] [.rp [VD w us L],.rp (Fv a p)]] (.own e4.vs 1 (iL e4.k.AF)::Hx L pre post e4 []) fun r post'=>r= .ret (.b (e4.k.AF.all fun y=> !(kf a (p++[y])).AZ))/\ ∃s',(Bv kf (pre++e4::(post++s'))/\ ∀x∈s',x.k=k0)/\post'= .own e4.vs 1 (iL e4.k.AF)::Hx L pre post e4 s':=by
  rcases hst with h'|h'
  .exact bO 286 [] [.rp [VD w us L],.rp (Fv a p)] (Hx L pre post e4) _ _ _ (pF w us h') (fun _ _=>trivial) (by omega) [] ⟨by simpa using got.inv,by simp⟩
  .exact bO 286 [] [.rp [VD w us L],.rp (Fv a p)] (Hx L pre post e4) _ _ (fun _=>False) (fun y s hf=>hf.elim) (fun x hx=>by rw[h']at hx;cases hx) (by omega) [] ⟨by simpa using got.inv,by simp⟩
 refine hall.use (rest:=[]) (by
  have h2:=xz (L:=L) (pre:=pre) (post:=post) (e:=e4) (s:=[]) (by simpa using Eg (X:=[]) (e:=e4) (e':=e4) rfl rfl rfl hs)
  simpa using h2) ?_
 clear hs;rintro r post' Z ⟨rfl,s',⟨hi,hn⟩,rfl⟩ hs;refine zz ?_;(repeat clear U K);repeat intro K U
 refine AH ⟨_,⟨by rw[hE],pre++e4::(post++s'),got.ext.trans ⟨s',by simp,hn⟩,hi,rfl⟩,rq (by simpa using hs)⟩
def Mz {m u:Nat} (hm:m<18446744073709551616):(L3 m u=0)↔Hg m u=true:=by
 rw[Ma (by simpa using hm)];constructor
 .intro h b hb
  have hlt:b<64:=by
   rcases Nat.lt_or_ge b 64 with h'|h'
   .exact h'
   .rw[Nat.testBit_lt_two_pow (Nat.lt_of_lt_of_le hm (by simpa using Nat.pow_le_pow_right (n:=2) (by decide) h'))]at hb;cases hb
  have:=Qi (a:=m) (b:=u) hlt;rw[h,Nat.zero_testBit,hb]at this;simpa using this
 .intro h
  refine Nat.eq_of_testBit_eq fun i=>?_
  rw[Nat.zero_testBit];rcases Nat.lt_or_ge i 64 with hlt|hge
  .rw[Qi hlt]
   cases hb:m.testBit i with
   | false=>rfl
   | true=>rw[h i hb];rfl
  .exact Nat.testBit_lt_two_pow (Nat.lt_of_lt_of_le (Uq _ _) (by simpa using Nat.pow_le_pow_right (n:=2) (by decide) hge))
def WZ (w:AG) (us:List Nat) {kf:Int->List Int->Kn} (hr:EH w kf) {L:Nat} {es:List B2} (h:Bv kf es) {a:Int} {p:List Int} (hp:p.length<=2) (c:Nat) (hc:c<64) :
    BO zP 192 [VD w us L,CE a p,eI c] (CH L es) fun r post=>r= .ret (.b (Eb kf a p c))/\P0 kf L es post:=by
 intro Z hs;refine vg kZ ?_;refine zz ?_;(repeat clear U K);repeat intro K U
 refine(MA w us h (a:=a) (p:=p) hp).use (rest:=[]) (by simpa using hs) ?_;clear hs;rintro r post Z ⟨es4,e4,got,rfl,rfl⟩ hs;have hek:=got.k;obtain⟨pre,post,rfl⟩:=List.append_of_mem got.mem;rw[FE]at hs;replace hs:=Ht (X:=[]) hs;have hok:=hr.ok a p;rw[<-hek]at hok;have hu:1|||2 ^ c<18446744073709551616:=Hr (by decide) (GW hc)
 have hb1:bits .andNot .u64 (e4.k.BS:Int) ((1|||2 ^ c:Nat):Int)=((L3 e4.k.BS (1|||2 ^ c):Nat):Int):=IN;have hb2:bits .and .u64 (e4.k.Dt:Int) ((1|||2 ^ c:Nat):Int)=((e4.k.Dt&&&(1|||2 ^ c):Nat):Int):=Fs hok.2.1 hu;have hb3:=Mz (u:=1|||2 ^ c) hok.1;have hP:Eb kf a p c=(Hg e4.k.BS (1|||2 ^ c)&&(e4.k.Dt&&&(1|||2 ^ c)==0&&Hv kf a p)):=by rw[Eb,hek]
 conv=>whnf
 repeat'((first|clear U K|apply st|(apply zk;intro K U)|refine zY ?_|refine Pure.use (Zs 1 c (by decide) hc) ?_|refine za (fun hc=>?_) fun hc=>?_|fail)<;>conv=>whnf)
 .have h1:Hg e4.k.BS (1|||2 ^ c)=true:=hb3.1 (by omega)
  have h2:(e4.k.Dt&&&(1|||2 ^ c)==0)=true:=by rw[C1];omega
  refine(pG w us hr got.inv hp).use (rest:=[]) (by simpa using Eg (X:=[]) (e:=e4) (e':=e4) rfl rfl rfl hs) ?_;clear hs;rintro r post' Z ⟨rfl,es5,hx,hi,rfl⟩ hs;refine zz ?_;(repeat clear U K);repeat intro K U
  exact AH ⟨_,⟨by rw[hP,h1,h2];rfl,es5,got.ext.trans hx,hi,rfl⟩,by simpa using hs⟩
 .have h2:(e4.k.Dt&&&(1|||2 ^ c)==0)=false:=by rw[beq_eq_false_iff_ne];omega
  exact AH ⟨_,⟨by rw[hP,h2];simp,_,got.ext,got.inv,rfl⟩,by simpa using Eg (X:=[]) (e:=e4) (e':=e4) rfl rfl rfl hs⟩
 .have h1:Hg e4.k.BS (1|||2 ^ c)=false:=by
   rw[<-Bool.not_eq_true,<-hb3];omega
  exact AH ⟨_,⟨by rw[hP,h1];simp,_,got.ext,got.inv,rfl⟩,by simpa using Eg (X:=[]) (e:=e4) (e':=e4) rfl rfl rfl hs⟩
def RC (w:AG) (us:List Nat) {kf:Int->List Int->Kn} (hr:EH w kf) {L:Nat} {es:List B2} (h:Bv kf es) {a:Int} {p:List Int} (hp:p.length<=2) :
    BO zP 129 [VD w us L,CE a p] (CH L es) fun r post=>r= .ret (.t [eI (Ef (kf a p)),.b (Fw kf a p)])/\P0 kf L es post:=by
 intro Z hs;have hM:=Mx;refine wi kZ ?_;refine zz ?_;(repeat clear U K);repeat intro K U
 refine(MA w us h (a:=a) (p:=p) hp).use (rest:=[]) (by simpa using hs) ?_;clear hs;rintro r post Z ⟨es4,e4,got,rfl,rfl⟩ hs;have hek:=got.k;obtain⟨pre,post,rfl⟩:=List.append_of_mem got.mem;rw[FE]at hs;replace hs:=Ht (X:=[]) hs;have hok:=hr.ok a p;have hlo:=hr.low a p;rw[<-hek]at hok hlo;have hno:=hok.2.2.1;have hle:=Ui e4.k.no e4.k.low;have hL:Ef (kf a p)=Gs e4.k.no (from_ e4.k.no e4.k.low) e4.k.low:=by rw[Ef,<-hek];exact Pe hle (IS _)
 refine zz ?_;(repeat clear U K);repeat intro K U
 refine GU (fun n:Int=>from_ e4.k.no n) (fun n=>[(7,eI n)]) (fun _=> .box e4.b [eI e4.k.low,eI e4.k.high,e4.vn,eU e4.k.BS,eU e4.k.Dt,.b e4.k.whole,.b e4.k.AZ,e4.vs]:: .own e4.vn 1 (iL e4.k.no):: .own e4.vs 1 (iL e4.k.AF)::([]++Hq L (pre++e4::post) pre post)) (fun n=> -1000000000<=n/\n+from_ e4.k.no n<=1000001000/\Ef (kf a p)=Gs e4.k.no (from_ e4.k.no n) n) e4.k.low rfl ⟨by omega,by omega,hL⟩ hs ?_;clear hs hL hle;rintro n Z ⟨hn0,hn1,hL⟩ hs;have hct2:=fun b=>Cl e4.k.no b n
 cases hcB:e4.k.no.contains n<;>rw[hcB]at hct2
 .have hout:n∉e4.k.no:=by simpa using hcB
  rw[bP hout]at hL;have hI:Fw kf a p=(decide (n<=e4.k.high)&&Eb kf a p 1):=by rw[Fw,hL,hek]
  conv=>whnf
  repeat'((first|clear U K|apply st|(apply zk;intro K U)|refine zY ?_|refine Pure.Rv (hct2 false) (.cons (hs.Ha 1 rfl) (.cons (.refl _) .nil)) rfl ?_|refine za (fun hc=>?_) fun hc=>?_|fail)<;>conv=>whnf)
  all_goals
   have hsc:Sat Z (CH L (pre++e4::post)):=by simpa using Eg (X:=[]) (e:=e4) (e':=e4) rfl rfl rfl hs
  .refine(WZ w us hr got.inv hp 1 (by decide)).use (rest:=[]) (by simpa using hsc) ?_
   clear hs hsc;rintro r post' Z ⟨rfl,es5,hx,hi,rfl⟩ hs;refine zz ?_;(repeat clear U K);repeat intro K U
   exact AH ⟨_,⟨by rw[hL,hI,decide_eq_true (by assumption)];rfl,es5,got.ext.trans hx,hi,rfl⟩,by simpa using hs⟩
  .exact AH ⟨_,⟨by rw[hL,hI,decide_eq_false (by omega)];rfl,_,got.ext,got.inv,rfl⟩,hsc⟩
 .have hin:n∈e4.k.no:=by simpa using hcB
  have hlt:=PZ hin;have hwr:IntKind.i64.wrap (n+1)=n+1:=wrap64 (by omega) (by omega);obtain⟨m,hm⟩: ∃m,from_ e4.k.no n=m+1:=⟨from_ e4.k.no n - 1,by omega⟩
  have hL2:Ef (kf a p)=Gs e4.k.no (from_ e4.k.no (n+1)) (n+1):=by rw[hL,hm,jA hin];exact Pe (by omega) (IS _)
  conv=>whnf
  repeat'((first|clear U K|apply st|(apply zk;intro K U)|refine zY ?_|refine Pure.Rv (hct2 false) (.cons (hs.Ha 1 rfl) (.cons (.refl _) .nil)) rfl ?_|fail)<;>conv=>whnf)
  exact⟨n+1,hlt,by rw[hwr];rfl,⟨by omega,by omega,hL2⟩,hs⟩
def aJ (w:AG) (us:List Nat) {kf:Int->List Int->Kn} (hr:EH w kf) {L:Nat} {es:List B2} (h:Bv kf es) {a:Int} {p:List Int} (hp:p.length<=2) :
    BO zP 130 [VD w us L,CE a p] (CH L es) fun r post=>r= .ret (.b (DT kf a p))/\P0 kf L es post:=by
 intro Z hs;refine wh kZ ?_;refine zz ?_;(repeat clear U K);repeat intro K U
 refine(MA w us h (a:=a) (p:=p) hp).use (rest:=[]) (by simpa using hs) ?_;clear hs;rintro r post Z ⟨es4,e4,got,rfl,rfl⟩ hs;have hek:=got.k;obtain⟨pre,post,rfl⟩:=List.append_of_mem got.mem;rw[FE]at hs;have hsc:=hs;replace hs:=Ht (X:=[]) hs;have hN:DT kf a p=(!e4.k.whole&&Eb kf a p 2):=by rw[DT,hek]
 cases hw:e4.k.whole<;>rw[hw]at hs hN
 .refine zz ?_;(repeat clear U K);repeat intro K U
  refine(WZ w us hr got.inv hp 2 (by decide)).use (rest:=[]) (by simpa using hsc) ?_;clear hs hsc;rintro r post' Z ⟨rfl,es5,hx,hi,rfl⟩ hs;refine zz ?_;(repeat clear U K);repeat intro K U
  exact AH ⟨_,⟨by rw[hN];rfl,es5,got.ext.trans hx,hi,rfl⟩,by simpa using hs⟩
 .refine zz ?_;(repeat clear U K);repeat intro K U
  exact AH ⟨_,⟨by rw[hN];rfl,_,got.ext,got.inv,rfl⟩,hsc⟩
def Tx {Z:AE} {X:List At} {L:Nat} {pre post:List B2} {e:B2} {s:List B2} (h:Sat Z (X++CH L (pre++e::(post++s)))):Sat Z (.own e.vs 1 (iL e.k.AF)::(X++Hx L pre post e s)):=by
 have h2:=Ht h;refine h2.perm ((JX _ _ _ _).symm.trans (.cons _ ?_));exact(List.perm_middle.trans (.cons _ List.perm_middle)).symm
def pY {Z:AE} {X:List At} {L:Nat} {pre post:List B2} {e:B2} {s:List B2} (h:Sat Z (.own e.vs 1 (iL e.k.AF)::(X++Hx L pre post e s))):Sat Z (X++CH L (pre++e::(post++s))):=by
 refine Eg (X:=X) (e:=e) (e':=e) rfl rfl rfl ?_;refine h.perm ?_;refine List.Perm.trans (.cons _ (List.perm_middle.trans (.cons _ List.perm_middle))) ?_;exact JX _ _ _ _
def oV (s:Nat) (c:Int) (hs0:s<18446744073709551616) (h0:0<=c) (hc:c<64):Pure zP 133 [eU s,eI c] (.b (s.testBit c.toNat)):=by
 have:=T4 s c.toNat hs0 (by omega);rw[Int.toNat_of_nonneg h0]at this;exact this
def lr {m:Nat} (hm:m<18446744073709551616):L3 m 1=Hl m:=by
 refine Nat.eq_of_testBit_eq fun i=>?_
 rw[W4];rcases Nat.lt_or_ge i 64 with hlt|hge
 .rw[Qi hlt,show(1:Nat)=2 ^ 0 from rfl,Nat.testBit_two_pow]
  congr 2;rw[Hb,Cp,C1];omega
 .have h64:18446744073709551616<=2 ^ i:=by simpa using Nat.pow_le_pow_right (n:=2) (by decide) hge
  rw[Nat.testBit_lt_two_pow (Nat.lt_of_lt_of_le (Uq _ _) h64),Nat.testBit_lt_two_pow (Nat.lt_of_lt_of_le hm h64)];rfl
def Sk (w : AG) (hw:Cq w) {kf:Int->List Int->Kn} (hr:EH w kf) {a:Int} {p:List Int} (hp:p.length<=2) (can:Int->Bool)
    (hcan: ∀s∈(kf a p).AF,∀L es,Bv kf es->BO zP 189 [VD w (BX w.parents) L,CE a (p++[s])] (CH L es) fun r post=>r= .ret (.b (can s))/\P0 kf L es post) {L:Nat} {es:List B2} (h:Bv kf es) :
    BO zP 131 [VD w (BX w.parents) L,CE a p] (CH L es) fun r post=>r= .ret (.t [eU (O4 w (kf a p) (fun s=>(kf a (p++[s])).AZ) can).1,.b (O4 w (kf a p) (fun s=>(kf a (p++[s])).AZ) can).2])/\P0 kf L es post:=by
 intro Z hs;have hM:=Mx;generalize hus:BX w.parents=us at *;refine wg kZ ?_;refine zz ?_;(repeat clear U K);repeat intro K U
 refine(MA w us h (a:=a) (p:=p) hp).use (rest:=[]) (by simpa using hs) ?_;clear hs;rintro r post Z ⟨es4,e4,got,rfl,rfl⟩ hs;have hek:=got.k;obtain⟨pre,post,rfl⟩:=List.append_of_mem got.mem;rw[FE]at hs;have hsc:=hs;replace hs:=Ht (X:=[]) hs;have hok:=hr.ok a p;have hsl:=(hr.ok a p).2.2.2;have hsh:=hr.short a p;have hsw:=hr.AF a p;rw[<-hek]at hok hsl hsh hsw hcan;have hO:O4 w (kf a p) (fun s=>(kf a (p++[s])).AZ) can=O4 w e4.k (fun s=>(kf a (p++[s])).AZ) can:=by rw[hek]
 have hOn:(e4.k.whole=true\/e4.k.BS.testBit 1=true\/e4.k.BS.testBit 2=true\/e4.k.Dt.testBit 0=true)->O4 w (kf a p) (fun s=>(kf a (p++[s])).AZ) can=(0,false):=fun h=>by
  rw[hO,O4,if_pos];rcases h with h|h|h|h<;>rw[h]<;>simp
 have hOy:e4.k.whole=false->e4.k.BS.testBit 1=false->e4.k.BS.testBit 2=false->e4.k.Dt.testBit 0=false->O4 w (kf a p) (fun s=>(kf a (p++[s])).AZ) can=match I8 w (fun s=>(kf a (p++[s])).AZ) can e4.k.AF (e4.k.BS,e4.k.Dt)with
  | none=>(0,false)
  | some u=>(Hl (Bl (BX w.parents) w.parents.length u.1),Hl (Bl (BX w.parents) w.parents.length u.1)&&&u.2==0):=fun h1 h2 h3 h4=>by
  rw[hO,O4,h1,h2,h3,h4];rfl
 clear hO;cases hb0:e4.k.whole<;>rw[hb0]at hs
 rotate_left
 .refine zz ?_;(repeat clear U K);repeat intro K U
  exact AH ⟨_,⟨by rw[hOn (.inl hb0)];rfl,_,got.ext,got.inv,rfl⟩,hsc⟩
 .conv => whnf
  repeat'((first|clear U K|apply st|(apply zk;intro K U)|refine zY ?_|refine Pure.use (T4 e4.k.BS 1 hok.1 (by decide)) ?_|refine Pure.use (T4 e4.k.BS 2 hok.1 (by decide)) ?_|refine Pure.use (T4 e4.k.Dt 0 hok.2.1 (by decide)) ?_|refine za (fun hc=>?_) fun hc=>?_|fail)<;>conv=>whnf)
  all_goals first
   | exact AH ⟨_,⟨by rw[hOn (by first|exact .inl (by assumption)|exact .inr (.inl (by assumption))|exact .inr (.inr (.inl (by assumption)))|exact .inr (.inr (.inr (by assumption))))];rfl,_,got.ext,got.inv,rfl⟩,hsc⟩
   | skip
  replace hOy:=hOy hb0 (by assumption) (by assumption) (by assumption);clear hOn;generalize hnf:(fun s=>(kf a (p++[s])).AZ)=AZ at *
  have hs1:Sat Z (.own e4.vs 1 (iL e4.k.AF)::Hx L pre post e4 []):=by
   have h2:=Tx (X:=[]) (L:=L) (pre:=pre) (post:=post) (e:=e4) (s:=[]) (by simpa using hsc);simpa using h2
  refine Cn e4.k.AF.length (fun k (x:(Nat×Nat)×List B2)=>[(47,eI (BR k)),(7,eU x.1.1),(8,eU x.1.2)]) (fun k x=> .own e4.vs 1 (iL e4.k.AF)::Hx L pre post e4 x.2) (fun k x=>(x.1.1<18446744073709551616/\x.1.2<18446744073709551616)/\(Bv kf (pre++e4::(post++x.2))/\ ∀y∈x.2,y.k=k0)/\I8 w AZ can e4.k.AF (e4.k.BS,e4.k.Dt)=I8 w AZ can (e4.k.AF.drop k) x.1) ((e4.k.BS,e4.k.Dt),[]) rfl ⟨⟨hok.1,hok.2.1⟩,⟨by simpa using got.inv,by simp⟩,rfl⟩ hs1 ?_;clear hs hs1 hsc;rintro k ⟨⟨m,no⟩,new⟩ Z hk ⟨⟨hm,hno⟩,⟨hinv,hnew⟩,hF⟩ hs;simp only at hm hno hinv hnew hF hs;have hck:BR k=k:=Ae (by have:=hok.2.2.2;omega);rcases BK e4.k.AF hk with⟨s,hsk,hlt⟩|hke
  .have hsm:=Cm hsk
   have hp2:p.length<2:=by
    rcases Nat.lt_or_ge p.length 2 with h'|h'
    .exact h'
    .rw[hsh h']at hsm;cases hsm
   obtain⟨hs0,hs1⟩:=hsw s hsm;rw[drop_cons hsk,I8]at hF
   conv=>whnf
   repeat'((first|clear U K|apply st|(apply zk;intro K U)|refine zY ?_|refine ze fun x hx=>?_|refine zs fun Z hs=>?_|refine Pure.use (PU a p _ hp2) ?_|refine zo fun nn hnn Z hs=>?_|fail)<;>conv=>whnf)
   obtain rfl:x=s:=by rw[hck,HX,hsk]at hx;exact(Option.some.inj hx).symm
   generalize nn=n7 at *;have hs2:Sat Z ([.box n7 (Fv a (p++[x]))]++CH L (pre++e4::(post++new))):=pY (X:=[.box n7 (Fv a (p++[x]))]) (hs.perm (.swap _ _ _));clear hs;obtain⟨o,ho⟩: ∃o,w.owner[x.toNat]? =some o:=⟨_,Dp (by omega)⟩
   have hoI:Bh w x=o:=by simp only[Bh,DK,ho];rfl
   obtain⟨ho1,ho2⟩:=hw.2.2 o (Cm ho);have hwp:=hw.1.1;have hcx:=hcan x hsm L;cases hnx:AZ x<;>cases hcy:can x
   all_goals
    rw[hcy]at hcx;rw[ZZ,hnx,hcy,hoI]at hF;refine(MA w us hinv (a:=a) (p:=p++[x]) (by simp;omega)).use (rest:=[.box n7 (Fv a (p++[x]))]) (hs2.perm PH) ?_;clear hs2;rintro r post' Z ⟨es5,e5,got5,rfl,rfl⟩ hs;have hek5:e5.k.AZ=AZ x:=by rw[got5.k,<-hnf]
    rw[hnx]at hek5;obtain⟨newA,heA,hnA⟩:=got5.ext;obtain⟨pre5,post5,he5⟩:=List.append_of_mem got5.mem;rw[he5]at hs;replace hs:=Ht (X:=[.box n7 (Fv a (p++[x]))]) (hs.perm PH);rw[hek5]at hs
    conv=>whnf
    repeat'((first|apply st|refine zY ?_|refine rk ?_ ?_|exact fun s e=>by cases e;rfl|fail)<;>conv=>whnf)
    have hs2:Sat Z ([.box n7 (Fv a (p++[x]))]++CH L (pre5++e5::post5)):=Eg (X:=[.box n7 (Fv a (p++[x]))]) (e:=e5) (e':=e5) rfl rfl rfl (by rw[<-hek5]at hs;exact hs);clear hs;refine(hcx es5 got5.inv).use (rest:=[.box n7 (Fv a (p++[x]))]) (by rw[he5];exact hs2.perm PH) ?_;clear hs2;rintro r post' Z ⟨rfl,es6,⟨new6,he6,hn6⟩,hi6,rfl⟩ hs;have he7:es6=pre5++e5::(post5++new6):=by rw[he6,he5];simp
    rw[he7]at hs;replace hs:=Ht (X:=[.box n7 (Fv a (p++[x]))]) (hs.perm PH);rw[hek5]at hs
    conv=>whnf
    repeat'((first|clear U K|apply st|(apply zk;intro K U)|refine zY ?_|refine rk ?_ ?_|exact fun s e=>by cases e;rfl|refine Pure.use (Hy m o hm (by omega) (by omega)) ?_|refine Pure.use (Hy no o hno (by omega) (by omega)) ?_|fail)<;>conv=>whnf)
    simp only[Bool.not_false,Bool.not_true,Bool.and_true,Bool.and_false,NN,if_false,if_true,Option.bind_some,Option.bind_none]at hF;have e7:es6=pre++e4::(post++(new++newA++new6)):=by rw[he6,heA];simp
    have hs2:Sat Z ([.box n7 (Fv a (p++[x]))]++CH L (pre5++e5::(post5++new6))):=Eg (X:=[.box n7 (Fv a (p++[x]))]) (e:=e5) (e':=e5) rfl rfl rfl (by rw[<-hek5]at hs;exact hs)
    have hs3:Sat Z (CH L (pre++e4::(post++(new++newA++new6)))):=by
     rw[<-he7,e7]at hs2;exact hs2.less (List.sublist_append_right _ _)
    have hi7:Bv kf (pre++e4::(post++(new++newA++new6))):=by rw[<-e7];exact hi6
    have hn7: ∀y∈new++newA++new6,y.k=k0:=fun y hy=>by
     rcases Ds.1 hy with hy|hy
     .rcases Ds.1 hy with hy|hy
      .exact hnew y hy
      .exact hnA y hy
     .exact hn6 y hy
    have hob:2 ^ o.toNat<18446744073709551616:=GW (by omega)
   .exact⟨hlt,((m,no|||2 ^ o.toNat),new++newA++new6),rfl,⟨⟨hm,Hr hno hob⟩,⟨hi7,hn7⟩,hF⟩,Tx (X:=[]) hs3⟩
   .exact⟨hlt,((m,no),new++newA++new6),rfl,⟨⟨hm,hno⟩,⟨hi7,hn7⟩,hF⟩,Tx (X:=[]) hs3⟩
   .rw[hF]at hOy
    exact AH ⟨_,⟨by rw[hOy];rfl,_,got.ext.trans ⟨_,by simp,hn7⟩,hi7,rfl⟩,hs3⟩
   .exact⟨hlt,((m|||2 ^ o.toNat,no),new++newA++new6),rfl,⟨⟨Hr hm hob,hno⟩,⟨hi7,hn7⟩,hF⟩,Tx (X:=[]) hs3⟩
  .rw [Au hke,I8]at hF
   rw[hF]at hOy;simp only at hOy;refine zz ?_;(repeat clear U K);repeat intro K U
   have hu:rP us:=by rw[<-hus];exact Gb _ _ (by have:=hw.1.1;omega)
   have hul:us.length=3+w.parents.length:=by rw[<-hus];exact Db _ _
   have hwp:=hw.1.1;have hwl:IntKind.i64.wrap (3+((Es w.parents).length:Nat))=3+(w.parents.length:Int):=by rw[CW,wrap64 (by omega) (by omega)]
   refine Cn w.parents.length (fun k (x:Nat)=>[(14,eI (L2 3 k)),(7,eU x)]) (fun _ _=> .own e4.vs 1 (iL e4.k.AF)::Hx L pre post e4 new) (fun k x=>x<18446744073709551616/\x=Bl us k m) m rfl ⟨hm,rfl⟩ hs ?_;clear hs;clear hke hck hk k;rintro k x Z hk ⟨hx64,hxe⟩ hs;have hc3:L2 3 k=3+k:=Pb (by omega) (by omega);by_cases hlt:k<w.parents.length
   .have hbt:Bl us (k+1) m=if x.testBit (L2 3 k).toNat then x|||us.getD (3+k) 0 else x:=by
     rw[Bl,<-hxe,hc3,show(3+(k:Int)).toNat=3+k by omega]
    have hup:(List.drop ((L2 3 k).toNat*1) (List.drop 2 (wC w us)))[0]? =some (eU (us.getD (3+k) 0)):=by
     rw[xW,xW,<-qM w us (i:=3+k) (by omega)];congr 1;omega
    conv=>whnf
    repeat'((first|clear U K|apply st|(apply zk;intro K U)|refine zY ?_|(rw[hup])|refine Pure.use (oV x (L2 3 k) hx64 (by omega) (by omega)) ?_|(refine zb (fun hc=>?_) (fun hc=>?_)<;>try exact⟨⟩)|fail)<;>conv=>whnf)
    .refine⟨hlt,x|||us.getD (3+k) 0,?_,⟨Hr hx64 (Ty hu _),by rw[hbt,if_pos (by assumption)]⟩,hs⟩
     rw[G7 hx64 (Ty hu _)];rfl
    .exact⟨hlt,x,rfl,⟨hx64,by rw[hbt,if_neg (by rw[‹x.testBit _=false›];decide)]⟩,hs⟩
   .have hke:k=w.parents.length:=by omega
    rw[hus,<-hke,<-hxe]at hOy
    have hA:bits .andNot .u64 (x:Int) 1=((Hl x:Nat):Int):=by
     have:=IN (a:=x) (b:=1);rw[lr hx64]at this;exact this
    have hcl:Hl x<18446744073709551616:=by unfold Hl;omega
    have hB:bits .and .u64 ((Hl x:Nat):Int) (no:Int)=((Hl x&&&no:Nat):Int):=Fs hcl hno
    conv=>whnf
    repeat'((first|clear U K|apply st|(apply zk;intro K U)|refine zY ?_|(refine zb (fun hc=>?_) (fun hc=>?_)<;>try exact⟨⟩)|fail)<;>conv=>whnf)
    rw[hA,hB];refine AH ⟨_,⟨?_,_,got.ext.trans ⟨new,by simp,hnew⟩,hinv,rfl⟩,rq hs⟩;rw[hOy]
    have hz:(((Hl x&&&no:Nat):Int)==0)=(Hl x&&&no==0):=by
     rw[Hb,C1,C1];omega
    rw[<-hz]
def xM (w:AG) (hw:Cq w) {kf:Int->List Int->Kn} (hr:EH w kf) (a:Int): ∀(d:Nat) (p:List Int),p.length+d=2-> ∀(L:Nat) (es:List B2),Bv kf es->
    BO zP 189 [VD w (BX w.parents) L,CE a p] (CH L es) fun r post=>r= .ret (.b (O8 w kf a d p))/\P0 kf L es post:=by
 intro d
 induction d with
 | zero=>
   intro p hp L es h Z hs;have hint:=RC w (BX w.parents) hr h (L:=L) (a:=a) (p:=p) (by omega);have hnone:=fun es h=>aJ w (BX w.parents) hr (es:=es) h (L:=L) (a:=a) (p:=p) (by omega)
   have hobj:=fun es h=>Sk w hw hr (a:=a) (p:=p) (by omega) (fun _=>false) (by rw[hr.short a p (by omega)];intro s hs;cases hs) (L:=L) (es:=es) h
   rw[O8];cases hI:Fw kf a p<;>cases hN:DT kf a p<;>rw[hI]at hint<;>rw[hN]at hnone
   all_goals
    refine iY kZ ?_;refine zz ?_;(repeat clear U K);repeat intro K U
    refine hint.use (rest:=[]) (by simpa using hs) ?_;clear hs;rintro r post Z ⟨rfl,es2,hx2,hi2,rfl⟩ hs;rw[FE]at hs;refine zz ?_;(repeat clear U K);repeat intro K U
   rotate_left 2
   .exact AH ⟨_,⟨rfl,es2,hx2,hi2,rfl⟩,hs⟩
   .exact AH ⟨_,⟨rfl,es2,hx2,hi2,rfl⟩,hs⟩
   all_goals
    refine(hnone es2 hi2).use (rest:=[]) (by simpa using hs) ?_;clear hs;rintro r post Z ⟨rfl,es3,hx3,hi3,rfl⟩ hs;rw[FE]at hs;refine zz ?_;(repeat clear U K);repeat intro K U
   rotate_left 1
   .exact AH ⟨_,⟨rfl,es3,hx2.trans hx3,hi3,rfl⟩,hs⟩
   .refine(hobj es3 hi3).use (rest:=[]) (by simpa using hs) ?_
    clear hs;rintro r post Z ⟨rfl,es4,hx4,hi4,rfl⟩ hs;rw[FE]at hs;refine zz ?_;(repeat clear U K);repeat intro K U
    exact AH ⟨_,⟨rfl,es4,(hx2.trans hx3).trans hx4,hi4,rfl⟩,hs⟩
 | succ d ih=>
   intro p hp L es h Z hs;have hint:=RC w (BX w.parents) hr h (L:=L) (a:=a) (p:=p) (by omega);have hnone:=fun es h=>aJ w (BX w.parents) hr (es:=es) h (L:=L) (a:=a) (p:=p) (by omega)
   have hobj:=fun es h=>Sk w hw hr (a:=a) (p:=p) (by omega) (fun s=>O8 w kf a d (p++[s])) (fun s hs L es h=>ih (p++[s]) (by simp;omega) L es h) (L:=L) (es:=es) h
   rw[O8];cases hI:Fw kf a p<;>cases hN:DT kf a p<;>rw[hI]at hint<;>rw[hN]at hnone
   all_goals
    refine iY kZ ?_;refine zz ?_;(repeat clear U K);repeat intro K U
    refine hint.use (rest:=[]) (by simpa using hs) ?_;clear hs;rintro r post Z ⟨rfl,es2,hx2,hi2,rfl⟩ hs;rw[FE]at hs;refine zz ?_;(repeat clear U K);repeat intro K U
   rotate_left 2
   .exact AH ⟨_,⟨rfl,es2,hx2,hi2,rfl⟩,hs⟩
   .exact AH ⟨_,⟨rfl,es2,hx2,hi2,rfl⟩,hs⟩
   all_goals
    refine(hnone es2 hi2).use (rest:=[]) (by simpa using hs) ?_;clear hs;rintro r post Z ⟨rfl,es3,hx3,hi3,rfl⟩ hs;rw[FE]at hs;refine zz ?_;(repeat clear U K);repeat intro K U
   rotate_left 1
   .exact AH ⟨_,⟨rfl,es3,hx2.trans hx3,hi3,rfl⟩,hs⟩
   .refine(hobj es3 hi3).use (rest:=[]) (by simpa using hs) ?_
    clear hs;rintro r post Z ⟨rfl,es4,hx4,hi4,rfl⟩ hs;rw[FE]at hs;refine zz ?_;(repeat clear U K);repeat intro K U
    exact AH ⟨_,⟨rfl,es4,(hx2.trans hx3).trans hx4,hi4,rfl⟩,hs⟩
abbrev qx:V:= .FD 206 (.a [])
def jX (w:AG) (hw:Cq w) {kf:Int->List Int->Kn} (hr:EH w kf) {L:Nat} {es:List B2} (h:Bv kf es) :
    BO zP 127 [VD w (BX w.parents) L] (CH L es) fun r post=>r=(if fO w kf then .ret (.t [])else .Bf qx)/\post= []:=by
 intro Z hs;refine wk kZ ?_;refine zz ?_;(repeat clear U K);repeat intro K U
 refine Cn 3 (fun k (x:List B2)=>[(3,eI (BR k))]) (fun k x=>CH L x) (fun k x=>Bv kf x/\fO w kf=((Bi 3).drop k).all fun a=>O8 w kf a 2 []) es rfl ⟨h,rfl⟩ hs ?_;clear hs h;rintro k es Z hk ⟨h,hn⟩ hs;have hck:BR k=k:=Ae (by simp only[Ad];omega);have hl3:(Bi 3).length=3:=rfl;rcases BK (Bi 3) hk with⟨a,ha,hlt⟩|hke
 .rw[drop_cons ha,Pg]at hn
  have hak:a=BR k:=by
   rw[hck];simp only[Bi,OU,List.getElem?_range (show k<3 from hlt),eY]at ha;exact(Option.some.inj ha).symm
  subst hak;have hcan:=xM w hw hr (BR k) 2 [] rfl L es h;cases hC:O8 w kf (BR k) 2 []<;>rw[hC]at hcan hn
  all_goals
   conv=>whnf
   repeat'((first|clear U K|apply st|(apply zk;intro K U)|refine zY ?_|(refine zb (fun hc=>?_) (fun hc=>?_)<;>try exact⟨⟩)|fail)<;>conv=>whnf)
   refine hcan.use (rest:=[]) (by simpa using hs) ?_;clear hs;rintro r post Z ⟨rfl,es2,hx2,hi2,rfl⟩ hs;rw[FE]at hs;refine zz ?_;(repeat clear U K);repeat intro K U
  .exact DO ⟨_,⟨by rw[hn];rfl,rfl⟩,hs.less (NQ _)⟩
  .exact⟨by omega,es2,rfl,⟨hi2,by simpa using hn⟩,hs⟩
 .rw[Au hke]at hn
  conv=>whnf
  repeat'((first|clear U K|apply st|(apply zk;intro K U)|refine zY ?_|(refine zb (fun hc=>?_) (fun hc=>?_)<;>try exact⟨⟩)|fail)<;>conv=>whnf)
  exact AH ⟨_,⟨by rw[hn];rfl,rfl⟩,hs.less (NQ _)⟩
def MW {w:AG} {ls:List Fact} (hw:w.parents.length<=60) (h: ∀x∈ls,Dq w x):Nu ls:=by
 intro l hl;obtain⟨-,hc,hsm,hsh⟩:=Ml h;obtain⟨-,hn,hlf⟩:=H4 (h l hl);exact⟨FZ hlf,hsh l hl,fun ho=>by have:=hc l hl ho;omega,hsm l hl⟩
def tZ {ls:List Fact} (h:YI ls) (a:Int) (p:List Int): -1000000000<=(kn ls a p).low/\(kn ls a p).low<=1000000000:=by
 have key: ∀(ls:List Fact) (k:Kn),YI ls->(-1000000000<=k.low/\k.low<=1000000000)-> -1000000000<=(ls.foldl (C2 a p) k).low/\(ls.foldl (C2 a p) k).low<=1000000000:=by
  intro ls
  induction ls with
  | nil=>intro k _ h;exact h
  | cons l r ih=>
    intro k hs hk;refine ih _ (fun x hx=>hs x (.tail _ hx)) ?_;have hn:=hs l (.head _);unfold C2 By Bz fG
    repeat' split
    all_goals first
     | exact hk
     | exact hn
     | (simp only;exact hk)
     | (simp only;exact hn)
 exact key ls k0 h ⟨by decide,by decide⟩
def aD {w:AG} {ls:List Fact} (h: ∀x∈ls,Dq w x):HK w.owner.length ls:=by
 intro l hl s hs;obtain⟨-,hn,-⟩:=H4 (h l hl);rw[CA,A4]at hn;have:=hn.1;simp only[DB,Ez,A4,Dj,Ho,Cp]at this;exact this.2.2.2.2.1.1 s hs
def Z4 {w:AG} (hw:Cq w) {ls:List Fact} (h: ∀x∈ls,Dq w x) (hlen:ls.length<900):EH w (kn ls):=by
 have hadd:=MW (by have:=hw.1.1;omega) h;obtain⟨-,-,hsm,hsh⟩:=Ml h;have hp:=aD h;refine⟨fun a p=>?_,tZ hsm,fun a p hpl=>?_,fun a p s hs=>?_⟩
 .obtain⟨h1,h2,h3,h4⟩:=iA hadd a p
  exact⟨h1,h2,by omega,by omega⟩
 .rw[Jo hp]
  exact N3 hsh hpl
 .rw[Jo hp]at hs
  exact IC hs
def sN {w:AG} (hw:Cq w) {ls:List Fact} (h: ∀x∈ls,Dq w x):fO w (kn ls)=EG w ls:=by
 obtain⟨-,hc,-,-⟩:=Ml h;refine sO ?_ (fun s h0 h1=>?_) (by have:=hw.1.1;omega) (fun l hl ho=>by have:=hc l hl ho;omega) (aD h)
 .exact KY hw.1
 .obtain⟨o,ho⟩: ∃o,w.owner[s.toNat]? =some o:=⟨_,Dp (by omega)⟩
  have hoI:Bh w s=o:=by simp only[Bh,DK,ho];rfl
  rw[hoI];exact hw.2.2 o (Cm ho)
def pR {Z:AE} {n:Nat} {x:V} {rest:List At} (hs:Sat Z (.box n [x]::rest)) {Q:AE->Prop} (hq: ∀Z',Sat Z' (.box n [.b false]::rest)->Q Z'):Hn zP 126 [.p n 0] (some qx) Z Q:=by
 refine bF kZ ?_
 conv=>whnf
 repeat'((first|clear U K|apply st|(apply zk;intro K U)|refine zs fun Z hs=>?_|refine rX rfl ?_|refine zo fun nn hnn Z hs=>?_|fail)<;>conv=>whnf)
 exact hq _ (hs.less (OS _ _))
def pS {Z:AE} {n:Nat} {x:V} {rest:List At} (hs:Sat Z (.box n [x]::rest)) {Q:AE->Prop} (hq: ∀Z',Sat Z' (.box n [x]::rest)->Q Z'):Hn zP 126 [.p n 0] none Z Q:=by
 refine bF kZ ?_
 conv=>whnf
 repeat'((first|clear U K|apply st|(apply zk;intro K U)|refine zY ?_|refine zs fun Z hs=>?_|refine zo fun nn hnn Z hs=>?_|fail)<;>conv=>whnf)
 exact hq _ (hs.less (OS _ _))
attribute [local irreducible] Hn
def XM (w:AG) (hw:Cq w) (ls:List Fact) (b:Bool) (hl: ∀x∈ls,Dq w x) (hlen:ls.length<900):Pure zP 80 [.rp (wC w (BX w.parents)),.l (Dx ls) b] (.b (EG w ls)):=by
 refine Pure.of ?_;refine zE kZ ?_;have hs:=Sn
 conv=>whnf
 repeat'((first|clear U K|apply st|(apply zk;intro K U)|refine zo fun nn hnn Z hs=>?_|fail)<;>conv=>whnf)
 refine(jf w (BX w.parents) ls b (MW (by have:=hw.1.1;omega) hl) hlen).use (rest:=[.box nn [.b false]]) (by simpa using hs) ?_;clear hs;rintro r post Z ⟨L,es,rfl,hinv,rfl⟩ hs;have hwh:=jX w hw (Z4 hw hl hlen) hinv (L:=L);rw[sN hw hl]at hwh;cases ht:EG w ls<;>rw[ht]at hwh
 all_goals
  conv=>whnf
  refine hwh.use (rest:=[.box nn [.b false]]) hs ?_;clear hs;rintro r post Z ⟨rfl,rfl⟩ hs
  conv=>whnf
  repeat'((first|clear U K|apply st|(apply zk;intro K U)|refine zs fun Z hs=>?_|fail)<;>conv=>whnf)
 .refine pR (rest:=[]) hs fun Z hs=>?_
  refine zz ?_;(repeat clear U K);repeat intro K U
  exact AH (by rw[ht];rfl)
 .refine pS (rest:=[]) (x:= .b true) hs fun Z hs=>?_
  refine zz ?_;(repeat clear U K);repeat intro K U
  exact AH (by rw[ht];rfl)
end Go.Gl
