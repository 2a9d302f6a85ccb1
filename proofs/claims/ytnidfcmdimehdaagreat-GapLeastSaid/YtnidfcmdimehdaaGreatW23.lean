import Derived.Test.YtnidfcmdimehdaaGreatW14
import Derived.Test.YtnidfcmdimehdaaGreatW20
import Derived.Test.YtnidfcmdimehdaaGreatW21
import Derived.Test.YtnidfcmdimehdaaGreatW22
set_option linter.all false
set_option linter.defProp false
set_option maxHeartbeats 8000000
noncomputable section
namespace Go.Gl
open Go.Proofs
attribute [local irreducible] Ao Ai AY AO AJ AX AN AP AI AW AK AL Ak Au Sat AT Ar Aa W
structure ER (w:AG) (kf:Int->List Int->Kn):Prop where
 ok: ∀a p,aI 1000 (kf a p)
 low: ∀a p,-1000000000<=(kf a p).low/\(kf a p).low<=1000000000
 short: ∀a p,2<=p.length->(kf a p).AF= []
 AF: ∀a p,∀s∈(kf a p).AF,0<=s/\s<w.owner.length
abbrev Hx (L:Nat) (pre post:List Bt) (e:Bt) (s:List Bt):List At:=
 .box e.b [eI e.k.low,eI e.k.high,e.vn,eU e.k.BL,eU e.k.DS,.b e.k.whole,.b e.k.Ad,e.vs]:: .own e.vn 1 (iL e.k.no)::G3 L (pre++e::(post++s)) pre (post++s)
def vL {Z:AE} {L:Nat} {pre post:List Bt} {e:Bt} {s:List Bt} (h:Sat Z (B4 L (pre++e::(post++s)))):Sat Z (.own e.vs 1 (iL e.k.AF)::Hx L pre post e s):=
 (G5 (X:=[]) h).perm ((Ia _ _ _ _).symm)
def qB {Z:AE} {L:Nat} {pre post:List Bt} {e:Bt} {s:List Bt} (h:Sat Z (.own e.vs 1 (iL e.k.AF)::Hx L pre post e s)):Sat Z (B4 L (pre++e::(post++s))):=
 D3 (X:=[]) (e:=e) (e':=e) rfl rfl rfl (h.perm (Ia _ _ _ _))
def O2 (kf:Int->List Int->Kn) (L:Nat) (es:List Bt) (post:List At):Prop:= ∃es',J7 es es'/\Bx kf es'/\post=B4 L es'
def nM (w:AG) (us:List Nat) {kf:Int->List Int->Kn} {L:Nat} {pre post:List Bt} {e:Bt} {a:Int} {p:List Int} (hp:p.length<2) :
    NV zP (.f (.func 286) [] [.rp [UO w us L],.rp (FN a p)]) eI (fun s=> .own e.vs 1 (iL e.k.AF)::Hx L pre post e s) (fun y=> !(kf a (p++[y])).Ad) (fun s=>Bx kf (pre++e::(post++s))/\ ∀x∈s,x.k=k0) (fun _=>True):=by
 rintro y s - ⟨hj,hj0⟩ Z hs;refine Ay ?_;show Ao zP 286 ([]++[eI y]++[.rp [UO w us L],.rp (FN a p)]) Z _;refine sa kZ ?_
 conv=>whnf
 repeat'((first|clear U K|apply st|(apply zk;intro K U)|refine zY ?_|refine rk ?_ ?_|exact fun s e=>by cases e;rfl|refine Pure.use (ON a p y hp) ?_|fail)<;>conv=>whnf)
 refine(K8 w us hj (a:=a) (p:=p++[y]) (by simp;omega)).use (rest:=[]) (by simpa using qB hs) ?_;clear hs;rintro r post' Z ⟨es4,e4,got,rfl,rfl⟩ hs;have hek4:=got.k;obtain⟨new,he4,hnew⟩:=got.ext;have hinv:=got.inv;obtain⟨pre4,post4,he5⟩:=List.append_of_mem got.mem;rw[Fj,he5]at hs;replace hs:=G5 (X:=[]) hs;refine zz ?_;(repeat clear U K);repeat intro K U
 refine AH ⟨by rw[hek4],s++new,⟨?_,fun x hx=>?_⟩,?_⟩
 .rw[he4]at hinv
  simpa using hinv
 .rcases Dm.1 hx with hx|hx
  .exact hj0 x hx
  .exact hnew x hx
 .have h2:=D3 (X:=[]) (e:=e4) (e':=e4) rfl rfl rfl hs
  rw[<-he5,he4]at h2;refine vL ?_;simpa using h2
def nP (w:AG) (us:List Nat) {kf:Int->List Int->Kn} (hr:ER w kf) {L:Nat} {es:List Bt} (h:Bx kf es) {a:Int} {p:List Int} (hp:p.length<=2) :
    BK zP 238 [UO w us L,CI a p] (B4 L es) fun r post=>r= .ret (.b (G7 kf a p))/\O2 kf L es post:=by
 intro Z hs;have hM:=Mx;refine tC kZ ?_;refine zz ?_;(repeat clear U K);repeat intro K U
 refine(K8 w us h (a:=a) (p:=p) hp).use (rest:=[]) (by simpa using hs) ?_;clear hs;rintro r post Z ⟨es4,e4,got,rfl,rfl⟩ hs;have hek:=got.k;obtain⟨pre,post,rfl⟩:=List.append_of_mem got.mem;rw[Fj]at hs;replace hs:=G5 (X:=[]) hs;have hsl:=(hr.ok a p).2.2.2;have hsh:=hr.short a p;rw[<-hek]at hsl hsh
 have hst:p.length<2\/e4.k.AF= []:=by
  rcases Nat.lt_or_ge p.length 2 with h'|h'
  .exact .inl h'
  .exact .inr (hsh h')
 have hE:G7 kf a p=e4.k.AF.all fun y=> !(kf a (p++[y])).Ad:=by rw[G7,hek]
 refine zz ?_;(repeat clear U K);repeat intro K U
 have hall:BK zP 180 [e4.vs,.f (.func 286) [] [.rp [UO w us L],.rp (FN a p)]] (.own e4.vs 1 (iL e4.k.AF)::Hx L pre post e4 []) fun r post'=>r= .ret (.b (e4.k.AF.all fun y=> !(kf a (p++[y])).Ad))/\ ∃s',(Bx kf (pre++e4::(post++s'))/\ ∀x∈s',x.k=k0)/\post'= .own e4.vs 1 (iL e4.k.AF)::Hx L pre post e4 s':=by
  rcases hst with h'|h'
  .exact Z3 286 [] [.rp [UO w us L],.rp (FN a p)] (Hx L pre post e4) _ _ _ (nM w us h') (fun _ _=>trivial) (by omega) [] ⟨by simpa using got.inv,by simp⟩
  .exact Z3 286 [] [.rp [UO w us L],.rp (FN a p)] (Hx L pre post e4) _ _ (fun _=>False) (fun y s hf=>hf.elim) (fun x hx=>by rw[h']at hx;cases hx) (by omega) [] ⟨by simpa using got.inv,by simp⟩
 refine hall.use (rest:=[]) (by
  have h2:=vL (L:=L) (pre:=pre) (post:=post) (e:=e4) (s:=[]) (by simpa using D3 (X:=[]) (e:=e4) (e':=e4) rfl rfl rfl hs)
  simpa using h2) ?_
 clear hs;rintro r post' Z ⟨rfl,s',⟨hi,hn⟩,rfl⟩ hs;refine zz ?_;(repeat clear U K);repeat intro K U
 refine AH ⟨_,⟨by rw[hE],pre++e4::(post++s'),got.ext.trans ⟨s',by simp,hn⟩,hi,rfl⟩,qB (by simpa using hs)⟩
def Lv {m u:Nat} (hm:m<18446744073709551616):(K1 m u=0)↔Gs m u=true:=by
 rw[LX (by simpa using hm)];constructor
 .intro h b hb
  have hlt:b<64:=by
   rcases Nat.lt_or_ge b 64 with h'|h'
   .exact h'
   .rw[Nat.testBit_lt_two_pow (Nat.lt_of_lt_of_le hm (by simpa using Nat.pow_le_pow_right (n:=2) (by decide) h'))]at hb;cases hb
  have:=Py (a:=m) (b:=u) hlt;rw[h,Nat.zero_testBit,hb]at this;simpa using this
 .intro h
  refine Nat.eq_of_testBit_eq fun i=>?_
  rw[Nat.zero_testBit];rcases Nat.lt_or_ge i 64 with hlt|hge
  .rw[Py hlt]
   cases hb:m.testBit i with
   | false=>rfl
   | true=>rw[h i hb];rfl
  .exact Nat.testBit_lt_two_pow (Nat.lt_of_lt_of_le (T3 _ _) (by simpa using Nat.pow_le_pow_right (n:=2) (by decide) hge))
def Vd (w:AG) (us:List Nat) {kf:Int->List Int->Kn} (hr:ER w kf) {L:Nat} {es:List Bt} (h:Bx kf es) {a:Int} {p:List Int} (hp:p.length<=2) (c:Nat) (hc:c<64) :
    BK zP 192 [UO w us L,CI a p,eI c] (B4 L es) fun r post=>r= .ret (.b (Dx kf a p c))/\O2 kf L es post:=by
 intro Z hs;refine tX kZ ?_;refine zz ?_;(repeat clear U K);repeat intro K U
 refine(K8 w us h (a:=a) (p:=p) hp).use (rest:=[]) (by simpa using hs) ?_;clear hs;rintro r post Z ⟨es4,e4,got,rfl,rfl⟩ hs;have hek:=got.k;obtain⟨pre,post,rfl⟩:=List.append_of_mem got.mem;rw[Fj]at hs;replace hs:=G5 (X:=[]) hs;have hok:=hr.ok a p;rw[<-hek]at hok;have hu:1|||2 ^ c<18446744073709551616:=Jo (by decide) (Hk hc)
 have hb1:bits .andNot .u64 (e4.k.BL:Int) ((1|||2 ^ c:Nat):Int)=((K1 e4.k.BL (1|||2 ^ c):Nat):Int):=Ha;have hb2:bits .and .u64 (e4.k.DS:Int) ((1|||2 ^ c:Nat):Int)=((e4.k.DS&&&(1|||2 ^ c):Nat):Int):=FJ hok.2.1 hu;have hb3:=Lv (u:=1|||2 ^ c) hok.1;have hP:Dx kf a p c=(Gs e4.k.BL (1|||2 ^ c)&&(e4.k.DS&&&(1|||2 ^ c)==0&&G7 kf a p)):=by rw[Dx,hek]
 conv=>whnf
 repeat'((first|clear U K|apply st|(apply zk;intro K U)|refine zY ?_|refine Pure.use (Y4 1 c (by decide) hc) ?_|refine za (fun hc=>?_) fun hc=>?_|fail)<;>conv=>whnf)
 .have h1:Gs e4.k.BL (1|||2 ^ c)=true:=hb3.1 (by omega)
  have h2:(e4.k.DS&&&(1|||2 ^ c)==0)=true:=by rw[Cy];omega
  refine(nP w us hr got.inv hp).use (rest:=[]) (by simpa using D3 (X:=[]) (e:=e4) (e':=e4) rfl rfl rfl hs) ?_;clear hs;rintro r post' Z ⟨rfl,es5,hx,hi,rfl⟩ hs;refine zz ?_;(repeat clear U K);repeat intro K U
  exact AH ⟨_,⟨by rw[hP,h1,h2];rfl,es5,got.ext.trans hx,hi,rfl⟩,by simpa using hs⟩
 .have h2:(e4.k.DS&&&(1|||2 ^ c)==0)=false:=by rw[beq_eq_false_iff_ne];omega
  exact AH ⟨_,⟨by rw[hP,h2];simp,_,got.ext,got.inv,rfl⟩,by simpa using D3 (X:=[]) (e:=e4) (e':=e4) rfl rfl rfl hs⟩
 .have h1:Gs e4.k.BL (1|||2 ^ c)=false:=by
   rw[<-Bool.not_eq_true,<-hb3];omega
  exact AH ⟨_,⟨by rw[hP,h1];simp,_,got.ext,got.inv,rfl⟩,by simpa using D3 (X:=[]) (e:=e4) (e':=e4) rfl rfl rfl hs⟩
def QM (w:AG) (us:List Nat) {kf:Int->List Int->Kn} (hr:ER w kf) {L:Nat} {es:List Bt} (h:Bx kf es) {a:Int} {p:List Int} (hp:p.length<=2) :
    BK zP 129 [UO w us L,CI a p] (B4 L es) fun r post=>r= .ret (.t [eI (D2 (kf a p)),.b (Gv kf a p)])/\O2 kf L es post:=by
 intro Z hs;have hM:=Mx;refine uD kZ ?_;refine zz ?_;(repeat clear U K);repeat intro K U
 refine(K8 w us h (a:=a) (p:=p) hp).use (rest:=[]) (by simpa using hs) ?_;clear hs;rintro r post Z ⟨es4,e4,got,rfl,rfl⟩ hs;have hek:=got.k;obtain⟨pre,post,rfl⟩:=List.append_of_mem got.mem;rw[Fj]at hs;replace hs:=G5 (X:=[]) hs;have hok:=hr.ok a p;have hlo:=hr.low a p;rw[<-hek]at hok hlo;have hno:=hok.2.2.1;have hle:=Tw e4.k.no e4.k.low;have hL:D2 (kf a p)=GB e4.k.no (from_ e4.k.no e4.k.low) e4.k.low:=by rw[D2,<-hek];exact OZ hle (IN _)
 refine zz ?_;(repeat clear U K);repeat intro K U
 refine Ft (fun n:Int=>from_ e4.k.no n) (fun n=>[(7,eI n)]) (fun _=> .box e4.b [eI e4.k.low,eI e4.k.high,e4.vn,eU e4.k.BL,eU e4.k.DS,.b e4.k.whole,.b e4.k.Ad,e4.vs]:: .own e4.vn 1 (iL e4.k.no):: .own e4.vs 1 (iL e4.k.AF)::([]++G3 L (pre++e4::post) pre post)) (fun n=> -1000000000<=n/\n+from_ e4.k.no n<=1000001000/\D2 (kf a p)=GB e4.k.no (from_ e4.k.no n) n) e4.k.low rfl ⟨by omega,by omega,hL⟩ hs ?_;clear hs hL hle;rintro n Z ⟨hn0,hn1,hL⟩ hs;have hct2:=fun b=>Ce e4.k.no b n
 cases hcB:e4.k.no.contains n<;>rw[hcB]at hct2
 .have hout:n∉e4.k.no:=by simpa using hcB
  rw[Z4 hout]at hL;have hI:Gv kf a p=(decide (n<=e4.k.high)&&Dx kf a p 1):=by rw[Gv,hL,hek]
  conv=>whnf
  repeat'((first|clear U K|apply st|(apply zk;intro K U)|refine zY ?_|refine Pure.Sy (hct2 false) (.cons (hs.He 1 rfl) (.cons (.refl _) .nil)) rfl ?_|refine za (fun hc=>?_) fun hc=>?_|fail)<;>conv=>whnf)
  all_goals
   have hsc:Sat Z (B4 L (pre++e4::post)):=by simpa using D3 (X:=[]) (e:=e4) (e':=e4) rfl rfl rfl hs
  .refine(Vd w us hr got.inv hp 1 (by decide)).use (rest:=[]) (by simpa using hsc) ?_
   clear hs hsc;rintro r post' Z ⟨rfl,es5,hx,hi,rfl⟩ hs;refine zz ?_;(repeat clear U K);repeat intro K U
   exact AH ⟨_,⟨by rw[hL,hI,decide_eq_true (by assumption)];rfl,es5,got.ext.trans hx,hi,rfl⟩,by simpa using hs⟩
  .exact AH ⟨_,⟨by rw[hL,hI,decide_eq_false (by omega)];rfl,_,got.ext,got.inv,rfl⟩,hsc⟩
 .have hin:n∈e4.k.no:=by simpa using hcB
  have hlt:=OT hin;have hwr:IntKind.i64.wrap (n+1)=n+1:=wrap64 (by omega) (by omega);obtain⟨m,hm⟩: ∃m,from_ e4.k.no n=m+1:=⟨from_ e4.k.no n - 1,by omega⟩
  have hL2:D2 (kf a p)=GB e4.k.no (from_ e4.k.no (n+1)) (n+1):=by rw[hL,hm,gR hin];exact OZ (by omega) (IN _)
  conv=>whnf
  repeat'((first|clear U K|apply st|(apply zk;intro K U)|refine zY ?_|refine Pure.Sy (hct2 false) (.cons (hs.He 1 rfl) (.cons (.refl _) .nil)) rfl ?_|fail)<;>conv=>whnf)
  exact⟨n+1,hlt,by rw[hwr];rfl,⟨by omega,by omega,hL2⟩,hs⟩
def ZU (w:AG) (us:List Nat) {kf:Int->List Int->Kn} (hr:ER w kf) {L:Nat} {es:List Bt} (h:Bx kf es) {a:Int} {p:List Int} (hp:p.length<=2) :
    BK zP 130 [UO w us L,CI a p] (B4 L es) fun r post=>r= .ret (.b (EA kf a p))/\O2 kf L es post:=by
 intro Z hs;refine uC kZ ?_;refine zz ?_;(repeat clear U K);repeat intro K U
 refine(K8 w us h (a:=a) (p:=p) hp).use (rest:=[]) (by simpa using hs) ?_;clear hs;rintro r post Z ⟨es4,e4,got,rfl,rfl⟩ hs;have hek:=got.k;obtain⟨pre,post,rfl⟩:=List.append_of_mem got.mem;rw[Fj]at hs;have hsc:=hs;replace hs:=G5 (X:=[]) hs;have hN:EA kf a p=(!e4.k.whole&&Dx kf a p 2):=by rw[EA,hek]
 cases hw:e4.k.whole<;>rw[hw]at hs hN
 .refine zz ?_;(repeat clear U K);repeat intro K U
  refine(Vd w us hr got.inv hp 2 (by decide)).use (rest:=[]) (by simpa using hsc) ?_;clear hs hsc;rintro r post' Z ⟨rfl,es5,hx,hi,rfl⟩ hs;refine zz ?_;(repeat clear U K);repeat intro K U
  exact AH ⟨_,⟨by rw[hN];rfl,es5,got.ext.trans hx,hi,rfl⟩,by simpa using hs⟩
 .refine zz ?_;(repeat clear U K);repeat intro K U
  exact AH ⟨_,⟨by rw[hN];rfl,_,got.ext,got.inv,rfl⟩,hsc⟩
def S9 {Z:AE} {X:List At} {L:Nat} {pre post:List Bt} {e:Bt} {s:List Bt} (h:Sat Z (X++B4 L (pre++e::(post++s)))):Sat Z (.own e.vs 1 (iL e.k.AF)::(X++Hx L pre post e s)):=by
 have h2:=G5 h;refine h2.perm ((Ia _ _ _ _).symm.trans (.cons _ ?_));exact(List.perm_middle.trans (.cons _ List.perm_middle)).symm
def nk {Z:AE} {X:List At} {L:Nat} {pre post:List Bt} {e:Bt} {s:List Bt} (h:Sat Z (.own e.vs 1 (iL e.k.AF)::(X++Hx L pre post e s))):Sat Z (X++B4 L (pre++e::(post++s))):=by
 refine D3 (X:=X) (e:=e) (e':=e) rfl rfl rfl ?_;refine h.perm ?_;refine List.Perm.trans (.cons _ (List.perm_middle.trans (.cons _ List.perm_middle))) ?_;exact Ia _ _ _ _
def mj (s:Nat) (c:Int) (hs0:s<18446744073709551616) (h0:0<=c) (hc:c<64):Pure zP 133 [eU s,eI c] (.b (s.testBit c.toNat)):=by
 have:=TG s c.toNat hs0 (by omega);rw[Int.toNat_of_nonneg h0]at this;exact this
def jy {m:Nat} (hm:m<18446744073709551616):K1 m 1=Gx m:=by
 refine Nat.eq_of_testBit_eq fun i=>?_
 rw[V9];rcases Nat.lt_or_ge i 64 with hlt|hge
 .rw[Py hlt,show(1:Nat)=2 ^ 0 from rfl,Nat.testBit_two_pow]
  congr 2;rw[Gr,CT,Cy];omega
 .have h64:18446744073709551616<=2 ^ i:=by simpa using Nat.pow_le_pow_right (n:=2) (by decide) hge
  rw[Nat.testBit_lt_two_pow (Nat.lt_of_lt_of_le (T3 _ _) h64),Nat.testBit_lt_two_pow (Nat.lt_of_lt_of_le hm h64)];rfl
def Rx (w : AG) (hw:Cn w) {kf:Int->List Int->Kn} (hr:ER w kf) {a:Int} {p:List Int} (hp:p.length<=2) (can:Int->Bool)
    (hcan: ∀s∈(kf a p).AF,∀L es,Bx kf es->BK zP 189 [UO w (B1 w.parents) L,CI a (p++[s])] (B4 L es) fun r post=>r= .ret (.b (can s))/\O2 kf L es post) {L:Nat} {es:List Bt} (h:Bx kf es) :
    BK zP 131 [UO w (B1 w.parents) L,CI a p] (B4 L es) fun r post=>r= .ret (.t [eU (Nx w (kf a p) (fun s=>(kf a (p++[s])).Ad) can).1,.b (Nx w (kf a p) (fun s=>(kf a (p++[s])).Ad) can).2])/\O2 kf L es post:=by
 intro Z hs;have hM:=Mx;generalize hus:B1 w.parents=us at *;refine uB kZ ?_;refine zz ?_;(repeat clear U K);repeat intro K U
 refine(K8 w us h (a:=a) (p:=p) hp).use (rest:=[]) (by simpa using hs) ?_;clear hs;rintro r post Z ⟨es4,e4,got,rfl,rfl⟩ hs;have hek:=got.k;obtain⟨pre,post,rfl⟩:=List.append_of_mem got.mem;rw[Fj]at hs;have hsc:=hs;replace hs:=G5 (X:=[]) hs;have hok:=hr.ok a p;have hsl:=(hr.ok a p).2.2.2;have hsh:=hr.short a p;have hsw:=hr.AF a p;rw[<-hek]at hok hsl hsh hsw hcan;have hO:Nx w (kf a p) (fun s=>(kf a (p++[s])).Ad) can=Nx w e4.k (fun s=>(kf a (p++[s])).Ad) can:=by rw[hek]
 have hOn:(e4.k.whole=true\/e4.k.BL.testBit 1=true\/e4.k.BL.testBit 2=true\/e4.k.DS.testBit 0=true)->Nx w (kf a p) (fun s=>(kf a (p++[s])).Ad) can=(0,false):=fun h=>by
  rw[hO,Nx,if_pos];rcases h with h|h|h|h<;>rw[h]<;>simp
 have hOy:e4.k.whole=false->e4.k.BL.testBit 1=false->e4.k.BL.testBit 2=false->e4.k.DS.testBit 0=false->Nx w (kf a p) (fun s=>(kf a (p++[s])).Ad) can=match ID w (fun s=>(kf a (p++[s])).Ad) can e4.k.AF (e4.k.BL,e4.k.DS)with
  | none=>(0,false)
  | some u=>(Gx (DK (B1 w.parents) w.parents.length u.1),Gx (DK (B1 w.parents) w.parents.length u.1)&&&u.2==0):=fun h1 h2 h3 h4=>by
  rw[hO,Nx,h1,h2,h3,h4];rfl
 clear hO;cases hb0:e4.k.whole<;>rw[hb0]at hs
 rotate_left
 .refine zz ?_;(repeat clear U K);repeat intro K U
  exact AH ⟨_,⟨by rw[hOn (.inl hb0)];rfl,_,got.ext,got.inv,rfl⟩,hsc⟩
 .conv => whnf
  repeat'((first|clear U K|apply st|(apply zk;intro K U)|refine zY ?_|refine Pure.use (TG e4.k.BL 1 hok.1 (by decide)) ?_|refine Pure.use (TG e4.k.BL 2 hok.1 (by decide)) ?_|refine Pure.use (TG e4.k.DS 0 hok.2.1 (by decide)) ?_|refine za (fun hc=>?_) fun hc=>?_|fail)<;>conv=>whnf)
  all_goals first
   | exact AH ⟨_,⟨by rw[hOn (by first|exact .inl (by assumption)|exact .inr (.inl (by assumption))|exact .inr (.inr (.inl (by assumption)))|exact .inr (.inr (.inr (by assumption))))];rfl,_,got.ext,got.inv,rfl⟩,hsc⟩
   | skip
  replace hOy:=hOy hb0 (by assumption) (by assumption) (by assumption);clear hOn;generalize hnf:(fun s=>(kf a (p++[s])).Ad)=Ad at *
  have hs1:Sat Z (.own e4.vs 1 (iL e4.k.AF)::Hx L pre post e4 []):=by
   have h2:=S9 (X:=[]) (L:=L) (pre:=pre) (post:=post) (e:=e4) (s:=[]) (by simpa using hsc);simpa using h2
  refine Du e4.k.AF.length (fun k (x:(Nat×Nat)×List Bt)=>[(47,eI (Bj k)),(7,eU x.1.1),(8,eU x.1.2)]) (fun k x=> .own e4.vs 1 (iL e4.k.AF)::Hx L pre post e4 x.2) (fun k x=>(x.1.1<18446744073709551616/\x.1.2<18446744073709551616)/\(Bx kf (pre++e4::(post++x.2))/\ ∀y∈x.2,y.k=k0)/\ID w Ad can e4.k.AF (e4.k.BL,e4.k.DS)=ID w Ad can (e4.k.AF.drop k) x.1) ((e4.k.BL,e4.k.DS),[]) rfl ⟨⟨hok.1,hok.2.1⟩,⟨by simpa using got.inv,by simp⟩,rfl⟩ hs1 ?_;clear hs hs1 hsc;rintro k ⟨⟨m,no⟩,new⟩ Z hk ⟨⟨hm,hno⟩,⟨hinv,hnew⟩,hF⟩ hs;simp only at hm hno hinv hnew hF hs;have hck:Bj k=k:=Av (by have:=hok.2.2.2;omega);rcases BJ e4.k.AF hk with⟨s,hsk,hlt⟩|hke
  .have hsm:=Dn hsk
   have hp2:p.length<2:=by
    rcases Nat.lt_or_ge p.length 2 with h'|h'
    .exact h'
    .rw[hsh h']at hsm;cases hsm
   obtain⟨hs0,hs1⟩:=hsw s hsm;rw[drop_cons hsk,ID]at hF
   conv=>whnf
   repeat'((first|clear U K|apply st|(apply zk;intro K U)|refine zY ?_|refine ze fun x hx=>?_|refine zs fun Z hs=>?_|refine Pure.use (ON a p _ hp2) ?_|refine zo fun nn hnn Z hs=>?_|fail)<;>conv=>whnf)
   obtain rfl:x=s:=by rw[hck,Hc,hsk]at hx;exact(Option.some.inj hx).symm
   generalize nn=n7 at *;have hs2:Sat Z ([.box n7 (FN a (p++[x]))]++B4 L (pre++e4::(post++new))):=nk (X:=[.box n7 (FN a (p++[x]))]) (hs.perm (.swap _ _ _));clear hs;obtain⟨o,ho⟩: ∃o,w.owner[x.toNat]? =some o:=⟨_,Di (by omega)⟩
   have hoI:B2 w x=o:=by simp only[B2,Dh,ho];rfl
   obtain⟨ho1,ho2⟩:=hw.2.2 o (Dn ho);have hwp:=hw.1.1;have hcx:=hcan x hsm L;cases hnx:Ad x<;>cases hcy:can x
   all_goals
    rw[hcy]at hcx;rw[Yn,hnx,hcy,hoI]at hF;refine(K8 w us hinv (a:=a) (p:=p++[x]) (by simp;omega)).use (rest:=[.box n7 (FN a (p++[x]))]) (hs2.perm OD) ?_;clear hs2;rintro r post' Z ⟨es5,e5,got5,rfl,rfl⟩ hs;have hek5:e5.k.Ad=Ad x:=by rw[got5.k,<-hnf]
    rw[hnx]at hek5;obtain⟨newA,heA,hnA⟩:=got5.ext;obtain⟨pre5,post5,he5⟩:=List.append_of_mem got5.mem;rw[he5]at hs;replace hs:=G5 (X:=[.box n7 (FN a (p++[x]))]) (hs.perm OD);rw[hek5]at hs
    conv=>whnf
    repeat'((first|apply st|refine zY ?_|refine rk ?_ ?_|exact fun s e=>by cases e;rfl|fail)<;>conv=>whnf)
    have hs2:Sat Z ([.box n7 (FN a (p++[x]))]++B4 L (pre5++e5::post5)):=D3 (X:=[.box n7 (FN a (p++[x]))]) (e:=e5) (e':=e5) rfl rfl rfl (by rw[<-hek5]at hs;exact hs);clear hs;refine(hcx es5 got5.inv).use (rest:=[.box n7 (FN a (p++[x]))]) (by rw[he5];exact hs2.perm OD) ?_;clear hs2;rintro r post' Z ⟨rfl,es6,⟨new6,he6,hn6⟩,hi6,rfl⟩ hs;have he7:es6=pre5++e5::(post5++new6):=by rw[he6,he5];simp
    rw[he7]at hs;replace hs:=G5 (X:=[.box n7 (FN a (p++[x]))]) (hs.perm OD);rw[hek5]at hs
    conv=>whnf
    repeat'((first|clear U K|apply st|(apply zk;intro K U)|refine zY ?_|refine rk ?_ ?_|exact fun s e=>by cases e;rfl|refine Pure.use (G9 m o hm (by omega) (by omega)) ?_|refine Pure.use (G9 no o hno (by omega) (by omega)) ?_|fail)<;>conv=>whnf)
    simp only[Bool.not_false,Bool.not_true,Bool.and_true,Bool.and_false,Jf,if_false,if_true,Option.bind_some,Option.bind_none]at hF;have e7:es6=pre++e4::(post++(new++newA++new6)):=by rw[he6,heA];simp
    have hs2:Sat Z ([.box n7 (FN a (p++[x]))]++B4 L (pre5++e5::(post5++new6))):=D3 (X:=[.box n7 (FN a (p++[x]))]) (e:=e5) (e':=e5) rfl rfl rfl (by rw[<-hek5]at hs;exact hs)
    have hs3:Sat Z (B4 L (pre++e4::(post++(new++newA++new6)))):=by
     rw[<-he7,e7]at hs2;exact hs2.less (List.sublist_append_right _ _)
    have hi7:Bx kf (pre++e4::(post++(new++newA++new6))):=by rw[<-e7];exact hi6
    have hn7: ∀y∈new++newA++new6,y.k=k0:=fun y hy=>by
     rcases Dm.1 hy with hy|hy
     .rcases Dm.1 hy with hy|hy
      .exact hnew y hy
      .exact hnA y hy
     .exact hn6 y hy
    have hob:2 ^ o.toNat<18446744073709551616:=Hk (by omega)
   .exact⟨hlt,((m,no|||2 ^ o.toNat),new++newA++new6),rfl,⟨⟨hm,Jo hno hob⟩,⟨hi7,hn7⟩,hF⟩,S9 (X:=[]) hs3⟩
   .exact⟨hlt,((m,no),new++newA++new6),rfl,⟨⟨hm,hno⟩,⟨hi7,hn7⟩,hF⟩,S9 (X:=[]) hs3⟩
   .rw[hF]at hOy
    exact AH ⟨_,⟨by rw[hOy];rfl,_,got.ext.trans ⟨_,by simp,hn7⟩,hi7,rfl⟩,hs3⟩
   .exact⟨hlt,((m|||2 ^ o.toNat,no),new++newA++new6),rfl,⟨⟨Jo hm hob,hno⟩,⟨hi7,hn7⟩,hF⟩,S9 (X:=[]) hs3⟩
  .rw [BS hke,ID]at hF
   rw[hF]at hOy;simp only at hOy;refine zz ?_;(repeat clear U K);repeat intro K U
   have hu:ur us:=by rw[<-hus];exact HA _ _ (by have:=hw.1.1;omega)
   have hul:us.length=3+w.parents.length:=by rw[<-hus];exact Df _ _
   have hwp:=hw.1.1;have hwl:IntKind.i64.wrap (3+((Jg w.parents).length:Nat))=3+(w.parents.length:Int):=by rw[C4,wrap64 (by omega) (by omega)]
   refine Du w.parents.length (fun k (x:Nat)=>[(14,eI (Q1 3 k)),(7,eU x)]) (fun _ _=> .own e4.vs 1 (iL e4.k.AF)::Hx L pre post e4 new) (fun k x=>x<18446744073709551616/\x=DK us k m) m rfl ⟨hm,rfl⟩ hs ?_;clear hs;clear hke hck hk k;rintro k x Z hk ⟨hx64,hxe⟩ hs;have hc3:Q1 3 k=3+k:=T0 (by omega) (by omega);by_cases hlt:k<w.parents.length
   .have hbt:DK us (k+1) m=if x.testBit (Q1 3 k).toNat then x|||us.getD (3+k) 0 else x:=by
     rw[DK,<-hxe,hc3,show(3+(k:Int)).toNat=3+k by omega]
    have hup:(List.drop ((Q1 3 k).toNat*1) (List.drop 2 (wC w us)))[0]? =some (eU (us.getD (3+k) 0)):=by
     rw[ui,ui,<-oU w us (i:=3+k) (by omega)];congr 1;omega
    conv=>whnf
    repeat'((first|clear U K|apply st|(apply zk;intro K U)|refine zY ?_|(rw[hup])|refine Pure.use (mj x (Q1 3 k) hx64 (by omega) (by omega)) ?_|(refine zb (fun hc=>?_) (fun hc=>?_)<;>try exact⟨⟩)|fail)<;>conv=>whnf)
    .refine⟨hlt,x|||us.getD (3+k) 0,?_,⟨Jo hx64 (TA hu _),by rw[hbt,if_pos (by assumption)]⟩,hs⟩
     rw[Hu hx64 (TA hu _)];rfl
    .exact⟨hlt,x,rfl,⟨hx64,by rw[hbt,if_neg (by rw[‹x.testBit _=false›];decide)]⟩,hs⟩
   .have hke:k=w.parents.length:=by omega
    rw[hus,<-hke,<-hxe]at hOy
    have hA:bits .andNot .u64 (x:Int) 1=((Gx x:Nat):Int):=by
     have:=Ha (a:=x) (b:=1);rw[jy hx64]at this;exact this
    have hcl:Gx x<18446744073709551616:=by unfold Gx;omega
    have hB:bits .and .u64 ((Gx x:Nat):Int) (no:Int)=((Gx x&&&no:Nat):Int):=FJ hcl hno
    conv=>whnf
    repeat'((first|clear U K|apply st|(apply zk;intro K U)|refine zY ?_|(refine zb (fun hc=>?_) (fun hc=>?_)<;>try exact⟨⟩)|fail)<;>conv=>whnf)
    rw[hA,hB];refine AH ⟨_,⟨?_,_,got.ext.trans ⟨new,by simp,hnew⟩,hinv,rfl⟩,qB hs⟩;rw[hOy]
    have hz:(((Gx x&&&no:Nat):Int)==0)=(Gx x&&&no==0):=by
     rw[Gr,Cy,Cy];omega
    rw[<-hz]
def uY (w:AG) (hw:Cn w) {kf:Int->List Int->Kn} (hr:ER w kf) (a:Int): ∀(d:Nat) (p:List Int),p.length+d=2-> ∀(L:Nat) (es:List Bt),Bx kf es->
    BK zP 189 [UO w (B1 w.parents) L,CI a p] (B4 L es) fun r post=>r= .ret (.b (N2 w kf a d p))/\O2 kf L es post:=by
 intro d
 induction d with
 | zero=>
   intro p hp L es h Z hs;have hint:=QM w (B1 w.parents) hr h (L:=L) (a:=a) (p:=p) (by omega);have hnone:=fun es h=>ZU w (B1 w.parents) hr (es:=es) h (L:=L) (a:=a) (p:=p) (by omega)
   have hobj:=fun es h=>Rx w hw hr (a:=a) (p:=p) (by omega) (fun _=>false) (by rw[hr.short a p (by omega)];intro s hs;cases hs) (L:=L) (es:=es) h
   rw[N2];cases hI:Gv kf a p<;>cases hN:EA kf a p<;>rw[hI]at hint<;>rw[hN]at hnone
   all_goals
    refine fv kZ ?_;refine zz ?_;(repeat clear U K);repeat intro K U
    refine hint.use (rest:=[]) (by simpa using hs) ?_;clear hs;rintro r post Z ⟨rfl,es2,hx2,hi2,rfl⟩ hs;rw[Fj]at hs;refine zz ?_;(repeat clear U K);repeat intro K U
   rotate_left 2
   .exact AH ⟨_,⟨rfl,es2,hx2,hi2,rfl⟩,hs⟩
   .exact AH ⟨_,⟨rfl,es2,hx2,hi2,rfl⟩,hs⟩
   all_goals
    refine(hnone es2 hi2).use (rest:=[]) (by simpa using hs) ?_;clear hs;rintro r post Z ⟨rfl,es3,hx3,hi3,rfl⟩ hs;rw[Fj]at hs;refine zz ?_;(repeat clear U K);repeat intro K U
   rotate_left 1
   .exact AH ⟨_,⟨rfl,es3,hx2.trans hx3,hi3,rfl⟩,hs⟩
   .refine(hobj es3 hi3).use (rest:=[]) (by simpa using hs) ?_
    clear hs;rintro r post Z ⟨rfl,es4,hx4,hi4,rfl⟩ hs;rw[Fj]at hs;refine zz ?_;(repeat clear U K);repeat intro K U
    exact AH ⟨_,⟨rfl,es4,(hx2.trans hx3).trans hx4,hi4,rfl⟩,hs⟩
 | succ d ih=>
   intro p hp L es h Z hs;have hint:=QM w (B1 w.parents) hr h (L:=L) (a:=a) (p:=p) (by omega);have hnone:=fun es h=>ZU w (B1 w.parents) hr (es:=es) h (L:=L) (a:=a) (p:=p) (by omega)
   have hobj:=fun es h=>Rx w hw hr (a:=a) (p:=p) (by omega) (fun s=>N2 w kf a d (p++[s])) (fun s hs L es h=>ih (p++[s]) (by simp;omega) L es h) (L:=L) (es:=es) h
   rw[N2];cases hI:Gv kf a p<;>cases hN:EA kf a p<;>rw[hI]at hint<;>rw[hN]at hnone
   all_goals
    refine fv kZ ?_;refine zz ?_;(repeat clear U K);repeat intro K U
    refine hint.use (rest:=[]) (by simpa using hs) ?_;clear hs;rintro r post Z ⟨rfl,es2,hx2,hi2,rfl⟩ hs;rw[Fj]at hs;refine zz ?_;(repeat clear U K);repeat intro K U
   rotate_left 2
   .exact AH ⟨_,⟨rfl,es2,hx2,hi2,rfl⟩,hs⟩
   .exact AH ⟨_,⟨rfl,es2,hx2,hi2,rfl⟩,hs⟩
   all_goals
    refine(hnone es2 hi2).use (rest:=[]) (by simpa using hs) ?_;clear hs;rintro r post Z ⟨rfl,es3,hx3,hi3,rfl⟩ hs;rw[Fj]at hs;refine zz ?_;(repeat clear U K);repeat intro K U
   rotate_left 1
   .exact AH ⟨_,⟨rfl,es3,hx2.trans hx3,hi3,rfl⟩,hs⟩
   .refine(hobj es3 hi3).use (rest:=[]) (by simpa using hs) ?_
    clear hs;rintro r post Z ⟨rfl,es4,hx4,hi4,rfl⟩ hs;rw[Fj]at hs;refine zz ?_;(repeat clear U K);repeat intro K U
    exact AH ⟨_,⟨rfl,es4,(hx2.trans hx3).trans hx4,hi4,rfl⟩,hs⟩
abbrev pD:V:= .Ee 206 (.a [])
def gr (w:AG) (hw:Cn w) {kf:Int->List Int->Kn} (hr:ER w kf) {L:Nat} {es:List Bt} (h:Bx kf es) :
    BK zP 127 [UO w (B1 w.parents) L] (B4 L es) fun r post=>r=(if dV w kf then .ret (.t [])else .BV pD)/\post= []:=by
 intro Z hs;refine uF kZ ?_;refine zz ?_;(repeat clear U K);repeat intro K U
 refine Du 3 (fun k (x:List Bt)=>[(3,eI (Bj k))]) (fun k x=>B4 L x) (fun k x=>Bx kf x/\dV w kf=((BT 3).drop k).all fun a=>N2 w kf a 2 []) es rfl ⟨h,rfl⟩ hs ?_;clear hs h;rintro k es Z hk ⟨h,hn⟩ hs;have hck:Bj k=k:=Av (by simp only[As];omega);have hl3:(BT 3).length=3:=rfl;rcases BJ (BT 3) hk with⟨a,ha,hlt⟩|hke
 .rw[drop_cons ha,W5]at hn
  have hak:a=Bj k:=by
   rw[hck];simp only[BT,Np,List.getElem?_range (show k<3 from hlt),aE]at ha;exact(Option.some.inj ha).symm
  subst hak;have hcan:=uY w hw hr (Bj k) 2 [] rfl L es h;cases hC:N2 w kf (Bj k) 2 []<;>rw[hC]at hcan hn
  all_goals
   conv=>whnf
   repeat'((first|clear U K|apply st|(apply zk;intro K U)|refine zY ?_|(refine zb (fun hc=>?_) (fun hc=>?_)<;>try exact⟨⟩)|fail)<;>conv=>whnf)
   refine hcan.use (rest:=[]) (by simpa using hs) ?_;clear hs;rintro r post Z ⟨rfl,es2,hx2,hi2,rfl⟩ hs;rw[Fj]at hs;refine zz ?_;(repeat clear U K);repeat intro K U
  .exact C2 ⟨_,⟨by rw[hn];rfl,rfl⟩,hs.less (RF _)⟩
  .exact⟨by omega,es2,rfl,⟨hi2,by simpa using hn⟩,hs⟩
 .rw[BS hke]at hn
  conv=>whnf
  repeat'((first|clear U K|apply st|(apply zk;intro K U)|refine zY ?_|(refine zb (fun hc=>?_) (fun hc=>?_)<;>try exact⟨⟩)|fail)<;>conv=>whnf)
  exact AH ⟨_,⟨by rw[hn];rfl,rfl⟩,hs.less (RF _)⟩
def Oa {w:AG} {ls:List Fact} (hw:w.parents.length<=60) (h: ∀x∈ls,C6 w x):Mk ls:=by
 intro l hl;obtain⟨-,hc,hsm,hsh⟩:=Lh h;obtain⟨-,hn,hlf⟩:=HH (h l hl);exact⟨E3 hlf,hsh l hl,fun ho=>by have:=hc l hl ho;omega,hsm l hl⟩
def rY {ls:List Fact} (h:XX ls) (a:Int) (p:List Int): -1000000000<=(kn ls a p).low/\(kn ls a p).low<=1000000000:=by
 have key: ∀(ls:List Fact) (k:Kn),XX ls->(-1000000000<=k.low/\k.low<=1000000000)-> -1000000000<=(ls.foldl (Cd a p) k).low/\(ls.foldl (Cd a p) k).low<=1000000000:=by
  intro ls
  induction ls with
  | nil=>intro k _ h;exact h
  | cons l r ih=>
    intro k hs hk;refine ih _ (fun x hx=>hs x (.tail _ hx)) ?_;have hn:=hs l (.head _);unfold Cd Bl Bm dR
    repeat' split
    all_goals first
     | exact hk
     | exact hn
     | (simp only;exact hk)
     | (simp only;exact hn)
 exact key ls k0 h ⟨by decide,by decide⟩
def ZO {w:AG} {ls:List Fact} (h: ∀x∈ls,C6 w x):Gb w.owner.length ls:=by
 intro l hl s hs;obtain⟨-,hn,-⟩:=HH (h l hl);rw[CO,A4]at hn;have:=hn.1;simp only[Dr,Ib,A4,DR,Ot,CT]at this;exact this.2.2.2.2.1.1 s hs
def ZG {w:AG} (hw:Cn w) {ls:List Fact} (h: ∀x∈ls,C6 w x) (hlen:ls.length<900):ER w (kn ls):=by
 have hadd:=Oa (by have:=hw.1.1;omega) h;obtain⟨-,-,hsm,hsh⟩:=Lh h;have hp:=ZO h;refine⟨fun a p=>?_,rY hsm,fun a p hpl=>?_,fun a p s hs=>?_⟩
 .obtain⟨h1,h2,h3,h4⟩:=fS hadd a p
  exact⟨h1,h2,by omega,by omega⟩
 .rw[Iv hp]
  exact Mu hsh hpl
 .rw[Iv hp]at hs
  exact HS hs
def qV {w:AG} (hw:Cn w) {ls:List Fact} (h: ∀x∈ls,C6 w x):dV w (kn ls)=Ji w ls:=by
 obtain⟨-,hc,-,-⟩:=Lh h;refine qW ?_ (fun s h0 h1=>?_) (by have:=hw.1.1;omega) (fun l hl ho=>by have:=hc l hl ho;omega) (ZO h)
 .exact JS hw.1
 .obtain⟨o,ho⟩: ∃o,w.owner[s.toNat]? =some o:=⟨_,Di (by omega)⟩
  have hoI:B2 w s=o:=by simp only[B2,Dh,ho];rfl
  rw[hoI];exact hw.2.2 o (Dn ho)
def na {Z:AE} {n:Nat} {x:V} {rest:List At} (hs:Sat Z (.box n [x]::rest)) {Q:AE->Prop} (hq: ∀Z',Sat Z' (.box n [.b false]::rest)->Q Z'):G0 zP 126 [.p n 0] (some pD) Z Q:=by
 refine Zu kZ ?_
 conv=>whnf
 repeat'((first|clear U K|apply st|(apply zk;intro K U)|refine zs fun Z hs=>?_|refine pj rfl ?_|refine zo fun nn hnn Z hs=>?_|fail)<;>conv=>whnf)
 exact hq _ (hs.less (NJ _ _))
def nc {Z:AE} {n:Nat} {x:V} {rest:List At} (hs:Sat Z (.box n [x]::rest)) {Q:AE->Prop} (hq: ∀Z',Sat Z' (.box n [x]::rest)->Q Z'):G0 zP 126 [.p n 0] none Z Q:=by
 refine Zu kZ ?_
 conv=>whnf
 repeat'((first|clear U K|apply st|(apply zk;intro K U)|refine zY ?_|refine zs fun Z hs=>?_|refine zo fun nn hnn Z hs=>?_|fail)<;>conv=>whnf)
 exact hq _ (hs.less (NJ _ _))
attribute [local irreducible] G0
def WV (w:AG) (hw:Cn w) (ls:List Fact) (b:Bool) (hl: ∀x∈ls,C6 w x) (hlen:ls.length<900):Pure zP 80 [.rp (wC w (B1 w.parents)),.l (DU ls) b] (.b (Ji w ls)):=by
 refine Pure.of ?_;refine xG kZ ?_;have hs:=Sn
 conv=>whnf
 repeat'((first|clear U K|apply st|(apply zk;intro K U)|refine zo fun nn hnn Z hs=>?_|fail)<;>conv=>whnf)
 refine(iB w (B1 w.parents) ls b (Oa (by have:=hw.1.1;omega) hl) hlen).use (rest:=[.box nn [.b false]]) (by simpa using hs) ?_;clear hs;rintro r post Z ⟨L,es,rfl,hinv,rfl⟩ hs;have hwh:=gr w hw (ZG hw hl hlen) hinv (L:=L);rw[qV hw hl]at hwh;cases ht:Ji w ls<;>rw[ht]at hwh
 all_goals
  conv=>whnf
  refine hwh.use (rest:=[.box nn [.b false]]) hs ?_;clear hs;rintro r post Z ⟨rfl,rfl⟩ hs
  conv=>whnf
  repeat'((first|clear U K|apply st|(apply zk;intro K U)|refine zs fun Z hs=>?_|fail)<;>conv=>whnf)
 .refine na (rest:=[]) hs fun Z hs=>?_
  refine zz ?_;(repeat clear U K);repeat intro K U
  exact AH (by rw[ht];rfl)
 .refine nc (rest:=[]) (x:= .b true) hs fun Z hs=>?_
  refine zz ?_;(repeat clear U K);repeat intro K U
  exact AH (by rw[ht];rfl)
end Go.Gl
