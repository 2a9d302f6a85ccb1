import Derived.Test.YtnidfcmdimehdaaGreatU14
import Derived.Test.YtnidfcmdimehdaaGreatU27
import Derived.Test.YtnidfcmdimehdaaGreatU28
import Derived.Test.YtnidfcmdimehdaaGreatU29
import Derived.Test.YtnidfcmdimehdaaGreatU31
set_option linter.all false
set_option linter.defProp false
set_option maxHeartbeats 8000000
noncomputable section
namespace Go.Gl
open Go.Proofs
attribute [local irreducible] As Af AV AQ AI AU AP AR AJ AT AM AN Ag Ar Sat AS Ap AX W
structure EM (w:AE) (kf:Int->List Int->Kn):Prop where
 ok: ∀a p,bR 1000 (kf a p)
 low: ∀a p,-1000000000<=(kf a p).low/\(kf a p).low<=1000000000
 short: ∀a p,2<=p.length->(kf a p).AL= []
 AL: ∀a p,∀s∈(kf a p).AL,0<=s/\s<w.owner.length
abbrev Hx (L:Nat) (pre post:List Bx) (e:Bx) (s:List Bx):List At:=
 .box e.b [eI e.k.low,eI e.k.high,e.vn,eU e.k.BJ,eU e.k.Dv,.b e.k.whole,.b e.k.Ab,e.vs]:: .own e.vn 1 (iL e.k.no)::H2 L (pre++e::(post++s)) pre (post++s)
def xk {Z:AD} {L:Nat} {pre post:List Bx} {e:Bx} {s:List Bx} (h:Sat Z (CD L (pre++e::(post++s)))):Sat Z (.own e.vs 1 (iL e.k.AL)::Hx L pre post e s):=
 (H4 (X:=[]) h).perm ((Jn _ _ _ _).symm)
def qi {Z:AD} {L:Nat} {pre post:List Bx} {e:Bx} {s:List Bx} (h:Sat Z (.own e.vs 1 (iL e.k.AL)::Hx L pre post e s)):Sat Z (CD L (pre++e::(post++s))):=
 Em (X:=[]) (e:=e) (e':=e) rfl rfl rfl (h.perm (Jn _ _ _ _))
def Pq (kf:Int->List Int->Kn) (L:Nat) (es:List Bx) (post:List At):Prop:= ∃es',K1 es es'/\Bp kf es'/\post=CD L es'
def oC (w:AE) (us:List Nat) {kf:Int->List Int->Kn} {L:Nat} {pre post:List Bx} {e:Bx} {a:Int} {p:List Int} (hp:p.length<2) :
    OO zP (.f (.func 286) [] [.rp [VB w us L],.rp (F7 a p)]) eI (fun s=> .own e.vs 1 (iL e.k.AL)::Hx L pre post e s) (fun y=> !(kf a (p++[y])).Ab) (fun s=>Bp kf (pre++e::(post++s))/\ ∀x∈s,x.k=k0) (fun _=>True):=by
 rintro y s - ⟨hj,hj0⟩ Z hs;refine A6 ?_;show As zP 286 ([]++[eI y]++[.rp [VB w us L],.rp (F7 a p)]) Z _;refine tj kZ ?_
 conv=>whnf
 repeat'((first|clear U K|apply st|(apply zk;intro K U)|refine zY ?_|refine rk ?_ ?_|exact fun s e=>by cases e;rfl|refine Pure.use (PF a p y hp) ?_|fail)<;>conv=>whnf)
 refine(MD w us hj (a:=a) (p:=p++[y]) (by simp;omega)).use (rest:=[]) (by simpa using qi hs) ?_;clear hs;rintro r post' Z ⟨es4,e4,got,rfl,rfl⟩ hs;have hek4:=got.k;obtain⟨new,he4,hnew⟩:=got.ext;have hinv:=got.inv;obtain⟨pre4,post4,he5⟩:=List.append_of_mem got.mem;rw[EU,he5]at hs;replace hs:=H4 (X:=[]) hs;refine zz ?_;(repeat clear U K);repeat intro K U
 refine AH ⟨by rw[hek4],s++new,⟨?_,fun x hx=>?_⟩,?_⟩
 .rw[he4]at hinv
  simpa using hinv
 .rcases Du.1 hx with hx|hx
  .exact hj0 x hx
  .exact hnew x hx
 .have h2:=Em (X:=[]) (e:=e4) (e':=e4) rfl rfl rfl hs
  rw[<-he5,he4]at h2;refine xk ?_;simpa using h2
def oD (w:AE) (us:List Nat) {kf:Int->List Int->Kn} (hr:EM w kf) {L:Nat} {es:List Bx} (h:Bp kf es) {a:Int} {p:List Int} (hp:p.length<=2) :
    BL zP 238 [VB w us L,CC a p] (CD L es) fun r post=>r= .ret (.b (H7 kf a p))/\Pq kf L es post:=by
 intro Z hs;have hM:=Mx;refine uV kZ ?_;refine zz ?_;(repeat clear U K);repeat intro K U
 refine(MD w us h (a:=a) (p:=p) hp).use (rest:=[]) (by simpa using hs) ?_;clear hs;rintro r post Z ⟨es4,e4,got,rfl,rfl⟩ hs;have hek:=got.k;obtain⟨pre,post,rfl⟩:=List.append_of_mem got.mem;rw[EU]at hs;replace hs:=H4 (X:=[]) hs;have hsl:=(hr.ok a p).2.2.2;have hsh:=hr.short a p;rw[<-hek]at hsl hsh
 have hst:p.length<2\/e4.k.AL= []:=by
  rcases Nat.lt_or_ge p.length 2 with h'|h'
  .exact .inl h'
  .exact .inr (hsh h')
 have hE:H7 kf a p=e4.k.AL.all fun y=> !(kf a (p++[y])).Ab:=by rw[H7,hek]
 refine zz ?_;(repeat clear U K);repeat intro K U
 have hall:BL zP 180 [e4.vs,.f (.func 286) [] [.rp [VB w us L],.rp (F7 a p)]] (.own e4.vs 1 (iL e4.k.AL)::Hx L pre post e4 []) fun r post'=>r= .ret (.b (e4.k.AL.all fun y=> !(kf a (p++[y])).Ab))/\ ∃s',(Bp kf (pre++e4::(post++s'))/\ ∀x∈s',x.k=k0)/\post'= .own e4.vs 1 (iL e4.k.AL)::Hx L pre post e4 s':=by
  rcases hst with h'|h'
  .exact bJ 286 [] [.rp [VB w us L],.rp (F7 a p)] (Hx L pre post e4) _ _ _ (oC w us h') (fun _ _=>trivial) (by omega) [] ⟨by simpa using got.inv,by simp⟩
  .exact bJ 286 [] [.rp [VB w us L],.rp (F7 a p)] (Hx L pre post e4) _ _ (fun _=>False) (fun y s hf=>hf.elim) (fun x hx=>by rw[h']at hx;cases hx) (by omega) [] ⟨by simpa using got.inv,by simp⟩
 refine hall.use (rest:=[]) (by
  have h2:=xk (L:=L) (pre:=pre) (post:=post) (e:=e4) (s:=[]) (by simpa using Em (X:=[]) (e:=e4) (e':=e4) rfl rfl rfl hs)
  simpa using h2) ?_
 clear hs;rintro r post' Z ⟨rfl,s',⟨hi,hn⟩,rfl⟩ hs;refine zz ?_;(repeat clear U K);repeat intro K U
 refine AH ⟨_,⟨by rw[hE],pre++e4::(post++s'),got.ext.trans ⟨s',by simp,hn⟩,hi,rfl⟩,qi (by simpa using hs)⟩
def Mu {m u:Nat} (hm:m<18446744073709551616):(L3 m u=0)↔Hu m u=true:=by
 rw[Ma (by simpa using hm)];constructor
 .intro h b hb
  have hlt:b<64:=by
   rcases Nat.lt_or_ge b 64 with h'|h'
   .exact h'
   .rw[Nat.testBit_lt_two_pow (Nat.lt_of_lt_of_le hm (by simpa using Nat.pow_le_pow_right (n:=2) (by decide) h'))]at hb;cases hb
  have:=Ql (a:=m) (b:=u) hlt;rw[h,Nat.zero_testBit,hb]at this;simpa using this
 .intro h
  refine Nat.eq_of_testBit_eq fun i=>?_
  rw[Nat.zero_testBit];rcases Nat.lt_or_ge i 64 with hlt|hge
  .rw[Ql hlt]
   cases hb:m.testBit i with
   | false=>rfl
   | true=>rw[h i hb];rfl
  .exact Nat.testBit_lt_two_pow (Nat.lt_of_lt_of_le (Us _ _) (by simpa using Nat.pow_le_pow_right (n:=2) (by decide) hge))
def WB (w:AE) (us:List Nat) {kf:Int->List Int->Kn} (hr:EM w kf) {L:Nat} {es:List Bx} (h:Bp kf es) {a:Int} {p:List Int} (hp:p.length<=2) (c:Nat) (hc:c<64) :
    BL zP 192 [VB w us L,CC a p,eI c] (CD L es) fun r post=>r= .ret (.b (Ei kf a p c))/\Pq kf L es post:=by
 intro Z hs;refine vB kZ ?_;refine zz ?_;(repeat clear U K);repeat intro K U
 refine(MD w us h (a:=a) (p:=p) hp).use (rest:=[]) (by simpa using hs) ?_;clear hs;rintro r post Z ⟨es4,e4,got,rfl,rfl⟩ hs;have hek:=got.k;obtain⟨pre,post,rfl⟩:=List.append_of_mem got.mem;rw[EU]at hs;replace hs:=H4 (X:=[]) hs;have hok:=hr.ok a p;rw[<-hek]at hok;have hu:1|||2 ^ c<18446744073709551616:=H3 (by decide) (Ge hc)
 have hb1:bits .andNot .u64 (e4.k.BJ:Int) ((1|||2 ^ c:Nat):Int)=((L3 e4.k.BJ (1|||2 ^ c):Nat):Int):=IY;have hb2:bits .and .u64 (e4.k.Dv:Int) ((1|||2 ^ c:Nat):Int)=((e4.k.Dv&&&(1|||2 ^ c):Nat):Int):=F4 hok.2.1 hu;have hb3:=Mu (u:=1|||2 ^ c) hok.1;have hP:Ei kf a p c=(Hu e4.k.BJ (1|||2 ^ c)&&(e4.k.Dv&&&(1|||2 ^ c)==0&&H7 kf a p)):=by rw[Ei,hek]
 conv=>whnf
 repeat'((first|clear U K|apply st|(apply zk;intro K U)|refine zY ?_|refine Pure.use (Zj 1 c (by decide) hc) ?_|refine za (fun hc=>?_) fun hc=>?_|fail)<;>conv=>whnf)
 .have h1:Hu e4.k.BJ (1|||2 ^ c)=true:=hb3.1 (by omega)
  have h2:(e4.k.Dv&&&(1|||2 ^ c)==0)=true:=by rw[Cd];omega
  refine(oD w us hr got.inv hp).use (rest:=[]) (by simpa using Em (X:=[]) (e:=e4) (e':=e4) rfl rfl rfl hs) ?_;clear hs;rintro r post' Z ⟨rfl,es5,hx,hi,rfl⟩ hs;refine zz ?_;(repeat clear U K);repeat intro K U
  exact AH ⟨_,⟨by rw[hP,h1,h2];rfl,es5,got.ext.trans hx,hi,rfl⟩,by simpa using hs⟩
 .have h2:(e4.k.Dv&&&(1|||2 ^ c)==0)=false:=by rw[beq_eq_false_iff_ne];omega
  exact AH ⟨_,⟨by rw[hP,h2];simp,_,got.ext,got.inv,rfl⟩,by simpa using Em (X:=[]) (e:=e4) (e':=e4) rfl rfl rfl hs⟩
 .have h1:Hu e4.k.BJ (1|||2 ^ c)=false:=by
   rw[<-Bool.not_eq_true,<-hb3];omega
  exact AH ⟨_,⟨by rw[hP,h1];simp,_,got.ext,got.inv,rfl⟩,by simpa using Em (X:=[]) (e:=e4) (e':=e4) rfl rfl rfl hs⟩
def RI (w:AE) (us:List Nat) {kf:Int->List Int->Kn} (hr:EM w kf) {L:Nat} {es:List Bx} (h:Bp kf es) {a:Int} {p:List Int} (hp:p.length<=2) :
    BL zP 129 [VB w us L,CC a p] (CD L es) fun r post=>r= .ret (.t [eI (Ek (kf a p)),.b (GA kf a p)])/\Pq kf L es post:=by
 intro Z hs;have hM:=Mx;refine wJ kZ ?_;refine zz ?_;(repeat clear U K);repeat intro K U
 refine(MD w us h (a:=a) (p:=p) hp).use (rest:=[]) (by simpa using hs) ?_;clear hs;rintro r post Z ⟨es4,e4,got,rfl,rfl⟩ hs;have hek:=got.k;obtain⟨pre,post,rfl⟩:=List.append_of_mem got.mem;rw[EU]at hs;replace hs:=H4 (X:=[]) hs;have hok:=hr.ok a p;have hlo:=hr.low a p;rw[<-hek]at hok hlo;have hno:=hok.2.2.1;have hle:=Uk e4.k.no e4.k.low;have hL:Ek (kf a p)=G4 e4.k.no (from_ e4.k.no e4.k.low) e4.k.low:=by rw[Ek,<-hek];exact PQ hle (G0 _)
 refine zz ?_;(repeat clear U K);repeat intro K U
 refine DD (fun n:Int=>from_ e4.k.no n) (fun n=>[(7,eI n)]) (fun _=> .box e4.b [eI e4.k.low,eI e4.k.high,e4.vn,eU e4.k.BJ,eU e4.k.Dv,.b e4.k.whole,.b e4.k.Ab,e4.vs]:: .own e4.vn 1 (iL e4.k.no):: .own e4.vs 1 (iL e4.k.AL)::([]++H2 L (pre++e4::post) pre post)) (fun n=> -1000000000<=n/\n+from_ e4.k.no n<=1000001000/\Ek (kf a p)=G4 e4.k.no (from_ e4.k.no n) n) e4.k.low rfl ⟨by omega,by omega,hL⟩ hs ?_;clear hs hL hle;rintro n Z ⟨hn0,hn1,hL⟩ hs;have hct2:=fun b=>CP e4.k.no b n
 cases hcB:e4.k.no.contains n<;>rw[hcB]at hct2
 .have hout:n∉e4.k.no:=by simpa using hcB
  rw[bK hout]at hL;have hI:GA kf a p=(decide (n<=e4.k.high)&&Ei kf a p 1):=by rw[GA,hL,hek]
  conv=>whnf
  repeat'((first|clear U K|apply st|(apply zk;intro K U)|refine zY ?_|refine Pure.LO (hct2 false) (.cons (hs.Ic 1 rfl) (.cons (.refl _) .nil)) rfl ?_|refine za (fun hc=>?_) fun hc=>?_|fail)<;>conv=>whnf)
  all_goals
   have hsc:Sat Z (CD L (pre++e4::post)):=by simpa using Em (X:=[]) (e:=e4) (e':=e4) rfl rfl rfl hs
  .refine(WB w us hr got.inv hp 1 (by decide)).use (rest:=[]) (by simpa using hsc) ?_
   clear hs hsc;rintro r post' Z ⟨rfl,es5,hx,hi,rfl⟩ hs;refine zz ?_;(repeat clear U K);repeat intro K U
   exact AH ⟨_,⟨by rw[hL,hI,decide_eq_true (by assumption)];rfl,es5,got.ext.trans hx,hi,rfl⟩,by simpa using hs⟩
  .exact AH ⟨_,⟨by rw[hL,hI,decide_eq_false (by omega)];rfl,_,got.ext,got.inv,rfl⟩,hsc⟩
 .have hin:n∈e4.k.no:=by simpa using hcB
  have hlt:=PM hin;have hwr:IntKind.i64.wrap (n+1)=n+1:=wrap64 (by omega) (by omega);obtain⟨m,hm⟩: ∃m,from_ e4.k.no n=m+1:=⟨from_ e4.k.no n - 1,by omega⟩
  have hL2:Ek (kf a p)=G4 e4.k.no (from_ e4.k.no (n+1)) (n+1):=by rw[hL,hm,iG hin];exact PQ (by omega) (G0 _)
  conv=>whnf
  repeat'((first|clear U K|apply st|(apply zk;intro K U)|refine zY ?_|refine Pure.LO (hct2 false) (.cons (hs.Ic 1 rfl) (.cons (.refl _) .nil)) rfl ?_|fail)<;>conv=>whnf)
  exact⟨n+1,hlt,by rw[hwr];rfl,⟨by omega,by omega,hL2⟩,hs⟩
def aD (w:AE) (us:List Nat) {kf:Int->List Int->Kn} (hr:EM w kf) {L:Nat} {es:List Bx} (h:Bp kf es) {a:Int} {p:List Int} (hp:p.length<=2) :
    BL zP 130 [VB w us L,CC a p] (CD L es) fun r post=>r= .ret (.b (DV kf a p))/\Pq kf L es post:=by
 intro Z hs;refine wI kZ ?_;refine zz ?_;(repeat clear U K);repeat intro K U
 refine(MD w us h (a:=a) (p:=p) hp).use (rest:=[]) (by simpa using hs) ?_;clear hs;rintro r post Z ⟨es4,e4,got,rfl,rfl⟩ hs;have hek:=got.k;obtain⟨pre,post,rfl⟩:=List.append_of_mem got.mem;rw[EU]at hs;have hsc:=hs;replace hs:=H4 (X:=[]) hs;have hN:DV kf a p=(!e4.k.whole&&Ei kf a p 2):=by rw[DV,hek]
 cases hw:e4.k.whole<;>rw[hw]at hs hN
 .refine zz ?_;(repeat clear U K);repeat intro K U
  refine(WB w us hr got.inv hp 2 (by decide)).use (rest:=[]) (by simpa using hsc) ?_;clear hs hsc;rintro r post' Z ⟨rfl,es5,hx,hi,rfl⟩ hs;refine zz ?_;(repeat clear U K);repeat intro K U
  exact AH ⟨_,⟨by rw[hN];rfl,es5,got.ext.trans hx,hi,rfl⟩,by simpa using hs⟩
 .refine zz ?_;(repeat clear U K);repeat intro K U
  exact AH ⟨_,⟨by rw[hN];rfl,_,got.ext,got.inv,rfl⟩,hsc⟩
def Tz {Z:AD} {X:List At} {L:Nat} {pre post:List Bx} {e:Bx} {s:List Bx} (h:Sat Z (X++CD L (pre++e::(post++s)))):Sat Z (.own e.vs 1 (iL e.k.AL)::(X++Hx L pre post e s)):=by
 have h2:=H4 h;refine h2.perm ((Jn _ _ _ _).symm.trans (.cons _ ?_));exact(List.perm_middle.trans (.cons _ List.perm_middle)).symm
def oQ {Z:AD} {X:List At} {L:Nat} {pre post:List Bx} {e:Bx} {s:List Bx} (h:Sat Z (.own e.vs 1 (iL e.k.AL)::(X++Hx L pre post e s))):Sat Z (X++CD L (pre++e::(post++s))):=by
 refine Em (X:=X) (e:=e) (e':=e) rfl rfl rfl ?_;refine h.perm ?_;refine List.Perm.trans (.cons _ (List.perm_middle.trans (.cons _ List.perm_middle))) ?_;exact Jn _ _ _ _
def nc (s:Nat) (c:Int) (hs0:s<18446744073709551616) (h0:0<=c) (hc:c<64):Pure zP 133 [eU s,eI c] (.b (s.testBit c.toNat)):=by
 have:=T7 s c.toNat hs0 (by omega);rw[Int.toNat_of_nonneg h0]at this;exact this
def ke {m:Nat} (hm:m<18446744073709551616):L3 m 1=Hz m:=by
 refine Nat.eq_of_testBit_eq fun i=>?_
 rw[Wl];rcases Nat.lt_or_ge i 64 with hlt|hge
 .rw[Ql hlt,show(1:Nat)=2 ^ 0 from rfl,Nat.testBit_two_pow]
  congr 2;rw[KF,CF,Cd];omega
 .have h64:18446744073709551616<=2 ^ i:=by simpa using Nat.pow_le_pow_right (n:=2) (by decide) hge
  rw[Nat.testBit_lt_two_pow (Nat.lt_of_lt_of_le (Us _ _) h64),Nat.testBit_lt_two_pow (Nat.lt_of_lt_of_le hm h64)];rfl
def Su (w : AE) (hw:CS w) {kf:Int->List Int->Kn} (hr:EM w kf) {a:Int} {p:List Int} (hp:p.length<=2) (can:Int->Bool)
    (hcan: ∀s∈(kf a p).AL,∀L es,Bp kf es->BL zP 189 [VB w (BR w.parents) L,CC a (p++[s])] (CD L es) fun r post=>r= .ret (.b (can s))/\Pq kf L es post) {L:Nat} {es:List Bx} (h:Bp kf es) :
    BL zP 131 [VB w (BR w.parents) L,CC a p] (CD L es) fun r post=>r= .ret (.t [eU (Oq w (kf a p) (fun s=>(kf a (p++[s])).Ab) can).1,.b (Oq w (kf a p) (fun s=>(kf a (p++[s])).Ab) can).2])/\Pq kf L es post:=by
 intro Z hs;have hM:=Mx;generalize hus:BR w.parents=us at *;refine wH kZ ?_;refine zz ?_;(repeat clear U K);repeat intro K U
 refine(MD w us h (a:=a) (p:=p) hp).use (rest:=[]) (by simpa using hs) ?_;clear hs;rintro r post Z ⟨es4,e4,got,rfl,rfl⟩ hs;have hek:=got.k;obtain⟨pre,post,rfl⟩:=List.append_of_mem got.mem;rw[EU]at hs;have hsc:=hs;replace hs:=H4 (X:=[]) hs;have hok:=hr.ok a p;have hsl:=(hr.ok a p).2.2.2;have hsh:=hr.short a p;have hsw:=hr.AL a p;rw[<-hek]at hok hsl hsh hsw hcan;have hO:Oq w (kf a p) (fun s=>(kf a (p++[s])).Ab) can=Oq w e4.k (fun s=>(kf a (p++[s])).Ab) can:=by rw[hek]
 have hOn:(e4.k.whole=true\/e4.k.BJ.testBit 1=true\/e4.k.BJ.testBit 2=true\/e4.k.Dv.testBit 0=true)->Oq w (kf a p) (fun s=>(kf a (p++[s])).Ab) can=(0,false):=fun h=>by
  rw[hO,Oq,if_pos];rcases h with h|h|h|h<;>rw[h]<;>simp
 have hOy:e4.k.whole=false->e4.k.BJ.testBit 1=false->e4.k.BJ.testBit 2=false->e4.k.Dv.testBit 0=false->Oq w (kf a p) (fun s=>(kf a (p++[s])).Ab) can=match JJ w (fun s=>(kf a (p++[s])).Ab) can e4.k.AL (e4.k.BJ,e4.k.Dv)with
  | none=>(0,false)
  | some u=>(Hz (Bj (BR w.parents) w.parents.length u.1),Hz (Bj (BR w.parents) w.parents.length u.1)&&&u.2==0):=fun h1 h2 h3 h4=>by
  rw[hO,Oq,h1,h2,h3,h4];rfl
 clear hO;cases hb0:e4.k.whole<;>rw[hb0]at hs
 rotate_left
 .refine zz ?_;(repeat clear U K);repeat intro K U
  exact AH ⟨_,⟨by rw[hOn (.inl hb0)];rfl,_,got.ext,got.inv,rfl⟩,hsc⟩
 .conv => whnf
  repeat'((first|clear U K|apply st|(apply zk;intro K U)|refine zY ?_|refine Pure.use (T7 e4.k.BJ 1 hok.1 (by decide)) ?_|refine Pure.use (T7 e4.k.BJ 2 hok.1 (by decide)) ?_|refine Pure.use (T7 e4.k.Dv 0 hok.2.1 (by decide)) ?_|refine za (fun hc=>?_) fun hc=>?_|fail)<;>conv=>whnf)
  all_goals first
   | exact AH ⟨_,⟨by rw[hOn (by first|exact .inl (by assumption)|exact .inr (.inl (by assumption))|exact .inr (.inr (.inl (by assumption)))|exact .inr (.inr (.inr (by assumption))))];rfl,_,got.ext,got.inv,rfl⟩,hsc⟩
   | skip
  replace hOy:=hOy hb0 (by assumption) (by assumption) (by assumption);clear hOn;generalize hnf:(fun s=>(kf a (p++[s])).Ab)=Ab at *
  have hs1:Sat Z (.own e4.vs 1 (iL e4.k.AL)::Hx L pre post e4 []):=by
   have h2:=Tz (X:=[]) (L:=L) (pre:=pre) (post:=post) (e:=e4) (s:=[]) (by simpa using hsc);simpa using h2
  refine Ba e4.k.AL.length (fun k (x:(Nat×Nat)×List Bx)=>[(47,eI (Au k)),(7,eU x.1.1),(8,eU x.1.2)]) (fun k x=> .own e4.vs 1 (iL e4.k.AL)::Hx L pre post e4 x.2) (fun k x=>(x.1.1<18446744073709551616/\x.1.2<18446744073709551616)/\(Bp kf (pre++e4::(post++x.2))/\ ∀y∈x.2,y.k=k0)/\JJ w Ab can e4.k.AL (e4.k.BJ,e4.k.Dv)=JJ w Ab can (e4.k.AL.drop k) x.1) ((e4.k.BJ,e4.k.Dv),[]) rfl ⟨⟨hok.1,hok.2.1⟩,⟨by simpa using got.inv,by simp⟩,rfl⟩ hs1 ?_;clear hs hs1 hsc;rintro k ⟨⟨m,no⟩,new⟩ Z hk ⟨⟨hm,hno⟩,⟨hinv,hnew⟩,hF⟩ hs;simp only at hm hno hinv hnew hF hs;have hck:Au k=k:=AW (by have:=hok.2.2.2;omega);rcases Aw e4.k.AL hk with⟨s,hsk,hlt⟩|hke
  .have hsm:=BY hsk
   have hp2:p.length<2:=by
    rcases Nat.lt_or_ge p.length 2 with h'|h'
    .exact h'
    .rw[hsh h']at hsm;cases hsm
   obtain⟨hs0,hs1⟩:=hsw s hsm;rw[drop_cons hsk,JJ]at hF
   conv=>whnf
   repeat'((first|clear U K|apply st|(apply zk;intro K U)|refine zY ?_|refine ze fun x hx=>?_|refine zs fun Z hs=>?_|refine Pure.use (PF a p _ hp2) ?_|refine zo fun nn hnn Z hs=>?_|fail)<;>conv=>whnf)
   obtain rfl:x=s:=by rw[hck,FZ,hsk]at hx;exact(Option.some.inj hx).symm
   generalize nn=n7 at *;have hs2:Sat Z ([.box n7 (F7 a (p++[x]))]++CD L (pre++e4::(post++new))):=oQ (X:=[.box n7 (F7 a (p++[x]))]) (hs.perm (.swap _ _ _));clear hs;obtain⟨o,ho⟩: ∃o,w.owner[x.toNat]? =some o:=⟨_,CQ (by omega)⟩
   have hoI:Bb w x=o:=by simp only[Bb,Co,ho];rfl
   obtain⟨ho1,ho2⟩:=hw.2.2 o (BY ho);have hwp:=hw.1.1;have hcx:=hcan x hsm L;cases hnx:Ab x<;>cases hcy:can x
   all_goals
    rw[hcy]at hcx;rw[ZP,hnx,hcy,hoI]at hF;refine(MD w us hinv (a:=a) (p:=p++[x]) (by simp;omega)).use (rest:=[.box n7 (F7 a (p++[x]))]) (hs2.perm NF) ?_;clear hs2;rintro r post' Z ⟨es5,e5,got5,rfl,rfl⟩ hs;have hek5:e5.k.Ab=Ab x:=by rw[got5.k,<-hnf]
    rw[hnx]at hek5;obtain⟨newA,heA,hnA⟩:=got5.ext;obtain⟨pre5,post5,he5⟩:=List.append_of_mem got5.mem;rw[he5]at hs;replace hs:=H4 (X:=[.box n7 (F7 a (p++[x]))]) (hs.perm NF);rw[hek5]at hs
    conv=>whnf
    repeat'((first|apply st|refine zY ?_|refine rk ?_ ?_|exact fun s e=>by cases e;rfl|fail)<;>conv=>whnf)
    have hs2:Sat Z ([.box n7 (F7 a (p++[x]))]++CD L (pre5++e5::post5)):=Em (X:=[.box n7 (F7 a (p++[x]))]) (e:=e5) (e':=e5) rfl rfl rfl (by rw[<-hek5]at hs;exact hs);clear hs;refine(hcx es5 got5.inv).use (rest:=[.box n7 (F7 a (p++[x]))]) (by rw[he5];exact hs2.perm NF) ?_;clear hs2;rintro r post' Z ⟨rfl,es6,⟨new6,he6,hn6⟩,hi6,rfl⟩ hs;have he7:es6=pre5++e5::(post5++new6):=by rw[he6,he5];simp
    rw[he7]at hs;replace hs:=H4 (X:=[.box n7 (F7 a (p++[x]))]) (hs.perm NF);rw[hek5]at hs
    conv=>whnf
    repeat'((first|clear U K|apply st|(apply zk;intro K U)|refine zY ?_|refine rk ?_ ?_|exact fun s e=>by cases e;rfl|refine Pure.use (IA m o hm (by omega) (by omega)) ?_|refine Pure.use (IA no o hno (by omega) (by omega)) ?_|fail)<;>conv=>whnf)
    simp only[Bool.not_false,Bool.not_true,Bool.and_true,Bool.and_false,Jc,if_false,if_true,Option.bind_some,Option.bind_none]at hF;have e7:es6=pre++e4::(post++(new++newA++new6)):=by rw[he6,heA];simp
    have hs2:Sat Z ([.box n7 (F7 a (p++[x]))]++CD L (pre5++e5::(post5++new6))):=Em (X:=[.box n7 (F7 a (p++[x]))]) (e:=e5) (e':=e5) rfl rfl rfl (by rw[<-hek5]at hs;exact hs)
    have hs3:Sat Z (CD L (pre++e4::(post++(new++newA++new6)))):=by
     rw[<-he7,e7]at hs2;exact hs2.less (List.sublist_append_right _ _)
    have hi7:Bp kf (pre++e4::(post++(new++newA++new6))):=by rw[<-e7];exact hi6
    have hn7: ∀y∈new++newA++new6,y.k=k0:=fun y hy=>by
     rcases Du.1 hy with hy|hy
     .rcases Du.1 hy with hy|hy
      .exact hnew y hy
      .exact hnA y hy
     .exact hn6 y hy
    have hob:2 ^ o.toNat<18446744073709551616:=Ge (by omega)
   .exact⟨hlt,((m,no|||2 ^ o.toNat),new++newA++new6),rfl,⟨⟨hm,H3 hno hob⟩,⟨hi7,hn7⟩,hF⟩,Tz (X:=[]) hs3⟩
   .exact⟨hlt,((m,no),new++newA++new6),rfl,⟨⟨hm,hno⟩,⟨hi7,hn7⟩,hF⟩,Tz (X:=[]) hs3⟩
   .rw[hF]at hOy
    exact AH ⟨_,⟨by rw[hOy];rfl,_,got.ext.trans ⟨_,by simp,hn7⟩,hi7,rfl⟩,hs3⟩
   .exact⟨hlt,((m|||2 ^ o.toNat,no),new++newA++new6),rfl,⟨⟨H3 hm hob,hno⟩,⟨hi7,hn7⟩,hF⟩,Tz (X:=[]) hs3⟩
  .rw [Ad hke,JJ]at hF
   rw[hF]at hOy;simp only at hOy;refine zz ?_;(repeat clear U K);repeat intro K U
   have hu:qN us:=by rw[<-hus];exact Gi _ _ (by have:=hw.1.1;omega)
   have hul:us.length=3+w.parents.length:=by rw[<-hus];exact Dc _ _
   have hwp:=hw.1.1;have hwl:IntKind.i64.wrap (3+((EF w.parents).length:Nat))=3+(w.parents.length:Int):=by rw[Bh,wrap64 (by omega) (by omega)]
   refine Ba w.parents.length (fun k (x:Nat)=>[(14,eI (L0 3 k)),(7,eU x)]) (fun _ _=> .own e4.vs 1 (iL e4.k.AL)::Hx L pre post e4 new) (fun k x=>x<18446744073709551616/\x=Bj us k m) m rfl ⟨hm,rfl⟩ hs ?_;clear hs;clear hke hck hk k;rintro k x Z hk ⟨hx64,hxe⟩ hs;have hc3:L0 3 k=3+k:=PO (by omega) (by omega);by_cases hlt:k<w.parents.length
   .have hbt:Bj us (k+1) m=if x.testBit (L0 3 k).toNat then x|||us.getD (3+k) 0 else x:=by
     rw[Bj,<-hxe,hc3,show(3+(k:Int)).toNat=3+k by omega]
    have hup:(List.drop ((L0 3 k).toNat*1) (List.drop 2 (wC w us)))[0]? =some (eU (us.getD (3+k) 0)):=by
     rw[xM,xM,<-o7 w us (i:=3+k) (by omega)];congr 1;omega
    conv=>whnf
    repeat'((first|clear U K|apply st|(apply zk;intro K U)|refine zY ?_|(rw[hup])|refine Pure.use (nc x (L0 3 k) hx64 (by omega) (by omega)) ?_|(refine zb (fun hc=>?_) (fun hc=>?_)<;>try exact⟨⟩)|fail)<;>conv=>whnf)
    .refine⟨hlt,x|||us.getD (3+k) 0,?_,⟨H3 hx64 (T0 hu _),by rw[hbt,if_pos (by assumption)]⟩,hs⟩
     rw[HP hx64 (T0 hu _)];rfl
    .exact⟨hlt,x,rfl,⟨hx64,by rw[hbt,if_neg (by rw[‹x.testBit _=false›];decide)]⟩,hs⟩
   .have hke:k=w.parents.length:=by omega
    rw[hus,<-hke,<-hxe]at hOy
    have hA:bits .andNot .u64 (x:Int) 1=((Hz x:Nat):Int):=by
     have:=IY (a:=x) (b:=1);rw[ke hx64]at this;exact this
    have hcl:Hz x<18446744073709551616:=by unfold Hz;omega
    have hB:bits .and .u64 ((Hz x:Nat):Int) (no:Int)=((Hz x&&&no:Nat):Int):=F4 hcl hno
    conv=>whnf
    repeat'((first|clear U K|apply st|(apply zk;intro K U)|refine zY ?_|(refine zb (fun hc=>?_) (fun hc=>?_)<;>try exact⟨⟩)|fail)<;>conv=>whnf)
    rw[hA,hB];refine AH ⟨_,⟨?_,_,got.ext.trans ⟨new,by simp,hnew⟩,hinv,rfl⟩,qi hs⟩;rw[hOy]
    have hz:(((Hz x&&&no:Nat):Int)==0)=(Hz x&&&no==0):=by
     rw[KF,Cd,Cd];omega
    rw[<-hz]
def wu (w:AE) (hw:CS w) {kf:Int->List Int->Kn} (hr:EM w kf) (a:Int): ∀(d:Nat) (p:List Int),p.length+d=2-> ∀(L:Nat) (es:List Bx),Bp kf es->
    BL zP 189 [VB w (BR w.parents) L,CC a p] (CD L es) fun r post=>r= .ret (.b (Ov w kf a d p))/\Pq kf L es post:=by
 intro d
 induction d with
 | zero=>
   intro p hp L es h Z hs;have hint:=RI w (BR w.parents) hr h (L:=L) (a:=a) (p:=p) (by omega);have hnone:=fun es h=>aD w (BR w.parents) hr (es:=es) h (L:=L) (a:=a) (p:=p) (by omega)
   have hobj:=fun es h=>Su w hw hr (a:=a) (p:=p) (by omega) (fun _=>false) (by rw[hr.short a p (by omega)];intro s hs;cases hs) (L:=L) (es:=es) h
   rw[Ov];cases hI:GA kf a p<;>cases hN:DV kf a p<;>rw[hI]at hint<;>rw[hN]at hnone
   all_goals
    refine gg kZ ?_;refine zz ?_;(repeat clear U K);repeat intro K U
    refine hint.use (rest:=[]) (by simpa using hs) ?_;clear hs;rintro r post Z ⟨rfl,es2,hx2,hi2,rfl⟩ hs;rw[EU]at hs;refine zz ?_;(repeat clear U K);repeat intro K U
   rotate_left 2
   .exact AH ⟨_,⟨rfl,es2,hx2,hi2,rfl⟩,hs⟩
   .exact AH ⟨_,⟨rfl,es2,hx2,hi2,rfl⟩,hs⟩
   all_goals
    refine(hnone es2 hi2).use (rest:=[]) (by simpa using hs) ?_;clear hs;rintro r post Z ⟨rfl,es3,hx3,hi3,rfl⟩ hs;rw[EU]at hs;refine zz ?_;(repeat clear U K);repeat intro K U
   rotate_left 1
   .exact AH ⟨_,⟨rfl,es3,hx2.trans hx3,hi3,rfl⟩,hs⟩
   .refine(hobj es3 hi3).use (rest:=[]) (by simpa using hs) ?_
    clear hs;rintro r post Z ⟨rfl,es4,hx4,hi4,rfl⟩ hs;rw[EU]at hs;refine zz ?_;(repeat clear U K);repeat intro K U
    exact AH ⟨_,⟨rfl,es4,(hx2.trans hx3).trans hx4,hi4,rfl⟩,hs⟩
 | succ d ih=>
   intro p hp L es h Z hs;have hint:=RI w (BR w.parents) hr h (L:=L) (a:=a) (p:=p) (by omega);have hnone:=fun es h=>aD w (BR w.parents) hr (es:=es) h (L:=L) (a:=a) (p:=p) (by omega)
   have hobj:=fun es h=>Su w hw hr (a:=a) (p:=p) (by omega) (fun s=>Ov w kf a d (p++[s])) (fun s hs L es h=>ih (p++[s]) (by simp;omega) L es h) (L:=L) (es:=es) h
   rw[Ov];cases hI:GA kf a p<;>cases hN:DV kf a p<;>rw[hI]at hint<;>rw[hN]at hnone
   all_goals
    refine gg kZ ?_;refine zz ?_;(repeat clear U K);repeat intro K U
    refine hint.use (rest:=[]) (by simpa using hs) ?_;clear hs;rintro r post Z ⟨rfl,es2,hx2,hi2,rfl⟩ hs;rw[EU]at hs;refine zz ?_;(repeat clear U K);repeat intro K U
   rotate_left 2
   .exact AH ⟨_,⟨rfl,es2,hx2,hi2,rfl⟩,hs⟩
   .exact AH ⟨_,⟨rfl,es2,hx2,hi2,rfl⟩,hs⟩
   all_goals
    refine(hnone es2 hi2).use (rest:=[]) (by simpa using hs) ?_;clear hs;rintro r post Z ⟨rfl,es3,hx3,hi3,rfl⟩ hs;rw[EU]at hs;refine zz ?_;(repeat clear U K);repeat intro K U
   rotate_left 1
   .exact AH ⟨_,⟨rfl,es3,hx2.trans hx3,hi3,rfl⟩,hs⟩
   .refine(hobj es3 hi3).use (rest:=[]) (by simpa using hs) ?_
    clear hs;rintro r post Z ⟨rfl,es4,hx4,hi4,rfl⟩ hs;rw[EU]at hs;refine zz ?_;(repeat clear U K);repeat intro K U
    exact AH ⟨_,⟨rfl,es4,(hx2.trans hx3).trans hx4,hi4,rfl⟩,hs⟩
abbrev pz:V:= .Lx 206 (.a [])
def ig (w:AE) (hw:CS w) {kf:Int->List Int->Kn} (hr:EM w kf) {L:Nat} {es:List Bx} (h:Bp kf es) :
    BL zP 127 [VB w (BR w.parents) L] (CD L es) fun r post=>r=(if eH w kf then .ret (.t [])else .Cu pz)/\post= []:=by
 intro Z hs;refine wL kZ ?_;refine zz ?_;(repeat clear U K);repeat intro K U
 refine Ba 3 (fun k (x:List Bx)=>[(3,eI (Au k))]) (fun k x=>CD L x) (fun k x=>Bp kf x/\eH w kf=((BE 3).drop k).all fun a=>Ov w kf a 2 []) es rfl ⟨h,rfl⟩ hs ?_;clear hs h;rintro k es Z hk ⟨h,hn⟩ hs;have hck:Au k=k:=AW (by simp only[AZ];omega);have hl3:(BE 3).length=3:=rfl;rcases Aw (BE 3) hk with⟨a,ha,hlt⟩|hke
 .rw[drop_cons ha,Jd]at hn
  have hak:a=Au k:=by
   rw[hck];simp only[BE,JV,List.getElem?_range (show k<3 from hlt),Xg]at ha;exact(Option.some.inj ha).symm
  subst hak;have hcan:=wu w hw hr (Au k) 2 [] rfl L es h;cases hC:Ov w kf (Au k) 2 []<;>rw[hC]at hcan hn
  all_goals
   conv=>whnf
   repeat'((first|clear U K|apply st|(apply zk;intro K U)|refine zY ?_|(refine zb (fun hc=>?_) (fun hc=>?_)<;>try exact⟨⟩)|fail)<;>conv=>whnf)
   refine hcan.use (rest:=[]) (by simpa using hs) ?_;clear hs;rintro r post Z ⟨rfl,es2,hx2,hi2,rfl⟩ hs;rw[EU]at hs;refine zz ?_;(repeat clear U K);repeat intro K U
  .exact DQ ⟨_,⟨by rw[hn];rfl,rfl⟩,hs.less (Ie _)⟩
  .exact⟨by omega,es2,rfl,⟨hi2,by simpa using hn⟩,hs⟩
 .rw[Ad hke]at hn
  conv=>whnf
  repeat'((first|clear U K|apply st|(apply zk;intro K U)|refine zY ?_|(refine zb (fun hc=>?_) (fun hc=>?_)<;>try exact⟨⟩)|fail)<;>conv=>whnf)
  exact AH ⟨_,⟨by rw[hn];rfl,rfl⟩,hs.less (Ie _)⟩
def MV {w:AE} {ls:List Fact} (hw:w.parents.length<=60) (h: ∀x∈ls,C1 w x):Nj ls:=by
 intro l hl;obtain⟨-,hc,hsm,hsh⟩:=IF h;obtain⟨-,hn,hlf⟩:=IG (h l hl);exact⟨Fs hlf,hsh l hl,fun ho=>by have:=hc l hl ho;omega,hsm l hl⟩
def sY {ls:List Fact} (h:HZ ls) (a:Int) (p:List Int): -1000000000<=(kn ls a p).low/\(kn ls a p).low<=1000000000:=by
 have key: ∀(ls:List Fact) (k:Kn),HZ ls->(-1000000000<=k.low/\k.low<=1000000000)-> -1000000000<=(ls.foldl (Cw a p) k).low/\(ls.foldl (Cw a p) k).low<=1000000000:=by
  intro ls
  induction ls with
  | nil=>intro k _ h;exact h
  | cons l r ih=>
    intro k hs hk;refine ih _ (fun x hx=>hs x (.tail _ hx)) ?_;have hn:=hs l (.head _);unfold Cw Bs Bt eC
    repeat' split
    all_goals first
     | exact hk
     | exact hn
     | (simp only;exact hk)
     | (simp only;exact hn)
 exact key ls k0 h ⟨by decide,by decide⟩
def Z0 {w:AE} {ls:List Fact} (h: ∀x∈ls,C1 w x):Hc w.owner.length ls:=by
 intro l hl s hs;obtain⟨-,hn,-⟩:=IG (h l hl);rw[Be,A7]at hn;have:=hn.1;simp only[Cf,Ex,A7,DT,JE,CF]at this;exact this.2.2.2.2.1.1 s hs
def Zu {w:AE} (hw:CS w) {ls:List Fact} (h: ∀x∈ls,C1 w x) (hlen:ls.length<900):EM w (kn ls):=by
 have hadd:=MV (by have:=hw.1.1;omega) h;obtain⟨-,-,hsm,hsh⟩:=IF h;have hp:=Z0 h;refine⟨fun a p=>?_,sY hsm,fun a p hpl=>?_,fun a p s hs=>?_⟩
 .obtain⟨h1,h2,h3,h4⟩:=gC hadd a p
  exact⟨h1,h2,by omega,by omega⟩
 .rw[J3 hp]
  exact IM hsh hpl
 .rw[J3 hp]at hs
  exact Fi hs
def rH {w:AE} (hw:CS w) {ls:List Fact} (h: ∀x∈ls,C1 w x):eH w (kn ls)=FC w ls:=by
 obtain⟨-,hc,-,-⟩:=IF h;refine rI ?_ (fun s h0 h1=>?_) (by have:=hw.1.1;omega) (fun l hl ho=>by have:=hc l hl ho;omega) (Z0 h)
 .exact Kl hw.1
 .obtain⟨o,ho⟩: ∃o,w.owner[s.toNat]? =some o:=⟨_,CQ (by omega)⟩
  have hoI:Bb w s=o:=by simp only[Bb,Co,ho];rfl
  rw[hoI];exact hw.2.2 o (BY ho)
def oG {Z:AD} {n:Nat} {x:V} {rest:List At} (hs:Sat Z (.box n [x]::rest)) {Q:AD->Prop} (hq: ∀Z',Sat Z' (.box n [.b false]::rest)->Q Z'):Oz zP 126 [.p n 0] (some pz) Z Q:=by
 refine az kZ ?_
 conv=>whnf
 repeat'((first|clear U K|apply st|(apply zk;intro K U)|refine zs fun Z hs=>?_|refine qZ rfl ?_|refine zo fun nn hnn Z hs=>?_|fail)<;>conv=>whnf)
 exact hq _ (hs.less (HU _ _))
def oH {Z:AD} {n:Nat} {x:V} {rest:List At} (hs:Sat Z (.box n [x]::rest)) {Q:AD->Prop} (hq: ∀Z',Sat Z' (.box n [x]::rest)->Q Z'):Oz zP 126 [.p n 0] none Z Q:=by
 refine az kZ ?_
 conv=>whnf
 repeat'((first|clear U K|apply st|(apply zk;intro K U)|refine zY ?_|refine zs fun Z hs=>?_|refine zo fun nn hnn Z hs=>?_|fail)<;>conv=>whnf)
 exact hq _ (hs.less (HU _ _))
attribute [local irreducible] Oz
def W9 (w:AE) (hw:CS w) (ls:List Fact) (b:Bool) (hl: ∀x∈ls,C1 w x) (hlen:ls.length<900):Pure zP 80 [.rp (wC w (BR w.parents)),.l (Dx ls) b] (.b (FC w ls)):=by
 refine Pure.of ?_;refine y0 kZ ?_;have hs:=Sn
 conv=>whnf
 repeat'((first|clear U K|apply st|(apply zk;intro K U)|refine zo fun nn hnn Z hs=>?_|fail)<;>conv=>whnf)
 refine(iw w (BR w.parents) ls b (MV (by have:=hw.1.1;omega) hl) hlen).use (rest:=[.box nn [.b false]]) (by simpa using hs) ?_;clear hs;rintro r post Z ⟨L,es,rfl,hinv,rfl⟩ hs;have hwh:=ig w hw (Zu hw hl hlen) hinv (L:=L);rw[rH hw hl]at hwh;cases ht:FC w ls<;>rw[ht]at hwh
 all_goals
  conv=>whnf
  refine hwh.use (rest:=[.box nn [.b false]]) hs ?_;clear hs;rintro r post Z ⟨rfl,rfl⟩ hs
  conv=>whnf
  repeat'((first|clear U K|apply st|(apply zk;intro K U)|refine zs fun Z hs=>?_|fail)<;>conv=>whnf)
 .refine oG (rest:=[]) hs fun Z hs=>?_
  refine zz ?_;(repeat clear U K);repeat intro K U
  exact AH (by rw[ht];rfl)
 .refine oH (rest:=[]) (x:= .b true) hs fun Z hs=>?_
  refine zz ?_;(repeat clear U K);repeat intro K U
  exact AH (by rw[ht];rfl)
end Go.Gl
namespace Go.Gl
open Go.Proofs
attribute [local irreducible] As Af AV AQ AI AU AP AR AJ AT AM AN Ag Ar Sat AS Ap AX W
def sr {w:AE} (f:Fact) (hn:An w f=true) (hv:lv f<=100) (c:Bool) {S:Type} {fn:Fn} {fi ca:List V} {H:S->List At} {stp:List Fact->S->Bool×S} {D:List Fact->S->Prop} {s:S} (hT: ∀nW,SU (.f fn fi ca) (fun s=> .box nW [VS nW]::H s) stp D) (hd:Om stp D (BC f c) s) (Z:AD) (hs:Sat Z (H s)) :
    As zP 120 [.f fn fi ca,.rp (xF f),.rp [.b c]] Z fun r Z'=>r= .ret (.t [])/\Sat Z' (H (By stp (BC f c) s).2):=by
 refine wR kZ ?_
 conv=>whnf
 repeat'((first|clear U K|apply st|(apply zk;intro K U)|refine zY ?_|refine zs fun Z hs=>?_|refine zo fun nn hnn Z hs=>?_|fail)<;>conv=>whnf)
 refine(mA f hn hv c S fn fi ca H stp D nn s (hT nn) hd Z hs).mono ?_;clear hs;rintro r Z ⟨rfl,hs⟩
 conv=>whnf
 repeat'((first|clear U K|apply st|fail)<;>conv=>whnf)
 exact AH ⟨rfl,hs.less (HU _ _)⟩
def kO (f:Fact) (c:Bool):Pure zP 79 [.a (xF f),.b c] (.f (.func 120) [] [.rp (xF f),.rp [.b c]]):=by
 refine y1 kZ ?_;have hs:=Sn;exact zW
abbrev PZ (w:AE) (l:List Fact) (s:Bool):Bool×Bool:=if FC w l then(false,true)else(true,s)
def Ws {w:AE}: ∀(cs:List (List Fact)),By (PZ w) cs false=(!cs.any (FC w),cs.any (FC w))
 | []=>rfl
 | l::r=>by
   rw[By,Oj];simp only[PZ];cases h:FC w l
   .simpa using Ws r
   .rfl
def Z5 {w:AE} {G:List Fact->Prop}: ∀ {cs:List (List Fact)},(∀l∈cs,G l)->Om (PZ w) (fun l s=>s=false/\G l) cs false
 | [],_=>trivial
 | l ::r,h=>⟨⟨rfl,h l (.head _)⟩,fun hy=>by
     cases ht:FC w l
     .have e:(PZ w l false).2=false:=by simp[PZ,ht]
      rw[e];exact Z5 fun x hx=>h x (.tail _ hx)
     .simp[PZ,ht]at hy⟩
abbrev xJ (w:AE) (L:Nat) (E:Env) (ok:FuncId->Array Tmp->Code->Code->Nat->Prop) (nF:Nat):Prop:=
 Nk zP L E ok (fun(x:List Fact×Bool)=>[LN x.1 x.2]) (fun s:Bool=>[.box nF [.b s]]) (fun _=>True) (fun x s=>if FC w x.1 then .stop (.exit 0) true else .go s) (fun x s=>s=false/\(∀y∈x.1,C1 w y)/\x.1.length<900)
def nk {w:AE} (f:Fact) (hn:An w f=true) (hv:lv f<=100) {L:Nat} {E:Env} {ok:FuncId->Array Tmp->Code->Code->Nat->Prop} {nF:Nat} (hY:xJ w L E ok nF) (Z:AD) (hs:Sat Z [.obj L (.loop .ready E ok),.box nF [.b false]]) :
    As zP 120 [.f (.yield L) [] [],.rp (xF f),.rp [.b false]] Z fun r Z'=>r= .ret (.t [])/\Sat Z' [.obj L (.loop (if Ry w f then .exit 0 else .ready) E ok),.box nF [.b (Ry w f)]]:=by
 have hg:=sr f hn hv false (fn:= .yield L) (fi:=[]) (ca:=[]) (H:=fun s:Bool=>[.obj L (.loop (if s then .exit 0 else .ready) E ok),.box nF [.b s]]) (stp:=PZ w) (D:=fun l s=>s=false/\(∀y∈l,C1 w y)/\l.length<900) (s:=false) (by
  rintro nW b l s ⟨rfl,hl,hlen⟩ Z hs;refine hY.use (y:=(l,b)) (s:=false) ⟨rfl,hl,hlen⟩ (rest:=[.box nW [VS nW]]) (hs.perm (Jn _ _ _ _)) ?_;intro r Z' hq;cases ht:FC w l
  .simp only[ht,Jc,if_false]at hq
   obtain⟨rfl,hs'⟩:=hq;have e:PZ w l false=(true,false):=by simp[PZ,ht]
   rw[e];exact⟨rfl,hs'.perm (Jn _ _ _ _).symm⟩
  .simp only[ht,if_true]at hq
   obtain⟨rfl,hs'⟩:=hq;have e:PZ w l false=(false,true):=by simp[PZ,ht]
   rw[e]
   exact⟨rfl,hs'.perm (Jn _ _ _ _).symm⟩) (Z5 fun l hl=>⟨C0 f hn false l hl,by have:=(D9 f (Am _ hn) false).2 l hl;omega⟩) Z hs
 rw[Ws]at hg;exact hg
def wz (w:AE) (hw:CS w) (f:Fact) (hn:An w f=true) (hv:lv f<=100):Pure zP 78 [.rp (wC w (BR w.parents)),.a (xF f)] (.b (Ry w f)):=by
 refine Pure.of ?_;refine y2 kZ ?_;have hs:=Sn
 conv=>whnf
 repeat'((first|clear U K|apply st|(apply zk;intro K U)|refine zY ?_|refine zs fun Z hs=>?_|refine Pure.use (kO _ _) ?_|refine zo fun nn hnn Z hs=>?_|fail)<;>conv=>whnf)
 rename_i _ nF hnF _ _ _ _;refine As.mono (nk (w:=w) f hn hv (L:=nn) (nF:=nF) ?_ Z hs) ?_
 .refine OV (fun y=>rfl) ?_
  clear hs hnn hnF;rintro⟨l,b⟩ s ⟨rfl,hl,hlen⟩ rest Z hs;dsimp only at hl hlen;have htg:=W9 w hw l b hl hlen;dsimp only;cases ht:FC w l<;>rw[ht]at htg
  .conv=>whnf
   repeat'((first|clear U K|apply st|(apply zk;intro K U)|refine htg.use ?_|fail)<;>conv=>whnf)
   intro hn;exact V8 (H:=fun s:Bool=>[.box nF [.b s]]) (J:=fun _=>True) (s:=false) rfl hs hn
  .conv=>whnf
   repeat'((first|clear U K|apply st|(apply zk;intro K U)|refine zs fun Z hs=>?_|refine htg.use ?_|fail)<;>conv=>whnf)
   intro hn;exact YZ (H:=fun s:Bool=>[.box nF [.b s]]) (J:=fun _=>True) (s:=true) (st:= .exit 0) rfl hs hn
 .clear hs hnn hnF
  cases hp:Ry w f
  .rintro r Z ⟨rfl,hs⟩
   refine Gn hs fun Z hs=>?_
   refine zz ?_;(repeat clear U K);repeat intro K U
   exact AH (by rw[hp])
  .rintro r Z ⟨rfl,hs⟩
   refine Q1 hs fun Z hs=>?_
   refine zz ?_;(repeat clear U K);repeat intro K U
   exact AH (by rw[hp])
def ru (f:Fact):Pure zP 205 [.a (xF f)] (.a (xF (Ca f))):=by
 refine gd kZ ?_;have hs:=Sn
 conv=>whnf
 repeat'((first|clear U K|apply st|(apply zk;intro K U)|refine zX ?_|refine zr fun Z hs=>?_|refine zp fun nn hnn Z hs=>?_|fail)<;>conv=>whnf)
 refine AY (.a (.cons (.refl _) (.cons (.refl _) (.cons BS (.cons (.refl _) (.cons (.refl _) (.cons ?_ .nil)))))));refine .l (fun h=>by cases h) ?_;simp only[Ca,Fact.kids,List.map,A9];exact CU _
def xB (f g:Fact):Pure zP 255 [.a (xF f),.a (xF g)] (.a (xF (Jb f g))):=by
 refine uH kZ ?_;have hs:=Sn
 conv=>whnf
 repeat'((first|clear U K|apply st|(apply zk;intro K U)|refine zX ?_|refine zr fun Z hs=>?_|refine zp fun nn hnn Z hs=>?_|fail)<;>conv=>whnf)
 refine AY (.a (.cons (.refl _) (.cons (.refl _) (.cons BS (.cons (.refl _) (.cons (.refl _) (.cons ?_ .nil)))))));refine .l (fun h=>by cases h) ?_;simp only[Jb,Fact.kids,List.map,A9];exact CU _
def Lj (w:AE) (hw:CS w) (a b:Fact) (ha:An w a=true) (hb:An w b=true) (hl:lv a+lv b<=100):Pure zP 209 [.rp (wC w (BR w.parents)),.a (xF a),.a (xF b)] (.b (NQ w a b)):=by
 have hcan:=wz w hw (Jb a (Ca b)) (QL ha hb) (by rw[fy];exact hl);refine uy kZ ?_;have hs:=Sn
 conv=>whnf
 repeat'((first|clear U K|apply st|(apply zk;intro K U)|refine zY ?_|refine rk ?_ ?_|exact fun s e=>by cases e;rfl|refine Pure.use (ru _) ?_|refine Pure.use (xB _ _) ?_|refine hcan.use ?_|fail)<;>conv=>whnf)
 all_goals exact AF rfl
def di (w:AE) (hw:CS w) (a b:Fact) (ha:Bv w a=true) (hb:Bv w b=true) (hna:An w a=true) (hnb:An w b=true) (hl:lv a+lv b<=100):Pure zP 315 [.a (Ax w),.a (xF a),.a (xF b)] (.t [.b (NQ w a b),eI 0]):=by
 have hrd: ∀f,Pure zP 77 [.a (Ax w),.l [xF a,xF b] f] (.t [.rp (wC w (BR w.parents)),.b true]):=fun f=>by
  have:=UP w hw [a,b] f (by simp);rw[show([a,b].all (K7 w))=true by simp[Um,ha,hb]]at this;simpa[A9]using this
 have hip:=Lj w hw a b hna hnb hl;refine tP kZ ?_;have hs:=Sn
 conv=>whnf
 repeat'((first|clear U K|apply st|(apply zk;intro K U)|refine zY ?_|refine Pure.use (hrd _) ?_|refine hip.use ?_|fail)<;>conv=>whnf)
 all_goals exact AF rfl
end Go.Gl
