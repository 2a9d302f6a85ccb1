import Derived.Test.YtegbmnmnaijioaaGreatRows
import Derived.HandedShaped
import Derived.Test.YtegbmnmnaijioaaGreatL6
import Derived.Test.YtegbmnmnaijioaaGreatL10
set_option linter.all false
set_option linter.defProp false
noncomputable section
namespace Go.Gl
open Go.Proofs
attribute [local irreducible] As Am Ac AQ AM Ab AP AR AL Aa AN AO Ao Ax Sat AW Au Ad W
structure Dp (w:AJ) (kf:Int->List Int->Kn):Prop where
 ok: ∀a p,Zq 1000 (kf a p)
 low: ∀a p,-1000000000<=(kf a p).low/\(kf a p).low<=1000000000
 short: ∀a p,2<=p.length->(kf a p).AI= []
 AI: ∀a p,∀s∈(kf a p).AI,0<=s/\s<w.owner.length
abbrev Hx (L:Nat) (pre post:List Bx) (e:Bx) (s:List Bx):List At:=
 .box e.b [eI e.k.low,eI e.k.high,e.vn,eU e.k.BJ,eU e.k.DU,.b e.k.whole,.b e.k.Af,e.vs]:: .own e.vn 1 (iL e.k.no)::G7 L (pre++e::(post++s)) pre (post++s)
def uk {σ:AH} {L:Nat} {pre post:List Bx} {e:Bx} {s:List Bx} (h:Sat σ (B8 L (pre++e::(post++s)))):Sat σ (.own e.vs 1 (iL e.k.AI)::Hx L pre post e s):=
 (HA (X:=[]) h).perm ((IX _ _ _ _).symm)
def o6 {σ:AH} {L:Nat} {pre post:List Bx} {e:Bx} {s:List Bx} (h:Sat σ (.own e.vs 1 (iL e.k.AI)::Hx L pre post e s)):Sat σ (B8 L (pre++e::(post++s))):=
 EB (X:=[]) (e:=e) (e':=e) rfl rfl rfl (h.perm (IX _ _ _ _))
def OS (kf:Int->List Int->Kn) (L:Nat) (es:List Bx) (post:List At):Prop:= ∃es',Jb es es'/\Br kf es'/\post=B8 L es'
def mM (w:AJ) (us:List Nat) {kf:Int->List Int->Kn} {L:Nat} {pre post:List Bx} {e:Bx} {a:Int} {p:List Int} (hp:p.length<2) :
    NA Tryz.prog (.f (.func 350) [] [.rp [Tm w us L],.rp (FQ a p)]) eI (fun s=> .own e.vs 1 (iL e.k.AI)::Hx L pre post e s) (fun y=> !(kf a (p++[y])).Af) (fun s=>Br kf (pre++e::(post++s))/\ ∀x∈s,x.k=k0) (fun _=>True):=by
 rintro y s - ⟨hj,hj0⟩ σ hs;refine BD ?_;show As Tryz.prog 350 ([]++[eI y]++[.rp [Tm w us L],.rp (FQ a p)]) σ _;refine rP kZ ?_
 conv=>whnf
 repeat'((first|apply st|(apply sq;intro K U)|(apply si;intro A B Y Z)|(apply Y;clear Z B Y A)|(apply U;clear U K)|apply dr|refine rk ?_ ?_|exact fun s e=>by cases e;rfl|refine⟨kZ,?_⟩|refine Pure.use (N0 a p y hp) ?_|fail)<;>conv=>whnf)
 refine(Ku w us hj (a:=a) (p:=p++[y]) (by simp;omega)).use (rest:=[]) (by simpa using o6 hs) ?_;clear hs;rintro r post' σ ⟨es4,e4,got,rfl,rfl⟩ hs;have hek4:=got.k;obtain⟨new,he4,hnew⟩:=got.ext;have hinv:=got.inv;obtain⟨pre4,post4,he5⟩:=List.append_of_mem got.mem;rw[Ep,he5]at hs;replace hs:=HA (X:=[]) hs
 conv=>whnf
 repeat'((first|apply st|(apply Y;clear Z B Y A)|(apply U;clear U K)|apply dr|refine ld ?_|fail)<;>conv=>whnf)
 refine AK ⟨by rw[hek4],s++new,⟨?_,fun x hx=>?_⟩,?_⟩
 .rw[he4]at hinv
  simpa using hinv
 .rcases Dr.1 hx with hx|hx
  .exact hj0 x hx
  .exact hnew x hx
 .have h2:=EB (X:=[]) (e:=e4) (e':=e4) rfl rfl rfl hs
  rw[<-he5,he4]at h2;refine uk ?_;simpa using h2
def mN (w:AJ) (us:List Nat) {kf:Int->List Int->Kn} (hr:Dp w kf) {L:Nat} {es:List Bx} (h:Br kf es) {a:Int} {p:List Int} (hp:p.length<=2) :
    BK Tryz.prog 316 [Tm w us L,B6 a p] (B8 L es) fun r post=>r= .ret (.b (HD kf a p))/\OS kf L es post:=by
 intro σ hs;have hM:=Mx;refine rf kZ ?_
 conv=>whnf
 repeat'((first|apply st|(apply sq;intro K U)|(apply si;intro A B Y Z)|(apply Y;clear Z B Y A)|(apply U;clear U K)|refine⟨kZ,?_⟩|fail)<;>conv=>whnf)
 refine(Ku w us h (a:=a) (p:=p) hp).use (rest:=[]) (by simpa using hs) ?_;clear hs;rintro r post σ ⟨es4,e4,got,rfl,rfl⟩ hs;have hek:=got.k;obtain⟨pre,post,rfl⟩:=List.append_of_mem got.mem;rw[Ep]at hs;replace hs:=HA (X:=[]) hs;have hsl:=(hr.ok a p).2.2.2;have hsh:=hr.short a p;rw[<-hek]at hsl hsh
 have hst:p.length<2\/e4.k.AI= []:=by
  rcases Nat.lt_or_ge p.length 2 with h'|h'
  .exact .inl h'
  .exact .inr (hsh h')
 have hE:HD kf a p=e4.k.AI.all fun y=> !(kf a (p++[y])).Af:=by rw[HD,hek]
 conv=>whnf
 repeat'((first|refine ld ?_|fail)<;>conv=>whnf)
 have hall:BK Tryz.prog 246 [e4.vs,.f (.func 350) [] [.rp [Tm w us L],.rp (FQ a p)]] (.own e4.vs 1 (iL e4.k.AI)::Hx L pre post e4 []) fun r post'=>r= .ret (.b (e4.k.AI.all fun y=> !(kf a (p++[y])).Af))/\ ∃s',(Br kf (pre++e4::(post++s'))/\ ∀x∈s',x.k=k0)/\post'= .own e4.vs 1 (iL e4.k.AI)::Hx L pre post e4 s':=by
  rcases hst with h'|h'
  .exact ZZ 350 [] [.rp [Tm w us L],.rp (FQ a p)] (Hx L pre post e4) _ _ _ (mM w us h') (fun _ _=>trivial) (by omega) [] ⟨by simpa using got.inv,by simp⟩
  .exact ZZ 350 [] [.rp [Tm w us L],.rp (FQ a p)] (Hx L pre post e4) _ _ (fun _=>False) (fun y s hf=>hf.elim) (fun x hx=>by rw[h']at hx;cases hx) (by omega) [] ⟨by simpa using got.inv,by simp⟩
 refine hall.use (rest:=[]) (by
  have h2:=uk (L:=L) (pre:=pre) (post:=post) (e:=e4) (s:=[]) (by simpa using EB (X:=[]) (e:=e4) (e':=e4) rfl rfl rfl hs)
  simpa using h2) ?_
 clear hs;rintro r post' σ ⟨rfl,s',⟨hi,hn⟩,rfl⟩ hs
 conv=>whnf
 repeat'((first|apply st|(apply Y;clear Z B Y A)|(apply U;clear U K)|fail)<;>conv=>whnf)
 refine AK ⟨_,⟨by rw[hE],pre++e4::(post++s'),got.ext.trans ⟨s',by simp,hn⟩,hi,rfl⟩,o6 (by simpa using hs)⟩
def Lf {m u:Nat} (hm:m<18446744073709551616):(Km m u=0)↔Gz m u=true:=by
 rw[LH (by simpa using hm)];constructor
 .intro h b hb
  have hlt:b<64:=by
   rcases Nat.lt_or_ge b 64 with h'|h'
   .exact h'
   .rw[Nat.testBit_lt_two_pow (Nat.lt_of_lt_of_le hm (by simpa using Nat.pow_le_pow_right (n:=2) (by decide) h'))]at hb;cases hb
  have:=PI (a:=m) (b:=u) hlt;rw[h,Nat.zero_testBit,hb]at this;simpa using this
 .intro h
  refine Nat.eq_of_testBit_eq fun i=>?_
  rw[Nat.zero_testBit];rcases Nat.lt_or_ge i 64 with hlt|hge
  .rw[PI hlt]
   cases hb:m.testBit i with
   | false=>rfl
   | true=>rw[h i hb];rfl
  .exact Nat.testBit_lt_two_pow (Nat.lt_of_lt_of_le (TR _ _) (by simpa using Nat.pow_le_pow_right (n:=2) (by decide) hge))
def U8 (w:AJ) (us:List Nat) {kf:Int->List Int->Kn} (hr:Dp w kf) {L:Nat} {es:List Bx} (h:Br kf es) {a:Int} {p:List Int} (hp:p.length<=2) (c:Nat) (hc:c<64) :
    BK Tryz.prog 270 [Tm w us L,B6 a p,eI c] (B8 L es) fun r post=>r= .ret (.b (D5 kf a p c))/\OS kf L es post:=by
 intro σ hs;refine sM kZ ?_
 conv=>whnf
 repeat'((first|apply st|(apply sq;intro K U)|(apply si;intro A B Y Z)|(apply Y;clear Z B Y A)|(apply U;clear U K)|refine⟨kZ,?_⟩|fail)<;>conv=>whnf)
 refine(Ku w us h (a:=a) (p:=p) hp).use (rest:=[]) (by simpa using hs) ?_;clear hs;rintro r post σ ⟨es4,e4,got,rfl,rfl⟩ hs;have hek:=got.k;obtain⟨pre,post,rfl⟩:=List.append_of_mem got.mem;rw[Ep]at hs;replace hs:=HA (X:=[]) hs;have hok:=hr.ok a p;rw[<-hek]at hok;have hu:1|||2 ^ c<18446744073709551616:=G8 (by decide) (F1 hc)
 have hb1:bits .andNot .u64 (e4.k.BJ:Int) ((1|||2 ^ c:Nat):Int)=((Km e4.k.BJ (1|||2 ^ c):Nat):Int):=Hb;have hb2:bits .and .u64 (e4.k.DU:Int) ((1|||2 ^ c:Nat):Int)=((e4.k.DU&&&(1|||2 ^ c):Nat):Int):=FN hok.2.1 hu;have hb3:=Lf (u:=1|||2 ^ c) hok.1;have F:D5 kf a p c=(Gz e4.k.BJ (1|||2 ^ c)&&(e4.k.DU&&&(1|||2 ^ c)==0&&HD kf a p)):=by rw[D5,hek]
 conv=>whnf
 repeat'((first|apply st|(apply sq;intro K U)|(apply si;intro A B Y Z)|(apply Y;clear Z B Y A)|(apply U;clear U K)|refine⟨rfl,?_⟩|refine⟨kZ,?_⟩|refine ld ?_|refine Pure.use (Yd 1 c (by decide) hc) ?_|(constructor<;>intro hc<;>(try rw[hc])<;>(replace hc:=bp hc))|fail)<;>conv=>whnf)
 .have h1:Gz e4.k.BJ (1|||2 ^ c)=true:=hb3.1 (by omega)
  have h2:(e4.k.DU&&&(1|||2 ^ c)==0)=true:=by rw[Cr];omega
  refine(mN w us hr got.inv hp).use (rest:=[]) (by simpa using EB (X:=[]) (e:=e4) (e':=e4) rfl rfl rfl hs) ?_;clear hs;rintro r post' σ ⟨rfl,es5,hx,hi,rfl⟩ hs
  conv=>whnf
  repeat'((first|apply st|(apply Y;clear Z B Y A)|(apply U;clear U K)|fail)<;>conv=>whnf)
  exact AK ⟨_,⟨by rw[F,h1,h2];rfl,es5,got.ext.trans hx,hi,rfl⟩,by simpa using hs⟩
 .have h2:(e4.k.DU&&&(1|||2 ^ c)==0)=false:=by rw[beq_eq_false_iff_ne];omega
  exact AK ⟨_,⟨by rw[F,h2];simp,_,got.ext,got.inv,rfl⟩,by simpa using EB (X:=[]) (e:=e4) (e':=e4) rfl rfl rfl hs⟩
 .have h1:Gz e4.k.BJ (1|||2 ^ c)=false:=by
   rw[<-Bool.not_eq_true,<-hb3];omega
  exact AK ⟨_,⟨by rw[F,h1];simp,_,got.ext,got.inv,rfl⟩,by simpa using EB (X:=[]) (e:=e4) (e':=e4) rfl rfl rfl hs⟩
def Pk (w:AJ) (us:List Nat) {kf:Int->List Int->Kn} (hr:Dp w kf) {L:Nat} {es:List Bx} (h:Br kf es) {a:Int} {p:List Int} (hp:p.length<=2) :
    BK Tryz.prog 194 [Tm w us L,B6 a p] (B8 L es) fun r post=>r= .ret (.t [eI (EA (kf a p)),.b (FT kf a p)])/\OS kf L es post:=by
 intro σ hs;have hM:=Mx;refine tC kZ ?_
 conv=>whnf
 repeat'((first|apply st|(apply sq;intro K U)|(apply si;intro A B Y Z)|(apply Y;clear Z B Y A)|(apply U;clear U K)|refine⟨kZ,?_⟩|fail)<;>conv=>whnf)
 refine(Ku w us h (a:=a) (p:=p) hp).use (rest:=[]) (by simpa using hs) ?_;clear hs;rintro r post σ ⟨es4,e4,got,rfl,rfl⟩ hs;have hek:=got.k;obtain⟨pre,post,rfl⟩:=List.append_of_mem got.mem;rw[Ep]at hs;replace hs:=HA (X:=[]) hs;have hok:=hr.ok a p;have hlo:=hr.low a p;rw[<-hek]at hok hlo;have hno:=hok.2.2.1;have hle:=TJ e4.k.no e4.k.low;have hL:EA (kf a p)=GJ e4.k.no (from_ e4.k.no e4.k.low) e4.k.low:=by rw[EA,<-hek];exact N8 hle (IN _)
 conv=>whnf
 repeat'((first|apply st|(apply sq;intro K U)|(apply si;intro A B Y Z)|(apply Y;clear Z B Y A)|(apply U;clear U K)|refine ld ?_|fail)<;>conv=>whnf)
 refine Gf (fun n:Int=>from_ e4.k.no n) (fun n=>[(7,eI n)]) (fun _=> .box e4.b [eI e4.k.low,eI e4.k.high,e4.vn,eU e4.k.BJ,eU e4.k.DU,.b e4.k.whole,.b e4.k.Af,e4.vs]:: .own e4.vn 1 (iL e4.k.no):: .own e4.vs 1 (iL e4.k.AI)::([]++G7 L (pre++e4::post) pre post)) (fun n=> -1000000000<=n/\n+from_ e4.k.no n<=1000001000/\EA (kf a p)=GJ e4.k.no (from_ e4.k.no n) n) e4.k.low rfl ⟨by omega,by omega,hL⟩ hs ?_;clear hs hL hle;rintro n σ ⟨hn0,hn1,hL⟩ hs;have hct2:=fun b=>Ck e4.k.no b n
 cases hcB:e4.k.no.contains n<;>rw[hcB]at hct2
 .have hout:n∉e4.k.no:=by simpa using hcB
  rw[Za hout]at hL;have hI:FT kf a p=(decide (n<=e4.k.high)&&D5 kf a p 1):=by rw[FT,hL,hek]
  conv=>whnf
  repeat'((first|apply st|(apply sq;intro K U)|(apply si;intro A B Y Z)|(apply Y;clear Z B Y A)|(apply U;clear U K)|refine⟨rfl,?_⟩|refine⟨kZ,?_⟩|refine ld ?_|refine Pure.T3 (hct2 false) (.cons (hs.IJ 1 rfl) (.cons (.refl _) .nil)) rfl ?_|(constructor<;>intro hc<;>(try rw[hc])<;>(replace hc:=bp hc))|clear U K)<;>conv=>whnf)
  all_goals
   have hsc:Sat σ (B8 L (pre++e4::post)):=by simpa using EB (X:=[]) (e:=e4) (e':=e4) rfl rfl rfl hs
  .refine(U8 w us hr got.inv hp 1 (by decide)).use (rest:=[]) (by simpa using hsc) ?_
   clear hs hsc;rintro r post' σ ⟨rfl,es5,hx,hi,rfl⟩ hs
   conv=>whnf
   repeat'((first|apply st|(apply Y;clear Z B Y A)|(apply U;clear U K)|fail)<;>conv=>whnf)
   exact AK ⟨_,⟨by rw[hL,hI,decide_eq_true (by assumption)];rfl,es5,got.ext.trans hx,hi,rfl⟩,by simpa using hs⟩
  .exact AK ⟨_,⟨by rw[hL,hI,decide_eq_false (by omega)];rfl,_,got.ext,got.inv,rfl⟩,hsc⟩
 .have hin:n∈e4.k.no:=by simpa using hcB
  have hlt:=N4 hin;have hwr:IntKind.i64.wrap (n+1)=n+1:=wrap64 (by omega) (by omega);obtain⟨m,hm⟩: ∃m,from_ e4.k.no n=m+1:=⟨from_ e4.k.no n - 1,by omega⟩
  have hL2:EA (kf a p)=GJ e4.k.no (from_ e4.k.no (n+1)) (n+1):=by rw[hL,hm,fj hin];exact N8 (by omega) (IN _)
  conv=>whnf
  repeat'((first|apply st|(apply sq;intro K U)|(apply si;intro A B Y Z)|(apply Y;clear Z B Y A)|(apply U;clear U K)|refine⟨rfl,?_⟩|refine ld ?_|refine Pure.T3 (hct2 false) (.cons (hs.IJ 1 rfl) (.cons (.refl _) .nil)) rfl ?_|clear U K)<;>conv=>whnf)
  exact⟨n+1,hlt,by rw[hwr];rfl,⟨by omega,by omega,hL2⟩,hs⟩
def Y2 (w:AJ) (us:List Nat) {kf:Int->List Int->Kn} (hr:Dp w kf) {L:Nat} {es:List Bx} (h:Br kf es) {a:Int} {p:List Int} (hp:p.length<=2) :
    BK Tryz.prog 195 [Tm w us L,B6 a p] (B8 L es) fun r post=>r= .ret (.b (C9 kf a p))/\OS kf L es post:=by
 intro σ hs;refine tB kZ ?_
 conv=>whnf
 repeat'((first|apply st|(apply sq;intro K U)|(apply si;intro A B Y Z)|(apply Y;clear Z B Y A)|(apply U;clear U K)|refine⟨kZ,?_⟩|fail)<;>conv=>whnf)
 refine(Ku w us h (a:=a) (p:=p) hp).use (rest:=[]) (by simpa using hs) ?_;clear hs;rintro r post σ ⟨es4,e4,got,rfl,rfl⟩ hs;have hek:=got.k;obtain⟨pre,post,rfl⟩:=List.append_of_mem got.mem;rw[Ep]at hs;have hsc:=hs;replace hs:=HA (X:=[]) hs;have hN:C9 kf a p=(!e4.k.whole&&D5 kf a p 2):=by rw[C9,hek]
 cases hw:e4.k.whole<;>rw[hw]at hs hN
 .conv=>whnf
  repeat'((first|apply st|refine⟨kZ,?_⟩|refine ld ?_|refine FX ?_|fail)<;>conv=>whnf)
  refine(U8 w us hr got.inv hp 2 (by decide)).use (rest:=[]) (by simpa using hsc) ?_;clear hs hsc;rintro r post' σ ⟨rfl,es5,hx,hi,rfl⟩ hs
  conv=>whnf
  repeat'((first|apply st|(apply Y;clear Z B Y A)|(apply U;clear U K)|fail)<;>conv=>whnf)
  exact AK ⟨_,⟨by rw[hN];rfl,es5,got.ext.trans hx,hi,rfl⟩,by simpa using hs⟩
 .conv=>whnf
  repeat'((first|apply st|(apply Y;clear Z B Y A)|(apply U;clear U K)|refine ld ?_|refine Es ?_|fail)<;>conv=>whnf)
  exact AK ⟨_,⟨by rw[hN];rfl,_,got.ext,got.inv,rfl⟩,hsc⟩
def SQ {σ:AH} {X:List At} {L:Nat} {pre post:List Bx} {e:Bx} {s:List Bx} (h:Sat σ (X++B8 L (pre++e::(post++s)))):Sat σ (.own e.vs 1 (iL e.k.AI)::(X++Hx L pre post e s)):=by
 have h2:=HA h;refine h2.perm ((IX _ _ _ _).symm.trans (.cons _ ?_));exact(List.perm_middle.trans (.cons _ List.perm_middle)).symm
def me {σ:AH} {X:List At} {L:Nat} {pre post:List Bx} {e:Bx} {s:List Bx} (h:Sat σ (.own e.vs 1 (iL e.k.AI)::(X++Hx L pre post e s))):Sat σ (X++B8 L (pre++e::(post++s))):=by
 refine EB (X:=X) (e:=e) (e':=e) rfl rfl rfl ?_;refine h.perm ?_;refine List.Perm.trans (.cons _ (List.perm_middle.trans (.cons _ List.perm_middle))) ?_;exact IX _ _ _ _
def lh (s:Nat) (c:Int) (hs0:s<18446744073709551616) (h0:0<=c) (hc:c<64):Pure Tryz.prog 182 [eU s,eI c] (.b (s.testBit c.toNat)):=by
 have:=SZ s c.toNat hs0 (by omega);rw[Int.toNat_of_nonneg h0]at this;exact this
def jE {m:Nat} (hm:m<18446744073709551616):Km m 1=G3 m:=by
 refine Nat.eq_of_testBit_eq fun i=>?_
 rw[Vc];rcases Nat.lt_or_ge i 64 with hlt|hge
 .rw[PI hlt,show(1:Nat)=2 ^ 0 from rfl,Nat.testBit_two_pow]
  congr 2;rw[Hf,Cm,Cr];omega
 .have h64:18446744073709551616<=2 ^ i:=by simpa using Nat.pow_le_pow_right (n:=2) (by decide) hge
  rw[Nat.testBit_lt_two_pow (Nat.lt_of_lt_of_le (TR _ _) h64),Nat.testBit_lt_two_pow (Nat.lt_of_lt_of_le hm h64)];rfl
set_option maxHeartbeats 4000000 in
def Q5 (w : AJ) (hw:CY w) {kf:Int->List Int->Kn} (hr:Dp w kf) {a:Int} {p:List Int} (hp:p.length<=2) (can:Int->Bool)
    (hcan: ∀s∈(kf a p).AI,∀L es,Br kf es->BK Tryz.prog 267 [Tm w (BQ w.parents) L,B6 a (p++[s])] (B8 L es) fun r post=>r= .ret (.b (can s))/\OS kf L es post) {L:Nat} {es:List Bx} (h:Br kf es) :
    BK Tryz.prog 196 [Tm w (BQ w.parents) L,B6 a p] (B8 L es) fun r post=>r= .ret (.t [eU (NY w (kf a p) (fun s=>(kf a (p++[s])).Af) can).1,.b (NY w (kf a p) (fun s=>(kf a (p++[s])).Af) can).2])/\OS kf L es post:=by
 intro σ hs;have hM:=Mx;generalize hus:BQ w.parents=us at *;refine tA kZ ?_
 conv=>whnf
 repeat'((first|apply st|(apply sq;intro K U)|(apply si;intro A B Y Z)|(apply Y;clear Z B Y A)|(apply U;clear U K)|refine⟨kZ,?_⟩|fail)<;>conv=>whnf)
 refine(Ku w us h (a:=a) (p:=p) hp).use (rest:=[]) (by simpa using hs) ?_;clear hs;rintro r post σ ⟨es4,e4,got,rfl,rfl⟩ hs;have hek:=got.k;obtain⟨pre,post,rfl⟩:=List.append_of_mem got.mem;rw[Ep]at hs;have hsc:=hs;replace hs:=HA (X:=[]) hs;have hok:=hr.ok a p;have hsl:=(hr.ok a p).2.2.2;have hsh:=hr.short a p;have hsw:=hr.AI a p;rw[<-hek]at hok hsl hsh hsw hcan;have hO:NY w (kf a p) (fun s=>(kf a (p++[s])).Af) can=NY w e4.k (fun s=>(kf a (p++[s])).Af) can:=by rw[hek]
 have hOn:(e4.k.whole=true\/e4.k.BJ.testBit 1=true\/e4.k.BJ.testBit 2=true\/e4.k.DU.testBit 0=true)->NY w (kf a p) (fun s=>(kf a (p++[s])).Af) can=(0,false):=fun h=>by
  rw[hO,NY,if_pos];rcases h with h|h|h|h<;>rw[h]<;>simp
 have hOy:e4.k.whole=false->e4.k.BJ.testBit 1=false->e4.k.BJ.testBit 2=false->e4.k.DU.testBit 0=false->NY w (kf a p) (fun s=>(kf a (p++[s])).Af) can=match H7 w (fun s=>(kf a (p++[s])).Af) can e4.k.AI (e4.k.BJ,e4.k.DU)with
  | none=>(0,false)
  | some u=>(G3 (Bi (BQ w.parents) w.parents.length u.1),G3 (Bi (BQ w.parents) w.parents.length u.1)&&&u.2==0):=fun h1 h2 h3 h4=>by
  rw[hO,NY,h1,h2,h3,h4];rfl
 clear hO;cases hb0:e4.k.whole<;>rw[hb0]at hs
 rotate_left
 .conv=>whnf
  repeat'((first|apply st|(apply sq;intro K U)|(apply si;intro A B Y Z)|(apply Y;clear Z B Y A)|(apply U;clear U K)|apply dr|refine ld ?_|clear U K)<;>conv=>whnf)
  exact AK ⟨_,⟨by rw[hOn (.inl hb0)];rfl,_,got.ext,got.inv,rfl⟩,hsc⟩
 .conv => whnf
  repeat'((first|apply st|(apply sq;intro K U)|(apply si;intro A B Y Z)|(apply Y;clear Z B Y A)|(apply U;clear U K)|apply dr|refine lo ?_|refine ld ?_|refine Pure.use (SZ e4.k.BJ 1 hok.1 (by decide)) ?_|refine Pure.use (SZ e4.k.BJ 2 hok.1 (by decide)) ?_|refine Pure.use (SZ e4.k.DU 0 hok.2.1 (by decide)) ?_|(constructor<;>intro hc<;>(try rw[hc])<;>(replace hc:=bp hc))|clear U K)<;>conv=>whnf)
  all_goals first
   | exact AK ⟨_,⟨by rw[hOn (by first|exact .inl (by assumption)|exact .inr (.inl (by assumption))|exact .inr (.inr (.inl (by assumption)))|exact .inr (.inr (.inr (by assumption))))];rfl,_,got.ext,got.inv,rfl⟩,hsc⟩
   | skip
  replace hOy:=hOy hb0 (by assumption) (by assumption) (by assumption);clear hOn;generalize hnf:(fun s=>(kf a (p++[s])).Af)=Af at *
  have hs1:Sat σ (.own e4.vs 1 (iL e4.k.AI)::Hx L pre post e4 []):=by
   have h2:=SQ (X:=[]) (L:=L) (pre:=pre) (post:=post) (e:=e4) (s:=[]) (by simpa using hsc);simpa using h2
  refine D3 e4.k.AI.length (fun k (x:(Nat×Nat)×List Bx)=>[(47,eI (Bq k)),(7,eU x.1.1),(8,eU x.1.2)]) (fun k x=> .own e4.vs 1 (iL e4.k.AI)::Hx L pre post e4 x.2) (fun k x=>(x.1.1<18446744073709551616/\x.1.2<18446744073709551616)/\(Br kf (pre++e4::(post++x.2))/\ ∀y∈x.2,y.k=k0)/\H7 w Af can e4.k.AI (e4.k.BJ,e4.k.DU)=H7 w Af can (e4.k.AI.drop k) x.1) ((e4.k.BJ,e4.k.DU),[]) rfl ⟨⟨hok.1,hok.2.1⟩,⟨by simpa using got.inv,by simp⟩,rfl⟩ hs1 ?_;clear hs hs1 hsc;rintro k ⟨⟨m,no⟩,new⟩ σ hk ⟨⟨hm,hno⟩,⟨hinv,hnew⟩,hF⟩ hs;simp only at hm hno hinv hnew hF hs;have hck:Bq k=k:=AV (by have:=hok.2.2.2;omega);rcases BM e4.k.AI hk with⟨s,hsk,hlt⟩|hke
  .have hsm:=Dm hsk
   have hp2:p.length<2:=by
    rcases Nat.lt_or_ge p.length 2 with h'|h'
    .exact h'
    .rw[hsh h']at hsm;cases hsm
   obtain⟨hs0,hs1⟩:=hsw s hsm;rw[drop_cons hsk,H7]at hF
   conv=>whnf
   repeat'((first|apply st|(apply sq;intro K U)|(apply si;intro A B Y Z)|(apply Y;clear Z B Y A)|(apply U;clear U K)|apply dr|refine⟨rfl,?_⟩|refine⟨kZ,?_⟩|refine ld ?_|refine Di fun σ hs=>?_|refine oi ?_|refine ol fun x hx=>?_|(refine DV (fun hc=>?_)<;>(try rw[hc])<;>clear hc)|refine Pure.use (N0 a p _ hp2) ?_|(intro nn hnn;generalize hg:A6 _ nn _=σ;refine Ci hg fun hs=>?_;clear hg)|fail)<;>conv=>whnf)
   obtain rfl:x=s:=by rw[hck,Hd,hsk]at hx;exact(Option.some.inj hx).symm
   generalize nn=n7 at *;have hs2:Sat σ ([.box n7 (FQ a (p++[x]))]++B8 L (pre++e4::(post++new))):=me (X:=[.box n7 (FQ a (p++[x]))]) (hs.perm (.swap _ _ _));clear hs;obtain⟨o,ho⟩: ∃o,w.owner[x.toNat]? =some o:=⟨_,ES (by omega)⟩
   have hoI:Bh w x=o:=by simp only[Bh,Ds,ho];rfl
   obtain⟨ho1,ho2⟩:=hw.2.2 o (Dm ho);have hwp:=hw.1.1;have hcx:=hcan x hsm L;cases hnx:Af x<;>cases hcy:can x
   all_goals
    rw[hcy]at hcx;rw[YM,hnx,hcy,hoI]at hF;refine(Ku w us hinv (a:=a) (p:=p++[x]) (by simp;omega)).use (rest:=[.box n7 (FQ a (p++[x]))]) (hs2.perm Np) ?_;clear hs2;rintro r post' σ ⟨es5,e5,got5,rfl,rfl⟩ hs;have hek5:e5.k.Af=Af x:=by rw[got5.k,<-hnf]
    rw[hnx]at hek5;obtain⟨newA,heA,hnA⟩:=got5.ext;obtain⟨pre5,post5,he5⟩:=List.append_of_mem got5.mem;rw[he5]at hs;replace hs:=HA (X:=[.box n7 (FQ a (p++[x]))]) (hs.perm Np);rw[hek5]at hs
    conv=>whnf
    repeat'((first|apply dr|refine rk ?_ ?_|exact fun s e=>by cases e;rfl|refine⟨kZ,?_⟩|refine ld ?_|fail)<;>conv=>whnf)
    have hs2:Sat σ ([.box n7 (FQ a (p++[x]))]++B8 L (pre5++e5::post5)):=EB (X:=[.box n7 (FQ a (p++[x]))]) (e:=e5) (e':=e5) rfl rfl rfl (by rw[<-hek5]at hs;exact hs);clear hs;refine(hcx es5 got5.inv).use (rest:=[.box n7 (FQ a (p++[x]))]) (by rw[he5];exact hs2.perm Np) ?_;clear hs2;rintro r post' σ ⟨rfl,es6,⟨new6,he6,hn6⟩,hi6,rfl⟩ hs;have he7:es6=pre5++e5::(post5++new6):=by rw[he6,he5];simp
    rw[he7]at hs;replace hs:=HA (X:=[.box n7 (FQ a (p++[x]))]) (hs.perm Np);rw[hek5]at hs
    conv=>whnf
    repeat'((first|apply st|(apply sq;intro K U)|(apply si;intro A B Y Z)|(apply Y;clear Z B Y A)|(apply U;clear U K)|apply dr|refine rk ?_ ?_|exact fun s e=>by cases e;rfl|refine⟨rfl,?_⟩|refine Kf ?_|refine ld ?_|refine FX ?_|refine Es ?_|refine Pure.use (HG m o hm (by omega) (by omega)) ?_|refine Pure.use (HG no o hno (by omega) (by omega)) ?_|clear U K)<;>conv=>whnf)
    simp only[Bool.not_false,Bool.not_true,Bool.and_true,Bool.and_false,Kc,if_false,if_true,Option.bind_some,Option.bind_none]at hF;have e7:es6=pre++e4::(post++(new++newA++new6)):=by rw[he6,heA];simp
    have hs2:Sat σ ([.box n7 (FQ a (p++[x]))]++B8 L (pre5++e5::(post5++new6))):=EB (X:=[.box n7 (FQ a (p++[x]))]) (e:=e5) (e':=e5) rfl rfl rfl (by rw[<-hek5]at hs;exact hs)
    have hs3:Sat σ (B8 L (pre++e4::(post++(new++newA++new6)))):=by
     rw[<-he7,e7]at hs2;exact hs2.less (List.sublist_append_right _ _)
    have hi7:Br kf (pre++e4::(post++(new++newA++new6))):=by rw[<-e7];exact hi6
    have hn7: ∀y∈new++newA++new6,y.k=k0:=fun y hy=>by
     rcases Dr.1 hy with hy|hy
     .rcases Dr.1 hy with hy|hy
      .exact hnew y hy
      .exact hnA y hy
     .exact hn6 y hy
    have hob:2 ^ o.toNat<18446744073709551616:=F1 (by omega)
   .exact⟨hlt,((m,no|||2 ^ o.toNat),new++newA++new6),rfl,⟨⟨hm,G8 hno hob⟩,⟨hi7,hn7⟩,hF⟩,SQ (X:=[]) hs3⟩
   .exact⟨hlt,((m,no),new++newA++new6),rfl,⟨⟨hm,hno⟩,⟨hi7,hn7⟩,hF⟩,SQ (X:=[]) hs3⟩
   .rw[hF]at hOy
    exact AK ⟨_,⟨by rw[hOy];rfl,_,got.ext.trans ⟨_,by simp,hn7⟩,hi7,rfl⟩,hs3⟩
   .exact⟨hlt,((m|||2 ^ o.toNat,no),new++newA++new6),rfl,⟨⟨G8 hm hob,hno⟩,⟨hi7,hn7⟩,hF⟩,SQ (X:=[]) hs3⟩
  .rw [BX hke,H7]at hF
   rw[hF]at hOy;simp only at hOy
   conv=>whnf
   repeat'((first|apply st|(apply sq;intro K U)|(apply si;intro A B Y Z)|(apply Y;clear Z B Y A)|(apply U;clear U K)|refine⟨rfl,?_⟩|(refine EZ (fun hc=>?_)<;>(try rw[hc])<;>clear hc)|clear U K)<;>conv=>whnf)
   have hu:oY us:=by rw[<-hus];exact F6 _ _ (by have:=hw.1.1;omega)
   have hul:us.length=3+w.parents.length:=by rw[<-hus];exact DJ _ _
   have hwp:=hw.1.1;have hwl:IntKind.i64.wrap (3+((JY w.parents).length:Nat))=3+(w.parents.length:Int):=by rw[Bu,wrap64 (by omega) (by omega)]
   refine D3 w.parents.length (fun k (x:Nat)=>[(14,eI (QG 3 k)),(7,eU x)]) (fun _ _=> .own e4.vs 1 (iL e4.k.AI)::Hx L pre post e4 new) (fun k x=>x<18446744073709551616/\x=Bi us k m) m rfl ⟨hm,rfl⟩ hs ?_;clear hs;clear hke hck hk k;rintro k x σ hk ⟨hx64,hxe⟩ hs;have hc3:QG 3 k=3+k:=TO (by omega) (by omega);by_cases hlt:k<w.parents.length
   .have hbt:Bi us (k+1) m=if x.testBit (QG 3 k).toNat then x|||us.getD (3+k) 0 else x:=by
     rw[Bi,<-hxe,hc3,show(3+(k:Int)).toNat=3+k by omega]
    have hup:(List.drop ((QG 3 k).toNat*1) (List.drop 2 (wC w us)))[0]? =some (eU (us.getD (3+k) 0)):=by
     rw[uM,uM,<-nT w us (i:=3+k) (by omega)];congr 1;omega
    conv=>whnf
    repeat'((first|apply st|(apply sq;intro K U)|(apply si;intro A B Y Z)|(apply Y;clear Z B Y A)|(apply U;clear U K)|refine⟨rfl,?_⟩|refine iar ?_|(rw[hup])|refine Pure.use (lh x (QG 3 k) hx64 (by omega) (by omega)) ?_|(constructor<;>intro hc<;>(try rw[hc])<;>(replace hc:=bp hc)<;>(try simp(disch:=omega) only[Bu,wrap64,AV]at hc)<;>try(exfalso;omega))|clear U K)<;>conv=>whnf)
    .refine⟨hlt,x|||us.getD (3+k) 0,?_,⟨G8 hx64 (SS hu _),by rw[hbt,if_pos (by assumption)]⟩,hs⟩
     rw[GX hx64 (SS hu _)];rfl
    .exact⟨hlt,x,rfl,⟨hx64,by rw[hbt,if_neg (by rw[‹x.testBit _=false›];decide)]⟩,hs⟩
   .have hke:k=w.parents.length:=by omega
    rw[hus,<-hke,<-hxe]at hOy
    have Y:bits .andNot .u64 (x:Int) 1=((G3 x:Nat):Int):=by
     have:=Hb (a:=x) (b:=1);rw[jE hx64]at this;exact this
    have hcl:G3 x<18446744073709551616:=by unfold G3;omega
    have Z:bits .and .u64 ((G3 x:Nat):Int) (no:Int)=((G3 x&&&no:Nat):Int):=FN hcl hno
    conv=>whnf
    repeat'((first|apply st|(apply sq;intro K U)|(apply si;intro A B Y Z)|(apply Y;clear Z B Y A)|(apply U;clear U K)|refine⟨rfl,?_⟩|(constructor<;>intro hc<;>(try rw[hc])<;>(replace hc:=bp hc)<;>(try simp(disch:=omega) only[Bu,wrap64,AV]at hc)<;>try(exfalso;omega))|clear U K)<;>conv=>whnf)
    rw[Y,Z];refine AK ⟨_,⟨?_,_,got.ext.trans ⟨new,by simp,hnew⟩,hinv,rfl⟩,o6 hs⟩;rw[hOy]
    have hz:(((G3 x&&&no:Nat):Int)==0)=(G3 x&&&no==0):=by
     rw[Hf,Cr,Cr];omega
    rw[<-hz]
def tx (w:AJ) (hw:CY w) {kf:Int->List Int->Kn} (hr:Dp w kf) (a:Int): ∀(d:Nat) (p:List Int),p.length+d=2-> ∀(L:Nat) (es:List Bx),Br kf es->
    BK Tryz.prog 267 [Tm w (BQ w.parents) L,B6 a p] (B8 L es) fun r post=>r= .ret (.b (Nc w kf a d p))/\OS kf L es post:=by
 intro d
 induction d with
 | zero=>
   intro p hp L es h σ hs;have hint:=Pk w (BQ w.parents) hr h (L:=L) (a:=a) (p:=p) (by omega);have hnone:=fun es h=>Y2 w (BQ w.parents) hr (es:=es) h (L:=L) (a:=a) (p:=p) (by omega)
   have hobj:=fun es h=>Q5 w hw hr (a:=a) (p:=p) (by omega) (fun _=>false) (by rw[hr.short a p (by omega)];intro s hs;cases hs) (L:=L) (es:=es) h
   rw[Nc];cases hI:FT kf a p<;>cases hN:C9 kf a p<;>rw[hI]at hint<;>rw[hN]at hnone
   all_goals
    refine fP kZ ?_
    conv=>whnf
    repeat'((first|apply st|(apply sq;intro K U)|(apply si;intro A B Y Z)|(apply Y;clear Z B Y A)|(apply U;clear U K)|refine⟨kZ,?_⟩|fail)<;>conv=>whnf)
    refine hint.use (rest:=[]) (by simpa using hs) ?_;clear hs;rintro r post σ ⟨rfl,es2,hx2,hi2,rfl⟩ hs;rw[Ep]at hs
    conv=>whnf
    repeat'((first|apply st|(apply sq;intro K U)|(apply si;intro A B Y Z)|(apply Y;clear Z B Y A)|(apply U;clear U K)|refine⟨kZ,?_⟩|clear U K)<;>conv=>whnf)
   rotate_left 2
   .exact AK ⟨_,⟨rfl,es2,hx2,hi2,rfl⟩,hs⟩
   .exact AK ⟨_,⟨rfl,es2,hx2,hi2,rfl⟩,hs⟩
   all_goals
    refine(hnone es2 hi2).use (rest:=[]) (by simpa using hs) ?_;clear hs;rintro r post σ ⟨rfl,es3,hx3,hi3,rfl⟩ hs;rw[Ep]at hs
    conv=>whnf
    repeat'((first|apply st|(apply sq;intro K U)|(apply si;intro A B Y Z)|(apply Y;clear Z B Y A)|(apply U;clear U K)|refine⟨kZ,?_⟩|refine FX ?_|refine Es ?_|clear U K)<;>conv=>whnf)
   rotate_left 1
   .exact AK ⟨_,⟨rfl,es3,hx2.trans hx3,hi3,rfl⟩,hs⟩
   .refine(hobj es3 hi3).use (rest:=[]) (by simpa using hs) ?_
    clear hs;rintro r post σ ⟨rfl,es4,hx4,hi4,rfl⟩ hs;rw[Ep]at hs
    conv=>whnf
    repeat'((first|apply st|(apply sq;intro K U)|(apply si;intro A B Y Z)|(apply Y;clear Z B Y A)|(apply U;clear U K)|fail)<;>conv=>whnf)
    exact AK ⟨_,⟨rfl,es4,(hx2.trans hx3).trans hx4,hi4,rfl⟩,hs⟩
 | succ d ih=>
   intro p hp L es h σ hs;have hint:=Pk w (BQ w.parents) hr h (L:=L) (a:=a) (p:=p) (by omega);have hnone:=fun es h=>Y2 w (BQ w.parents) hr (es:=es) h (L:=L) (a:=a) (p:=p) (by omega)
   have hobj:=fun es h=>Q5 w hw hr (a:=a) (p:=p) (by omega) (fun s=>Nc w kf a d (p++[s])) (fun s hs L es h=>ih (p++[s]) (by simp;omega) L es h) (L:=L) (es:=es) h
   rw[Nc];cases hI:FT kf a p<;>cases hN:C9 kf a p<;>rw[hI]at hint<;>rw[hN]at hnone
   all_goals
    refine fP kZ ?_
    conv=>whnf
    repeat'((first|apply st|(apply sq;intro K U)|(apply si;intro A B Y Z)|(apply Y;clear Z B Y A)|(apply U;clear U K)|refine⟨kZ,?_⟩|fail)<;>conv=>whnf)
    refine hint.use (rest:=[]) (by simpa using hs) ?_;clear hs;rintro r post σ ⟨rfl,es2,hx2,hi2,rfl⟩ hs;rw[Ep]at hs
    conv=>whnf
    repeat'((first|apply st|(apply sq;intro K U)|(apply si;intro A B Y Z)|(apply Y;clear Z B Y A)|(apply U;clear U K)|refine⟨kZ,?_⟩|clear U K)<;>conv=>whnf)
   rotate_left 2
   .exact AK ⟨_,⟨rfl,es2,hx2,hi2,rfl⟩,hs⟩
   .exact AK ⟨_,⟨rfl,es2,hx2,hi2,rfl⟩,hs⟩
   all_goals
    refine(hnone es2 hi2).use (rest:=[]) (by simpa using hs) ?_;clear hs;rintro r post σ ⟨rfl,es3,hx3,hi3,rfl⟩ hs;rw[Ep]at hs
    conv=>whnf
    repeat'((first|apply st|(apply sq;intro K U)|(apply si;intro A B Y Z)|(apply Y;clear Z B Y A)|(apply U;clear U K)|refine⟨kZ,?_⟩|refine FX ?_|refine Es ?_|clear U K)<;>conv=>whnf)
   rotate_left 1
   .exact AK ⟨_,⟨rfl,es3,hx2.trans hx3,hi3,rfl⟩,hs⟩
   .refine(hobj es3 hi3).use (rest:=[]) (by simpa using hs) ?_
    clear hs;rintro r post σ ⟨rfl,es4,hx4,hi4,rfl⟩ hs;rw[Ep]at hs
    conv=>whnf
    repeat'((first|apply st|(apply sq;intro K U)|(apply si;intro A B Y Z)|(apply Y;clear Z B Y A)|(apply U;clear U K)|fail)<;>conv=>whnf)
    exact AK ⟨_,⟨rfl,es4,(hx2.trans hx3).trans hx4,hi4,rfl⟩,hs⟩
abbrev oH:V:= .Eo 260 (.a [])
def gJ (w:AJ) (hw:CY w) {kf:Int->List Int->Kn} (hr:Dp w kf) {L:Nat} {es:List Bx} (h:Br kf es) :
    BK Tryz.prog 192 [Tm w (BQ w.parents) L] (B8 L es) fun r post=>r=(if cz w kf then .ret (.t [])else .BZ oH)/\post= []:=by
 intro σ hs;refine tE kZ ?_
 conv=>whnf
 repeat'((first|apply st|(apply sq;intro K U)|(apply si;intro A B Y Z)|(apply Y;clear Z B Y A)|(apply U;clear U K)|fail)<;>conv=>whnf)
 refine D3 3 (fun k (x:List Bx)=>[(3,eI (Bq k))]) (fun k x=>B8 L x) (fun k x=>Br kf x/\cz w kf=((Bd 3).drop k).all fun a=>Nc w kf a 2 []) es rfl ⟨h,rfl⟩ hs ?_;clear hs h;rintro k es σ hk ⟨h,hn⟩ hs;have hck:Bq k=k:=AV (by simp only[Ay];omega);have hl3:(Bd 3).length=3:=rfl;rcases BM (Bd 3) hk with⟨a,ha,hlt⟩|hke
 .rw[drop_cons ha,WX]at hn
  have hak:a=Bq k:=by
   rw[hck];simp only[Bd,P8,List.getElem?_range (show k<3 from hlt),cS]at ha;exact(Option.some.inj ha).symm
  subst hak;have hcan:=tx w hw hr (Bq k) 2 [] rfl L es h;cases hC:Nc w kf (Bq k) 2 []<;>rw[hC]at hcan hn
  all_goals
   conv=>whnf
   repeat'((first|apply st|(apply sq;intro K U)|(apply si;intro A B Y Z)|(apply Y;clear Z B Y A)|(apply U;clear U K)|refine⟨rfl,?_⟩|(constructor<;>intro hc<;>(try rw[hc])<;>(replace hc:=bp hc)<;>(try simp(disch:=omega) only[Bu,wrap64,AV]at hc)<;>try(exfalso;omega))|fail)<;>conv=>whnf)
   refine hcan.use (rest:=[]) (by simpa using hs) ?_;clear hs;rintro r post σ ⟨rfl,es2,hx2,hi2,rfl⟩ hs;rw[Ep]at hs
   conv=>whnf
   repeat'((first|apply st|(apply si;intro A B Y Z)|(apply Y;clear Z B Y A)|(refine Z _ _ _ ?_;clear Z B Y A)|(apply U;clear U K)|refine⟨rfl,?_⟩|refine FX ?_|refine Es ?_|clear U K)<;>conv=>whnf)
  .exact C4 ⟨_,⟨by rw[hn];rfl,rfl⟩,hs.less (QV _)⟩
  .exact⟨by omega,es2,rfl,⟨hi2,by simpa using hn⟩,hs⟩
 .rw[BX hke]at hn
  conv=>whnf
  repeat'((first|apply st|(apply sq;intro K U)|(apply si;intro A B Y Z)|(apply Y;clear Z B Y A)|(apply U;clear U K)|refine⟨rfl,?_⟩|(constructor<;>intro hc<;>(try rw[hc])<;>(replace hc:=bp hc)<;>(try simp(disch:=omega) only[Bu,wrap64,AV]at hc)<;>try(exfalso;omega))|clear U K)<;>conv=>whnf)
  exact AK ⟨_,⟨by rw[hn];rfl,rfl⟩,hs.less (QV _)⟩
def LC {w:AJ} {ls:List Fact} (hw:w.parents.length<=60) (h: ∀x∈ls,C1 w x):MS ls:=by
 intro l hl;obtain⟨-,hc,hsm,hsh⟩:=LR h;obtain⟨-,hn,hlf⟩:=HM (h l hl);exact⟨E8 hlf,hsh l hl,fun ho=>by have:=hc l hl ho;omega,hsm l hl⟩
def qh {ls:List Fact} (h:W4 ls) (a:Int) (p:List Int): -1000000000<=(kn ls a p).low/\(kn ls a p).low<=1000000000:=by
 have key: ∀(ls:List Fact) (k:Kn),W4 ls->(-1000000000<=k.low/\k.low<=1000000000)-> -1000000000<=(ls.foldl (Cj a p) k).low/\(ls.foldl (Cj a p) k).low<=1000000000:=by
  intro ls
  induction ls with
  | nil=>intro k _ h;exact h
  | cons l r ih=>
    intro k hs hk;refine ih _ (fun x hx=>hs x (.tail _ hx)) ?_;have hn:=hs l (.head _);unfold Cj Bt Bv ct
    repeat' split
    all_goals first
     | exact hk
     | exact hn
     | (simp only;exact hk)
     | (simp only;exact hn)
 exact key ls k0 h ⟨by decide,by decide⟩
def Yw {w:AJ} {ls:List Fact} (h: ∀x∈ls,C1 w x):Gi w.owner.length ls:=by
 intro l hl s hs;obtain⟨-,hn,-⟩:=HM (h l hl);rw[CS,A8]at hn;have:=hn.1;simp only[Dx,IY,A8,Dh,OL,Cm]at this;exact this.2.2.2.2.1.1 s hs
def Yp {w:AJ} (hw:CY w) {ls:List Fact} (h: ∀x∈ls,C1 w x) (hlen:ls.length<900):Dp w (kn ls):=by
 have hadd:=LC (by have:=hw.1.1;omega) h;obtain⟨-,-,hsm,hsh⟩:=LR h;have hp:=Yw h;refine⟨fun a p=>?_,qh hsm,fun a p hpl=>?_,fun a p s hs=>?_⟩
 .obtain⟨h1,h2,h3,h4⟩:=ep hadd a p
  exact⟨h1,h2,by omega,by omega⟩
 .rw[Ip hp]
  exact Ma hsh hpl
 .rw[Ip hp]at hs
  exact HS hs
def pV {w:AJ} (hw:CY w) {ls:List Fact} (h: ∀x∈ls,C1 w x):cz w (kn ls)=Fg w ls:=by
 obtain⟨-,hc,-,-⟩:=LR h;refine pW ?_ (fun s h0 h1=>?_) (by have:=hw.1.1;omega) (fun l hl ho=>by have:=hc l hl ho;omega) (Yw h)
 .exact JN hw.1
 .obtain⟨o,ho⟩: ∃o,w.owner[s.toNat]? =some o:=⟨_,ES (by omega)⟩
  have hoI:Bh w s=o:=by simp only[Bh,Ds,ho];rfl
  rw[hoI];exact hw.2.2 o (Dm ho)
def mW {σ:AH} {n:Nat} {x:V} {rest:List At} (hs:Sat σ (.box n [x]::rest)) {Q:AH->Prop} (hq: ∀σ',Sat σ' (.box n [.b false]::rest)->Q σ'):G5 Tryz.prog 191 [.p n 0] (some oH) σ Q:=by
 refine ZT kZ ?_
 conv=>whnf
 repeat'((first|apply st|(apply sq;intro K U)|(apply si;intro A B Y Z)|(apply Y;clear Z B Y A)|(apply U;clear U K)|refine EK fun σ hs=>?_|refine Di fun σ hs=>?_|refine oh rfl ?_|(intro nn hnn;generalize hg:A6 _ nn _=σ;refine Ci hg fun hs=>?_;clear hg)|fail)<;>conv=>whnf)
 exact hq _ (hs.less (Mz _ _))
def mX {σ:AH} {n:Nat} {x:V} {rest:List At} (hs:Sat σ (.box n [x]::rest)) {Q:AH->Prop} (hq: ∀σ',Sat σ' (.box n [x]::rest)->Q σ'):G5 Tryz.prog 191 [.p n 0] none σ Q:=by
 refine ZT kZ ?_
 conv=>whnf
 repeat'((first|apply st|(apply sq;intro K U)|(apply si;intro A B Y Z)|(apply Y;clear Z B Y A)|(apply U;clear U K)|refine⟨rfl,?_⟩|refine Di fun σ hs=>?_|(intro nn hnn;generalize hg:A6 _ nn _=σ;refine Ci hg fun hs=>?_;clear hg)|fail)<;>conv=>whnf)
 exact hq _ (hs.less (Mz _ _))
attribute [local irreducible] G5
def Vv (w:AJ) (hw:CY w) (ls:List Fact) (b:Bool) (hl: ∀x∈ls,C1 w x) (hlen:ls.length<900):Pure Tryz.prog 127 [.rp (wC w (BQ w.parents)),.l (DY ls) b] (.b (Fg w ls)):=by
 refine Pure.of ?_;refine tj kZ ?_;have hs:=Sn
 conv=>whnf
 repeat'((first|(apply sq;intro K U)|(apply si;intro A B Y Z)|(apply Y;clear Z B Y A)|(apply U;clear U K)|(intro nn hnn;generalize hg:A6 _ nn _=σ;refine Ci hg fun hs=>?_;clear hg)|fail)<;>conv=>whnf)
 refine(gQ w (BQ w.parents) ls b (LC (by have:=hw.1.1;omega) hl) hlen).use (rest:=[.box nn [.b false]]) (by simpa using hs) ?_;clear hs;rintro r post σ ⟨L,es,rfl,hinv,rfl⟩ hs;have hwh:=gJ w hw (Yp hw hl hlen) hinv (L:=L);rw[pV hw hl]at hwh;cases ht:Fg w ls<;>rw[ht]at hwh
 all_goals
  conv=>whnf
  refine hwh.use (rest:=[.box nn [.b false]]) hs ?_;clear hs;rintro r post σ ⟨rfl,rfl⟩ hs
  conv=>whnf
  repeat'((first|apply st|(apply sq;intro K U)|(apply si;intro A B Y Z)|(apply Y;clear Z B Y A)|(refine Z _ _ _ ?_;clear Z B Y A)|(apply U;clear U K)|refine EK fun σ hs=>?_|clear U K)<;>conv=>whnf)
 .refine mW (rest:=[]) hs fun σ hs=>?_
  conv=>whnf
  repeat'((first|refine ld ?_|fail)<;>conv=>whnf)
  exact AK (by rw[ht];rfl)
 .refine mX (rest:=[]) (x:= .b true) hs fun σ hs=>?_
  conv=>whnf
  repeat'((first|refine ld ?_|fail)<;>conv=>whnf)
  exact AK (by rw[ht];rfl)
end Go.Gl
namespace Go.Gl
open Go.Proofs
attribute [local irreducible] As Am Ac AQ AM Ab AP AR AL Aa AN AO Ao Ax Sat AW Au Ad W
def P9 {α S:Type} (stp:α->S->Bool×S) (D:α->S->Prop):List α->S->Prop
 | [],_=>True
 | y::r,s=>D y s/\((stp y s).1=true->P9 stp D r (stp y s).2)
section
variable {α β S:Type} {stp:α->S->Bool×S} {D:α->S->Prop}
def Li: ∀(A B:List α) (s:S),B5 stp (A++B) s=if(B5 stp A s).1 then B5 stp B (B5 stp A s).2 else(false,(B5 stp A s).2)
 | [],B,s=>by simp[B5]
 | y::r,B,s=>by
   rw[List.cons_append,B5,B5];cases(stp y s).1
   .rfl
   .simpa using Li r B (stp y s).2
def PJ (l:α) (s:S):B5 stp [l] s=stp l s:=by
 rw[B5,B5];rcases stp l s with⟨b,s'⟩;cases b<;>rfl
def Nz: ∀ {A B:List α} {s:S},P9 stp D (A++B) s->P9 stp D A s/\((B5 stp A s).1=true->P9 stp D B (B5 stp A s).2)
 | [],B,s,h=>⟨trivial,fun _=>h⟩
 | y ::r,B,s,h=>by
   obtain⟨h1,h2⟩:=h;rw[P9,B5];cases hy:(stp y s).1
   .exact⟨⟨h1,fun h=>(by cases h)⟩,fun h=>(by simp at h)⟩
   .obtain⟨h3,h4⟩:=Nz (h2 hy)
    exact⟨⟨h1,fun _=>h3⟩,by simpa using h4⟩
def Ny {A:List α}: ∀ {B:List α} {s:S},(∀y∈B,y∈A)->P9 stp D B s->P9 stp (fun y s=>y∈A/\D y s) B s
 | [],_,_,_=>trivial
 | y::r,_,hm,h=>⟨⟨hm y (.head _),h.1⟩,fun hy=>Ny (fun z hz=>hm z (.tail _ hz)) (h.2 hy)⟩
def Yz {g:β->α}: ∀ {B:List β} {s:S},P9 stp D (B.map g) s->P9 (fun b s=>stp (g b) s) (fun b s=>D (g b) s) B s
 | [],_,_=>trivial
 | y::r,_,h=>⟨h.1,fun hy=>Yz (h.2 hy)⟩
end
section
variable {S:Type} {stp:List Fact->S->Bool×S} {D:List Fact->S->Prop}
def Rt (B:List (List Fact)): ∀(A:List (List Fact)) (s:S),B5 stp (FG A B) s=B5 (fun x s=>B5 (fun y s=>stp (Cf x y) s) B s) A s
 | [],s=>rfl
 | x::r,s=>by
   have ih:=Rt B r;rw[FG,List.flatMap_cons,Li,Lh,B5];simp only[FG]at ih;rw[ih]
def VB (B:List (List Fact)): ∀ {A:List (List Fact)} {s:S},P9 stp D (FG A B) s->P9 (fun x s=>B5 (fun y s=>stp (Cf x y) s) B s) (fun x s=>P9 (fun y s=>stp (Cf x y) s) (fun y s=>D (Cf x y) s) B s) A s
 | [],_,_=>trivial
 | x::r,s,h=>by
   rw[FG,List.flatMap_cons]at h;obtain⟨h1,h2⟩:=Nz h;refine⟨Yz h1,fun hy=>?_⟩;rw[Lh]at h2;exact VB B (h2 hy)
end
abbrev Jx (l:List Fact) (b:Bool):V:= .l (DY l) b
def Qg {S:Type} (x:V) (H:S->List At) (stp:List Fact->S->Bool×S) (D:List Fact->S->Prop):Prop:= ∀b,Cu Tryz.prog x (fun l=>Jx l b) H stp D
abbrev UH (n:Nat):V:= .f (.func 187) [] [.p n 0]
def Q9 {f:Fact} (hl:Cq f=true) (c:Bool):IL (if c then Ea f else f)=xF f++[.b c]:=by
 have:=E8 hl;cases c with
 | true=>rfl
 | false=>
   have h5: ¬f.op=5:=by omega
   simp only[IL,Kc,if_false,Ai,if_neg h5]
def WalkC (f:Fact):Prop:= ∀(c:Bool) (S:Type) (fn:Fn) (fi ca:List V) (H:S->List At) (stp:List Fact->S->Bool×S) (D:List Fact->S->Prop) (nW:Nat) (s:S),
 Qg (.f fn fi ca) (fun s=> .box nW [UH nW]::H s) stp D->P9 stp D (BS f c) s-> ∀σ,Sat σ (.box nW [UH nW]::H s)->
  Ao Tryz.prog (UH nW) [.a (xF f),.b c,.f fn fi ca] σ fun r σ'=>r= .ret (.b (B5 stp (BS f c) s).1)/\Sat σ' (.box nW [UH nW]::H (B5 stp (BS f c) s).2)
def il {w:AJ} {S:Type} {fn:Fn} {fi ca:List V} {H:S->List At} {stp:List Fact->S->Bool×S} {D:List Fact->S->Prop} (hT:Qg (.f fn fi ca) H stp D) {k0 k1:Fact} {c:Bool} (hn0:BT w k0=true) (hn1:BT w k1=true) (hv0:lv k0<=100) (hv1:lv k1<=100) {a:List Fact} (ha:a∈BS k0 c) (fa:Bool) :
    Qg (.f (.func 189) [] [.rp [.f fn fi ca],.rp [Jx a fa]]) H (fun y s=>stp (Cf a y) s) (fun y s=>y∈BS k1 c/\D (Cf a y) s):=by
 rintro b y s ⟨hy,hd⟩ σ hs;refine BD ?_;show As Tryz.prog 189 ([]++[Jx y b]++[.rp [.f fn fi ca],.rp [Jx a fa]]) σ _;have hla:=(KW k0 (By _ hn0) c).2 a ha;have hly:=(KW k1 (By _ hn1) c).2 y hy;have hM:=Mx;refine tG kZ ?_
 conv=>whnf
 repeat'((first|apply st|(apply sq;intro K U)|(apply si;intro A B Y Z)|(apply Y;clear Z B Y A)|(apply U;clear U K)|apply dr|refine rk ?_ ?_|exact fun s e=>by cases e;rfl|refine Pure.use (bM (w:=w) a y fa b (Df k0 hn0 c a ha) (Df k1 hn1 c y hy) (by omega)) ?_|fail)<;>conv=>whnf)
 refine(hT false).use hd hs ?_;clear hs;intro σ hs
 conv=>whnf
 repeat'((first|apply st|(apply Y;clear Z B Y A)|(apply U;clear U K)|apply dr|fail)<;>conv=>whnf)
 exact AK ⟨rfl,hs⟩
def im {w:AJ} {S:Type} {fn:Fn} {fi ca:List V} {H:S->List At} {stp:List Fact->S->Bool×S} {D:List Fact->S->Prop} {nW:Nat} (hT:Qg (.f fn fi ca) (fun s=> .box nW [UH nW]::H s) stp D) {f k0 k1:Fact} (hk:f.kids= [k0,k1]) {c:Bool} (hn0:BT w k0=true) (hn1:BT w k1=true) (hv0:lv k0<=100) (hv1:lv k1<=100) (hw1:WalkC k1) :
    Qg (.f (.func 188) [] [.p nW 0,.rp (xF f),.rp [.b c],.rp [.f fn fi ca]]) (fun s=> .box nW [UH nW]::H s) (fun a s=>B5 (fun y s=>stp (Cf a y) s) (BS k1 c) s) (fun a s=>a∈BS k0 c/\P9 (fun y s=>stp (Cf a y) s) (fun y s=>D (Cf a y) s) (BS k1 c) s):=by
 rintro fa a s ⟨ha,hd⟩ σ hs;refine BD ?_;show As Tryz.prog 188 ([]++[Jx a fa]++[.p nW 0,.rp (xF f),.rp [.b c],.rp [.f fn fi ca]]) σ _;have h1:f.kids[(1:Int).toNat]? =some k1:=by rw[hk];rfl
 refine tH kZ ?_
 conv=>whnf
 repeat'((first|apply st|(apply sq;intro K U)|(apply si;intro A B Y Z)|(apply Y;clear Z B Y A)|(apply U;clear U K)|apply dr|refine⟨kZ,?_⟩|refine Kh ?_|refine ld ?_|fail)<;>conv=>whnf)
 refine(hw1 c S _ _ _ H _ _ nW s (il hT hn0 hn1 hv0 hv1 ha fa) (Ny (fun y hy=>hy) hd) σ hs).mono ?_;clear hs;rintro r σ ⟨rfl,hs⟩
 conv=>whnf
 repeat'((first|apply st|(apply Y;clear Z B Y A)|(apply U;clear U K)|apply dr|fail)<;>conv=>whnf)
 exact AK ⟨rfl,hs⟩
set_option maxHeartbeats 2000000 in
def jx {w : AJ} (f:Fact):BT w f=true->lv f<=100->WalkC f:=by
 induction f using Fact.ind with
 | h f ih=>
   intro hn hv c S fn fi ca H stp D nW s hT hd σ hs;have har:=By _ hn
   have hnk: ∀k∈f.kids,BT w k=true:=by
    rw[CS,A8,Dh]at hn;exact hn.2
   have hop:f.op=1\/f.op=5\/Cq f=true\/f.op=6\/f.op=7:=by
    rw[CS,A8]at hn;have h1:=hn.1;simp only[Dx,Zp,A8]at h1;rw[LS];simp only[A8,Cm];have h2:=h1.1;split at h2
    .omega
    .split at h2
     .omega
     .simp only[EJ,Cr]at h2
      omega
   refine BD ?_;show As Tryz.prog 187 ([]++[.a (xF f),.b c,.f fn fi ca]++[.p nW 0]) σ _;refine tI kZ ?_;rw[Ey,Gr]at hd;have hcs:=Ey f c;rw[Gr]at hcs;rcases hop with h1|h5|hl|h67
   .rw[if_pos h1]at hd hcs
    rw[hcs];cases c
    .rw[if_neg (by decide)]at hd ⊢
     rw[PJ]
     conv=>whnf
     repeat'((first|apply st|(apply sq;intro K U)|(apply si;intro A B Y Z)|(apply Y;clear Z B Y A)|(apply U;clear U K)|refine⟨rfl,?_⟩|(constructor<;>intro hc<;>(try rw[hc])<;>(replace hc:=bp hc)<;>try(exfalso;omega))|fail)<;>conv=>whnf)
     refine(hT true).use (y:=[]) hd.1 hs ?_;clear hs;intro σ hs
     conv=>whnf
     repeat'((first|apply st|(apply Y;clear Z B Y A)|(apply U;clear U K)|clear U K)<;>conv=>whnf)
     exact AK ⟨rfl,hs⟩
    .rw[if_pos rfl]at hd ⊢
     conv=>whnf
     repeat'((first|apply st|(apply sq;intro K U)|(apply si;intro A B Y Z)|(apply Y;clear Z B Y A)|(apply U;clear U K)|refine⟨rfl,?_⟩|(constructor<;>intro hc<;>(try rw[hc])<;>(replace hc:=bp hc)<;>try(exfalso;omega))|clear U K)<;>conv=>whnf)
     exact AK ⟨rfl,hs⟩
   .obtain⟨k,hk,-⟩:=FC har h5
    have hkm:k∈f.kids:=by rw[hk];exact .head _
    have hvk:lv k<=100:=by
     rw[Jh,Zr,if_pos h5,hk]at hv;exact hv
    rw[if_neg (by omega),if_pos h5,hk]at hd hcs;have hcs2:BS f c=BS k (!c):=hcs;have h0:f.kids[(0:Int).toNat]? =some k:=by rw[hk];rfl
    rw[hcs2]
    conv=>whnf
    repeat'((first|apply st|(apply sq;intro K U)|(apply si;intro A B Y Z)|(apply Y;clear Z B Y A)|(apply U;clear U K)|apply dr|refine⟨rfl,?_⟩|refine⟨kZ,?_⟩|refine Kh ?_|refine ld ?_|(constructor<;>intro hc<;>(try rw[hc])<;>(replace hc:=bp hc)<;>try(exfalso;omega))|fail)<;>conv=>whnf)
    refine(ih k hkm (hnk k hkm) hvk (!c) S _ _ _ H stp D nW s hT hd σ hs).mono ?_;clear hs;rintro r σ ⟨rfl,hs⟩
    conv=>whnf
    repeat'((first|apply st|(apply Y;clear Z B Y A)|(apply U;clear U K)|apply dr|clear U K)<;>conv=>whnf)
    exact AK ⟨rfl,hs⟩
   .have hlo:=E8 hl
    have hlB:=S8 f;rw[hl]at hlB;rw[if_neg (by omega),if_neg (by omega),if_neg (by omega)]at hd hcs;have hcs2:BS f c= [[if c then Ea f else f]]:=by rw[hcs];cases c<;>rfl
    rw[<-hcs,hcs2]at hd;rw[hcs2,PJ]
    have e:Jx [if c then Ea f else f] true= .l [xF f++[.b c]] true:=by
     show V.l [IL (if c then Ea f else f)] true=_;rw[Q9 hl]
    have hst:=(hT true) [if c then Ea f else f] s hd.1;simp only[e]at hst
    conv=>whnf
    repeat'((first|apply st|(apply sq;intro K U)|(apply si;intro A B Y Z)|(apply Y;clear Z B Y A)|(apply U;clear U K)|refine⟨rfl,?_⟩|refine⟨kZ,?_⟩|refine hlB.use ?_|(constructor<;>intro hc<;>(try rw[hc])<;>(replace hc:=bp hc)<;>try(exfalso;omega))|fail)<;>conv=>whnf)
    refine(hst σ hs).mono ?_;clear hs;rintro r σ ⟨rfl,hs⟩
    conv=>whnf
    repeat'((first|apply st|(apply Y;clear Z B Y A)|(apply U;clear U K)|clear U K)<;>conv=>whnf)
    exact AK ⟨rfl,hs⟩
   .obtain⟨k0,k1,hk,-,-⟩:=FB har h67
    have hkm0:k0∈f.kids:=by rw[hk];exact .head _
    have hkm1:k1∈f.kids:=by rw[hk];exact .tail _ (.head _)
    have hlf:Cq f=false:=by rw[LS,decide_eq_false (show¬f.op<=4 by omega),Bool.and_false]
    have hlB:=S8 f;rw[hlf]at hlB
    have hvk:lv k0+lv k1<=100:=by
     rw[Jh,Zr,if_neg (by omega),if_pos h67,hk]at hv;exact hv
    rw[if_neg (by omega),if_neg (by omega),if_pos h67,hk]at hd hcs;have h0:f.kids[(0:Int).toNat]? =some k0:=by rw[hk];rfl
    have h1:f.kids[(1:Int).toNat]? =some k1:=by rw[hk];rfl
    have i0:=ih k0 hkm0 (hnk k0 hkm0) (by omega);have i1:=ih k1 hkm1 (hnk k1 hkm1) (by omega);by_cases hap:(c != (f.op==7))=true
    .rw [if_pos hap]at hd hcs
     have hcs2:BS f c=BS k0 c++BS k1 c:=hcs;have hd2:P9 stp D (BS k0 c++BS k1 c) s:=hd;obtain⟨hd3,hd4⟩:=Nz hd2;rw[hcs2,Li];clear hcs hcs2 hd hd2;rcases h67 with h6|h7
     .have h6b:(f.op==6)=true:=by rw[h6];rfl
      have hct:c=true:=by rw[h6]at hap;cases c<;>simp_all
      subst hct
      conv=>whnf
      repeat'((first|apply st|(apply sq;intro K U)|(apply si;intro A B Y Z)|(apply Y;clear Z B Y A)|(apply U;clear U K)|apply dr|refine⟨rfl,?_⟩|refine⟨kZ,?_⟩|refine Kh ?_|refine ld ?_|refine FX ?_|refine hlB.use ?_|(rw[h6b])|(constructor<;>intro hc<;>(try rw[hc])<;>(replace hc:=bp hc)<;>try(exfalso;omega))|fail)<;>conv=>whnf)
      refine(i0 true S _ _ _ H stp D nW s hT hd3 σ hs).mono ?_;clear hs;rintro r σ ⟨rfl,hs⟩;generalize B5 stp (BS k0 true) s=x at *;obtain⟨b1,s1⟩:=x;cases b1
      .conv=>whnf
       repeat'((first|apply st|(apply Y;clear Z B Y A)|(apply U;clear U K)|apply dr|clear U K)<;>conv=>whnf)
       exact AK ⟨rfl,hs⟩
      .conv=>whnf
       repeat'((first|apply st|apply dr|refine⟨kZ,?_⟩|refine Kh ?_|refine ld ?_|fail)<;>conv=>whnf)
       refine(i1 true S _ _ _ H stp D nW s1 hT (hd4 rfl) σ hs).mono ?_;clear hs;rintro r σ ⟨rfl,hs⟩
       conv=>whnf
       repeat'((first|apply st|(apply Y;clear Z B Y A)|(apply U;clear U K)|apply dr|clear U K)<;>conv=>whnf)
       exact AK ⟨rfl,hs⟩
     .have h6b:(f.op==6)=false:=by rw[h7];rfl
      have hct:c=false:=by rw[h7]at hap;cases c<;>simp_all
      subst hct
      conv=>whnf
      repeat'((first|apply st|(apply sq;intro K U)|(apply si;intro A B Y Z)|(apply Y;clear Z B Y A)|(apply U;clear U K)|apply dr|refine⟨rfl,?_⟩|refine⟨kZ,?_⟩|refine Kh ?_|refine ld ?_|refine FX ?_|refine hlB.use ?_|(rw[h6b])|(constructor<;>intro hc<;>(try rw[hc])<;>(replace hc:=bp hc)<;>try(exfalso;omega))|fail)<;>conv=>whnf)
      refine(i0 false S _ _ _ H stp D nW s hT hd3 σ hs).mono ?_;clear hs;rintro r σ ⟨rfl,hs⟩;generalize B5 stp (BS k0 false) s=x at *;obtain⟨b1,s1⟩:=x;cases b1
      .conv=>whnf
       repeat'((first|apply st|(apply Y;clear Z B Y A)|(apply U;clear U K)|apply dr|clear U K)<;>conv=>whnf)
       exact AK ⟨rfl,hs⟩
      .conv=>whnf
       repeat'((first|apply st|apply dr|refine⟨kZ,?_⟩|refine Kh ?_|refine ld ?_|fail)<;>conv=>whnf)
       refine(i1 false S _ _ _ H stp D nW s1 hT (hd4 rfl) σ hs).mono ?_;clear hs;rintro r σ ⟨rfl,hs⟩
       conv=>whnf
       repeat'((first|apply st|(apply Y;clear Z B Y A)|(apply U;clear U K)|apply dr|clear U K)<;>conv=>whnf)
       exact AK ⟨rfl,hs⟩
    .rw[if_neg hap]at hd hcs
     have hcs2:BS f c=FG (BS k0 c) (BS k1 c):=hcs;have hd2:P9 stp D (FG (BS k0 c) (BS k1 c)) s:=hd;have hd3:=VB _ hd2;have hT2:=im hT hk (c:=c) (hnk k0 hkm0) (hnk k1 hkm1) (by omega) (by omega) i1;rw[hcs2,Rt];clear hcs hcs2 hd hd2;rcases h67 with h6|h7
     .have h6b:(f.op==6)=true:=by rw[h6];rfl
      have hct:c=false:=by rw[h6]at hap;cases c<;>simp_all
      subst hct
      conv=>whnf
      repeat'((first|apply st|(apply sq;intro K U)|(apply si;intro A B Y Z)|(apply Y;clear Z B Y A)|(apply U;clear U K)|apply dr|refine⟨rfl,?_⟩|refine⟨kZ,?_⟩|refine Kh ?_|refine ld ?_|refine Es ?_|refine hlB.use ?_|(rw[h6b])|(constructor<;>intro hc<;>(try rw[hc])<;>(replace hc:=bp hc)<;>try(exfalso;omega))|fail)<;>conv=>whnf)
      refine(i0 false S _ _ _ H _ _ nW s hT2 (Ny (fun y hy=>hy) hd3) σ hs).mono ?_;clear hs;rintro r σ ⟨rfl,hs⟩
      conv=>whnf
      repeat'((first|apply st|(apply Y;clear Z B Y A)|(apply U;clear U K)|apply dr|fail)<;>conv=>whnf)
      exact AK ⟨rfl,hs⟩
     .have h6b:(f.op==6)=false:=by rw[h7];rfl
      have hct:c=true:=by rw[h7]at hap;cases c<;>simp_all
      subst hct
      conv=>whnf
      repeat'((first|apply st|(apply sq;intro K U)|(apply si;intro A B Y Z)|(apply Y;clear Z B Y A)|(apply U;clear U K)|apply dr|refine⟨rfl,?_⟩|refine⟨kZ,?_⟩|refine Kh ?_|refine ld ?_|refine Es ?_|refine hlB.use ?_|(rw[h6b])|(constructor<;>intro hc<;>(try rw[hc])<;>(replace hc:=bp hc)<;>try(exfalso;omega))|fail)<;>conv=>whnf)
      refine(i0 true S _ _ _ H _ _ nW s hT2 (Ny (fun y hy=>hy) hd3) σ hs).mono ?_;clear hs;rintro r σ ⟨rfl,hs⟩
      conv=>whnf
      repeat'((first|apply st|(apply Y;clear Z B Y A)|(apply U;clear U K)|apply dr|fail)<;>conv=>whnf)
      exact AK ⟨rfl,hs⟩
def qv {w:AJ} (f:Fact) (hn:BT w f=true) (hv:lv f<=100) (c:Bool) {S:Type} {fn:Fn} {fi ca:List V} {H:S->List At} {stp:List Fact->S->Bool×S} {D:List Fact->S->Prop} {s:S} (hT: ∀nW,Qg (.f fn fi ca) (fun s=> .box nW [UH nW]::H s) stp D) (hd:P9 stp D (BS f c) s) (σ:AH) (hs:Sat σ (H s)) :
    As Tryz.prog 186 [.f fn fi ca,.rp (xF f),.rp [.b c]] σ fun r σ'=>r= .ret (.t [])/\Sat σ' (H (B5 stp (BS f c) s).2):=by
 refine tJ kZ ?_
 conv=>whnf
 repeat'((first|apply st|(apply sq;intro K U)|(apply si;intro A B Y Z)|(apply Y;clear Z B Y A)|(apply U;clear U K)|refine⟨kZ,?_⟩|refine ld ?_|refine EK fun σ hs=>?_|(intro nn hnn;generalize hg:A6 _ nn _=σ;refine Ci hg fun hs=>?_;clear hg)|fail)<;>conv=>whnf)
 refine(jx f hn hv c S fn fi ca H stp D nn s (hT nn) hd σ hs).mono ?_;clear hs;rintro r σ ⟨rfl,hs⟩
 conv=>whnf
 repeat'((first|(apply Y;clear Z B Y A)|fail)<;>conv=>whnf)
 exact AK ⟨rfl,hs.less (Mz _ _)⟩
def iu (f:Fact) (c:Bool):Pure Tryz.prog 126 [.a (xF f),.b c] (.f (.func 186) [] [.rp (xF f),.rp [.b c]]):=by
 refine tk kZ ?_;have hs:=Sn
 conv=>whnf
 repeat'((first|apply st|(apply sq;intro K U)|(apply si;intro A B Y Z)|(apply Y;clear Z B Y A)|(apply U;clear U K)|fail)<;>conv=>whnf)
 all_goals exact AS rfl
abbrev OB (w:AJ) (l:List Fact) (s:Bool):Bool×Bool:=if Fg w l then(false,true)else(true,s)
def Vk {w:AJ}: ∀(cs:List (List Fact)),B5 (OB w) cs false=(!cs.any (Fg w),cs.any (Fg w))
 | []=>rfl
 | l::r=>by
   rw[B5,QB];simp only[OB];cases h:Fg w l
   .simpa using Vk r
   .rfl
def Y0 {w:AJ} {AD:List Fact->Prop}: ∀ {cs:List (List Fact)},(∀l∈cs,AD l)->P9 (OB w) (fun l s=>s=false/\AD l) cs false
 | [],_=>trivial
 | l ::r,h=>⟨⟨rfl,h l (.head _)⟩,fun hy=>by
     cases ht:Fg w l
     .have e:(OB w l false).2=false:=by simp[OB,ht]
      rw[e];exact Y0 fun x hx=>h x (.tail _ hx)
     .simp[OB,ht]at hy⟩
abbrev uI (w:AJ) (L:Nat) (E:Env) (ok:FuncId->Array Tmp->Code->Code->Nat->Prop) (nF:Nat):Prop:=
 MT Tryz.prog L E ok (fun(x:List Fact×Bool)=>[Jx x.1 x.2]) (fun s:Bool=>[.box nF [.b s]]) (fun _=>True) (fun x s=>if Fg w x.1 then .stop (.exit 0) true else .go s) (fun x s=>s=false/\(∀y∈x.1,C1 w y)/\x.1.length<900)
def lz {w:AJ} (f:Fact) (hn:BT w f=true) (hv:lv f<=100) {L:Nat} {E:Env} {ok:FuncId->Array Tmp->Code->Code->Nat->Prop} {nF:Nat} (hY:uI w L E ok nF) (σ:AH) (hs:Sat σ [.obj L (.loop .ready E ok),.box nF [.b false]]) :
    As Tryz.prog 186 [.f (.yield L) [] [],.rp (xF f),.rp [.b false]] σ fun r σ'=>r= .ret (.t [])/\Sat σ' [.obj L (.loop (if Wi w f then .exit 0 else .ready) E ok),.box nF [.b (Wi w f)]]:=by
 have hg:=qv f hn hv false (fn:= .yield L) (fi:=[]) (ca:=[]) (H:=fun s:Bool=>[.obj L (.loop (if s then .exit 0 else .ready) E ok),.box nF [.b s]]) (stp:=OB w) (D:=fun l s=>s=false/\(∀y∈l,C1 w y)/\l.length<900) (s:=false) (by
  rintro nW b l s ⟨rfl,hl,hlen⟩ σ hs;refine hY.use (y:=(l,b)) (s:=false) ⟨rfl,hl,hlen⟩ (rest:=[.box nW [UH nW]]) (hs.perm (IX _ _ _ _)) ?_;intro r σ' hq;cases ht:Fg w l
  .simp only[ht,Kc,if_false]at hq
   obtain⟨rfl,hs'⟩:=hq;have e:OB w l false=(true,false):=by simp[OB,ht]
   rw[e];exact⟨rfl,hs'.perm (IX _ _ _ _).symm⟩
  .simp only[ht,if_true]at hq
   obtain⟨rfl,hs'⟩:=hq;have e:OB w l false=(false,true):=by simp[OB,ht]
   rw[e]
   exact⟨rfl,hs'.perm (IX _ _ _ _).symm⟩) (Y0 fun l hl=>⟨Df f hn false l hl,by have:=(KW f (By _ hn) false).2 l hl;omega⟩) σ hs
 rw[Vk]at hg;exact hg
def tz (w:AJ) (hw:CY w) (f:Fact) (hn:BT w f=true) (hv:lv f<=100):Pure Tryz.prog 125 [.rp (wC w (BQ w.parents)),.a (xF f)] (.b (Wi w f)):=by
 refine Pure.of ?_;refine tl kZ ?_;have hs:=Sn
 conv=>whnf
 repeat'((first|apply st|(apply sq;intro K U)|(apply si;intro A B Y Z)|(apply Y;clear Z B Y A)|(apply U;clear U K)|refine⟨kZ,?_⟩|refine EK fun σ hs=>?_|refine Pure.use (iu _ _) ?_|(intro nn hnn;generalize hg:A6 _ nn _=σ;refine Ci hg fun hs=>?_;clear hg)|fail)<;>conv=>whnf)
 rename_i _ nF hnF _ _ _ _;refine As.mono (lz (w:=w) f hn hv (L:=nn) (nF:=nF) ?_ σ hs) ?_
 .refine NG (fun y=>rfl) ?_
  clear hs hnn hnF;rintro⟨l,b⟩ s ⟨rfl,hl,hlen⟩ rest σ hs;dsimp only at hl hlen;have htg:=Vv w hw l b hl hlen;dsimp only;cases ht:Fg w l<;>rw[ht]at htg
  .conv=>whnf
   repeat'((first|apply st|(apply sq;intro K U)|(apply si;intro A B Y Z)|(apply Y;clear Z B Y A)|(apply U;clear U K)|refine htg.use ?_|clear U K)<;>conv=>whnf)
   intro hn;exact U4 (H:=fun s:Bool=>[.box nF [.b s]]) (J:=fun _=>True) (s:=false) rfl hs hn
  .conv=>whnf
   repeat'((first|apply st|(apply sq;intro K U)|(apply si;intro A B Y Z)|(apply Y;clear Z B Y A)|(apply U;clear U K)|refine EK fun σ hs=>?_|refine htg.use ?_|clear U K)<;>conv=>whnf)
   intro hn;exact XZ (H:=fun s:Bool=>[.box nF [.b s]]) (J:=fun _=>True) (s:=true) (st:= .exit 0) rfl hs hn
 .clear hs hnn hnF
  cases hp:Wi w f
  .rintro r σ ⟨rfl,hs⟩
   refine Io hs fun σ hs=>?_
   conv=>whnf
   repeat'((first|apply st|(apply sq;intro K U)|(apply si;intro A B Y Z)|(apply Y;clear Z B Y A)|(apply U;clear U K)|refine ld ?_|fail)<;>conv=>whnf)
   exact AK (by rw[hp])
  .rintro r σ ⟨rfl,hs⟩
   refine Xc hs fun σ hs=>?_
   conv=>whnf
   repeat'((first|apply st|(apply sq;intro K U)|(apply si;intro A B Y Z)|(apply Y;clear Z B Y A)|(apply U;clear U K)|refine ld ?_|fail)<;>conv=>whnf)
   exact AK (by rw[hp])
def qG (f:Fact):Pure Tryz.prog 224 [.a (xF f)] (.a (xF (Ea f))):=by
 refine sh kZ ?_;have hs:=Sn
 conv=>whnf
 repeat'((first|apply st|(apply sq;intro K U)|(apply si;intro A B Y Z)|(apply Y;clear Z B Y A)|(apply U;clear U K)|refine⟨kZ,?_⟩|refine ld ?_|refine sn fun σ hs=>?_|(intro nn hnn;generalize hg:A6 _ nn _=σ;refine al hg fun hs=>?_;clear hg)|fail)<;>conv=>whnf)
 refine B3 (.a (.cons (.refl _) (.cons (.refl _) (.cons TI (.cons (.refl _) (.cons (.refl _) (.cons ?_ .nil)))))));refine .l (fun h=>by cases h) ?_;simp only[Ea,Fact.kids,List.map,CT];exact JW _
def uE (f g:Fact):Pure Tryz.prog 295 [.a (xF f),.a (xF g)] (.a (xF (QK f g))):=by
 refine r6 kZ ?_;have hs:=Sn
 conv=>whnf
 repeat'((first|apply st|(apply sq;intro K U)|(apply si;intro A B Y Z)|(apply Y;clear Z B Y A)|(apply U;clear U K)|refine⟨kZ,?_⟩|refine ld ?_|refine sn fun σ hs=>?_|(intro nn hnn;generalize hg:A6 _ nn _=σ;refine al hg fun hs=>?_;clear hg)|fail)<;>conv=>whnf)
 refine B3 (.a (.cons (.refl _) (.cons (.refl _) (.cons TI (.cons (.refl _) (.cons (.refl _) (.cons ?_ .nil)))))));refine .l (fun h=>by cases h) ?_;simp only[QK,Fact.kids,List.map,CT];exact JW _
def Xr (w:AJ) (hw:CY w) (a b:Fact) (ha:BT w a=true) (hb:BT w b=true) (hl:lv a+lv b<=100):Pure Tryz.prog 229 [.rp (wC w (BQ w.parents)),.a (xF a),.a (xF b)] (.b (T6 w a b)):=by
 have hcan:=tz w hw (QK a (Ea b)) (VD ha hb) (by rw[qX];exact hl);refine sf kZ ?_;have hs:=Sn
 conv=>whnf
 repeat'((first|apply st|(apply sq;intro K U)|(apply si;intro A B Y Z)|(apply Y;clear Z B Y A)|(apply U;clear U K)|apply dr|refine rk ?_ ?_|exact fun s e=>by cases e;rfl|refine⟨kZ,?_⟩|refine Pure.use (qG _) ?_|refine Pure.use (uE _ _) ?_|refine hcan.use ?_|fail)<;>conv=>whnf)
 all_goals exact AS rfl
def cN (w:AJ) (hw:CY w) (a b:Fact) (ha:EM w a=true) (hb:EM w b=true) (hna:BT w a=true) (hnb:BT w b=true) (hl:lv a+lv b<=100):Pure Tryz.prog 338 [.a (CW w),.a (xF a),.a (xF b)] (.t [.b (T6 w a b),eI 0]):=by
 have hrd: ∀f,Pure Tryz.prog 118 [.a (CW w),.l [xF a,xF b] f] (.t [.rp (wC w (BQ w.parents)),.b true]):=fun f=>by
  have:=Yq w hw [a,b] f (by simp);rw[show([a,b].all (Ks w))=true by simp[ZJ,ha,hb]]at this;simpa[CT]using this
 have hip:=Xr w hw a b hna hnb hl;refine rS kZ ?_;have hs:=Sn
 conv=>whnf
 repeat'((first|apply st|(apply sq;intro K U)|(apply si;intro A B Y Z)|(apply Y;clear Z B Y A)|(apply U;clear U K)|refine⟨kZ,?_⟩|refine Es ?_|refine Pure.use (hrd _) ?_|refine hip.use ?_|fail)<;>conv=>whnf)
 all_goals exact AS rfl
attribute [local irreducible] G5
def wx (p:Prog) (nO:Nat) (r:R) (post:List At):Prop:=
 match Bf p with
 | some s=>r= .ret (.t [])/\ ∃v,post= [.box nO [v],.own v 1 (iL s)]
 | none=>r= .BZ Db/\ ∃v s,post= [.box nO [v],.own v 1 (iL s)]
def aU (p:Prog) (nO:Nat):BK Tryz.prog 281 [.rp (Ba p),.p nO 0] [.box nO [.l [] true]] (wx p nO):=fun σ hs=>
 As.mono (gY p nO σ hs) fun r σ' hq=>by
  unfold uP at hq;unfold wx;cases h:Bf p with
  | some s=>
    rw[h]at hq;obtain⟨h1,v,h2⟩:=hq;exact⟨_,⟨h1,v,rfl⟩,h2⟩
  | none=>
    rw[h]at hq;obtain⟨h1,v,s,h2⟩:=hq;exact⟨_,⟨h1,v,s,rfl⟩,h2⟩
def mY {σ:AH} {n:Nat} {x:V} {rest:List At} (hs:Sat σ (.box n [x]::rest)) {Q:AH->Prop} (hq: ∀σ',Sat σ' (.box n [.b false]::rest)->Q σ'):G5 Tryz.prog 322 [.p n 0] (some Db) σ Q:=by
 refine ZS kZ ?_
 conv=>whnf
 repeat'((first|apply st|(apply sq;intro K U)|(apply si;intro A B Y Z)|(apply Y;clear Z B Y A)|(apply U;clear U K)|refine EK fun σ hs=>?_|refine Di fun σ hs=>?_|refine Es ?_|refine oh rfl ?_|(intro nn hnn;generalize hg:A6 _ nn _=σ;refine Ci hg fun hs=>?_;clear hg)|fail)<;>conv=>whnf)
 exact hq _ (hs.less (Mz _ _))
def mZ {σ:AH} {n:Nat} {x:V} {rest:List At} (hs:Sat σ (.box n [x]::rest)) {Q:AH->Prop} (hq: ∀σ',Sat σ' (.box n [x]::rest)->Q σ'):G5 Tryz.prog 322 [.p n 0] none σ Q:=by
 refine ZS kZ ?_
 conv=>whnf
 repeat'((first|apply st|(apply sq;intro K U)|(apply si;intro A B Y Z)|(apply Y;clear Z B Y A)|(apply U;clear U K)|refine Es ?_|fail)<;>conv=>whnf)
 exact hq _ hs
def ba (p:Prog) (nO:Nat):BK Tryz.prog 280 [.f (.func 281) [] [.rp (Ba p),.p nO 0]] [.box nO [.l [] true]] fun r post=>r= .ret (.b (Bf p).isSome)/\ ∃v s,post= [.box nO [v],.own v 1 (iL s)]/\(Bf p=none\/Bf p=some s):=by
 intro σ hs;refine sI kZ ?_
 conv=>whnf
 repeat'((first|(apply sq;intro K U)|(apply si;intro A B Y Z)|(apply Y;clear Z B Y A)|(apply U;clear U K)|(intro nn hnn;generalize hg:A6 _ nn _=σ;refine Ci hg fun hs=>?_;clear hg)|fail)<;>conv=>whnf)
 refine BD ?_;refine(aU p nO).use (rest:=[.box nn [.b false]]) (hs.perm (.swap _ _ _)) ?_;clear hs hnn;rintro r post σ hq hs;unfold wx at hq;cases h:Bf p with
 | none=>
   rw[h]at hq;obtain⟨rfl,v,s,rfl⟩:=hq
   conv=>whnf
   repeat'((first|(refine Z _ _ _ ?_;clear Z B Y A)|clear U K)<;>conv=>whnf)
   refine mY (rest:=[.box nO [v],.own v 1 (iL s)]) (hs.perm Np) fun σ hs=>?_
   conv=>whnf
   repeat'((first|refine ld ?_|fail)<;>conv=>whnf)
   exact AK ⟨_,⟨by rw[h];rfl,v,s,rfl,.inl h⟩,hs.less (Mz _ _)⟩
 | some s=>
   rw[h]at hq;obtain⟨rfl,v,rfl⟩:=hq
   conv=>whnf
   repeat'((first|apply st|(apply sq;intro K U)|(apply si;intro A B Y Z)|(apply Y;clear Z B Y A)|(apply U;clear U K)|refine EK fun σ hs=>?_|fail)<;>conv=>whnf)
   replace hs:Sat σ ([.box nO [v],.own v 1 (iL s)]++[.box nn [.b true]]):=hs;refine mZ (x:= .b true) (rest:=[.box nO [v],.own v 1 (iL s)]) (hs.perm Np) fun σ hs=>?_
   conv=>whnf
   repeat'((first|refine ld ?_|fail)<;>conv=>whnf)
   exact AK ⟨_,⟨by rw[h];rfl,v,s,rfl,.inr h⟩,hs.less (Mz _ _)⟩
def gZ (p:Prog):BK Tryz.prog 222 [.a (Ba p)] [] fun r post=> ∃v s,r= .ret (.t [v,.b (Bf p).isSome])/\post= [.own v 1 (iL s)]/\(Bf p=none\/Bf p=some s):=by
 intro σ hs;refine sm kZ ?_
 conv=>whnf
 repeat'((first|(apply sq;intro K U)|(apply si;intro A B Y Z)|(apply Y;clear Z B Y A)|(apply U;clear U K)|(intro nn hnn;generalize hg:A6 _ nn _=σ;refine Ci hg fun hs=>?_;clear hg)|fail)<;>conv=>whnf)
 refine(ba p nn).use (rest:=[]) (by simpa using hs) ?_;clear hs;rintro r post σ ⟨rfl,v,s,rfl,hl⟩ hs
 conv=>whnf
 repeat'((first|apply st|(apply sq;intro K U)|(apply si;intro A B Y Z)|(apply Y;clear Z B Y A)|(apply U;clear U K)|refine ld ?_|fail)<;>conv=>whnf)
 exact AK ⟨_,⟨v,s,rfl,rfl,hl⟩,hs.less (.cons _ (.cons₂ _ (QV _)))⟩
def Vt (p:Prog):Pure Tryz.prog 150 [.a (Ba p)] (eI (if(Bf p).isSome then 0 else 2)):=by
 refine Pure.of ?_;have hz:=gZ p;cases h:(Bf p).isSome<;>rw[h]at hz
 all_goals
  refine tW kZ ?_;have hs:=Sn
  conv=>whnf
  repeat'((first|apply st|(apply sq;intro K U)|(apply si;intro A B Y Z)|(apply Y;clear Z B Y A)|(apply U;clear U K)|refine⟨kZ,?_⟩|fail)<;>conv=>whnf)
  refine hz.use (rest:=[]) (by simpa using hs) ?_;clear hs;rintro r post σ ⟨v,s,rfl,rfl,-⟩ hs
  conv=>whnf
  repeat'((first|apply st|(apply sq;intro K U)|(apply si;intro A B Y Z)|(apply Y;clear Z B Y A)|(apply U;clear U K)|refine FX ?_|refine Es ?_|clear U K)<;>conv=>whnf)
  exact AK rfl
def vX {p:Prog} (h:(Bf p).isSome=true):CX p.AZ<=40:=by
 obtain⟨hh,-⟩:=Ft h;simp only[Fb,A8,Cm]at hh;exact(LY hh.1).2.1
def uA {p:Prog} (h:(Bf p).isSome=true):p.AZ.length<=10:=by
 obtain⟨hh,-⟩:=Ft h;simp only[Fb,A8,Cm]at hh;exact(LY hh.1).2.2
def Qd {p:Prog} (h:(Bf p).isSome=true):CY (AT p):=by
 obtain⟨hh,-⟩:=Ft h;simp only[Fb,A8,Cm]at hh;exact(LY hh.1).1
def Zh (p:Prog):Pure Tryz.prog 92 [.a (Ba p)] (if(Bf p).isSome then .t [.a (CW (AT p)),eI 0]else .t [.a [.l [] true,.l [] true],eI 2]):=by
 have hz:=Vt p;have hM:=Mx;cases h:(Bf p).isSome<;>rw[h]at hz
 .simp only[Kc,if_false]at hz ⊢
  refine oD kZ ?_;have hs:=Sn
  conv=>whnf
  repeat'((first|apply st|(apply sq;intro K U)|(apply si;intro A B Y Z)|(apply Y;clear Z B Y A)|(apply U;clear U K)|refine⟨rfl,?_⟩|refine⟨kZ,?_⟩|refine ld ?_|refine Di fun σ hs=>?_|refine hz.use ?_|(constructor<;>intro hc<;>(try rw[hc])<;>(replace hc:=bp hc)<;>try(exfalso;omega))|(intro nn hnn;generalize hg:A6 _ nn _=σ;refine Ci hg fun hs=>?_;clear hg)|clear U K)<;>conv=>whnf)
  all_goals exact AS rfl
 .simp only[if_true]at hz ⊢
  have hm:=vX h;have hc10:=uA h;refine oD kZ ?_;have hs:=Sn
  conv=>whnf
  repeat'((first|apply st|(apply sq;intro K U)|(apply si;intro A B Y Z)|(apply Y;clear Z B Y A)|(apply U;clear U K)|refine⟨rfl,?_⟩|refine⟨kZ,?_⟩|refine ld ?_|refine Di fun σ hs=>?_|refine hz.use ?_|refine Pure.use (Uk p (by omega) (by omega)) ?_|(constructor<;>intro hc<;>(try rw[hc])<;>(replace hc:=bp hc)<;>(try simp(disch:=omega) only[Bu,wrap64,AV]at hc)<;>try(exfalso;omega))|(intro nn hnn;generalize hg:A6 _ nn _=σ;refine Ci hg fun hs=>?_;clear hg)|fail)<;>conv=>whnf)
  all_goals exact AS rfl
end Go.Gl
namespace Go.Gl
open Go.Proofs
attribute [local irreducible] As Am Ac AQ AM Ab AP AR AL Aa AN AO Ao Ax Sat AW Au Ad W
abbrev rkC (p:Prog) (L:Nat):List V:=Ba p++(CW (AT p)++[.m L])
abbrev R1 (p:Prog) (L:Nat):V:= .rp (rkC p L)
abbrev kM (x:Int×Int):V:= .a [eI x.1,eI x.2]
def Jv (p:Prog) (M:List (Int×Int)):List (V×V):=M.map fun x=>(kM x,.b (Ja p x.1 x.2))
def O2 (p:Prog) (M:List (Int×Int)): ∀kv∈Jv p M,BI (.a [.i64,.i64]) kv.1=true:=by
 intro kv h;obtain⟨e,_,rfl⟩:=Iz.1 h;rfl
def nt (x y:Int×Int):DZ (kM x) (kM y)=(x==y):=by
 obtain⟨a,b⟩:=x;obtain⟨c,d⟩:=y;have e:DZ (kM (a,b)) (kM (c,d))=(a==c&&b==d):=by simp[DZ,Bp,kM]
 rw[e];rfl
def VH (p:Prog) (x:Int×Int): ∀(M:List (Int×Int)),CU (kM x) (Jv p M)=if M.contains x then some (.b (Ja p x.1 x.2))else none
 | []=>rfl
 | y ::r=>by
   rw[Jv,E4,CU,nt,List.contains_cons];cases h:x==y
   .rw[cond_false,Bool.false_or]
    exact VH p x r
   .rw[cond_true,Bool.true_or,if_pos rfl]
    have:x=y:=by simpa using h
    rw[this]
def Y4 (p:Prog) (x:Int×Int): ∀(M:List (Int×Int)),M.contains x=false->DA (kM x) (.b (Ja p x.1 x.2)) (Jv p M)=Jv p (M++[x])
 | [],_=>rfl
 | y::r,h=>by
   rw[List.contains_cons,Bool.or_eq_false_iff]at h;have ih:=Y4 p x r h.2;simp only[Jv]at ih;rw[Jv,E4,DA,nt,h.1,cond_false,ih];rfl
def gg (p:Prog):BK Tryz.prog 114 [.a (Ba p)] [] fun r post=>if(Bf p).isSome then∃L,r= .ret (R1 p L)/\post= [.map L []]else r= .ret .pn/\post= []:=by
 intro σ hs;have hw:=Zh p;cases h:(Bf p).isSome<;>rw[h]at hw
 .simp only[Kc,if_false]at hw ⊢
  refine fW kZ ?_
  conv=>whnf
  repeat'((first|apply st|(apply sq;intro K U)|(apply si;intro A B Y Z)|(apply Y;clear Z B Y A)|(apply U;clear U K)|refine⟨rfl,?_⟩|refine⟨kZ,?_⟩|refine Di fun σ hs=>?_|refine hw.use ?_|(constructor<;>intro hc<;>(try rw[hc])<;>(replace hc:=bp hc)<;>try(exfalso;omega))|(intro nn hnn;generalize hg:A6 _ nn _=σ;refine Ci hg fun hs=>?_;clear hg)|clear U K)<;>conv=>whnf)
  exact AK ⟨_,⟨rfl,rfl⟩,hs.less (QV _)⟩
 .simp only[if_true]at hw ⊢
  refine fW kZ ?_
  conv=>whnf
  repeat'((first|apply st|(apply sq;intro K U)|(apply si;intro A B Y Z)|(apply Y;clear Z B Y A)|(apply U;clear U K)|refine⟨rfl,?_⟩|refine⟨kZ,?_⟩|refine ld ?_|refine Di fun σ hs=>?_|refine hw.use ?_|(constructor<;>intro hc<;>(try rw[hc])<;>(replace hc:=bp hc)<;>(try simp(disch:=omega) only[Bu,wrap64,AV]at hc)<;>try(exfalso;omega))|(intro nn hnn;generalize hg:A6 _ nn _=σ;refine Ci hg fun hs=>?_;clear hg)|fail)<;>conv=>whnf)
  exact AK ⟨_,⟨nn,rfl,rfl⟩,hs.less (.cons₂ _ (QV _))⟩
def vj (p:Prog) (L:Nat) (m:Int):Pure Tryz.prog 317 [eI m,.rp [R1 p L]] (.b (!Bc p m)):=by
 refine rb kZ ?_;have hs:=Sn
 conv=>whnf
 repeat'((first|apply st|(apply sq;intro K U)|(apply si;intro A B Y Z)|(apply Y;clear Z B Y A)|(apply U;clear U K)|refine⟨rfl,?_⟩|(constructor<;>intro hc<;>(try rw[hc])<;>(replace hc:=bp hc))|fail)<;>conv=>whnf)
 .refine AS ?_
  have e1:decide (0<=m)=true:=decide_eq_true hc;rw[Bc,e1,D2,Bu];show V.b (decide (m≥(p.methods.length:Int)))=_;by_cases hl:m<(p.methods.length:Int)
  .rw[decide_eq_true hl,decide_eq_false (by omega)];rfl
  .rw[decide_eq_false hl,decide_eq_true (by omega)];rfl
 .refine AS ?_
  rw[Bc,decide_eq_false (by omega)];rfl
def Nl {g:FuncId} {fi ca:List V} {f:Int->Bool} {xs:List Int} (b:Bool) (h: ∀y∈xs,Pure Tryz.prog g (fi++[eI y]++ca) (.b (f y))):Pure Tryz.prog 49 [.l (iL xs) b,.f (.func g) fi ca] (.b (xs.any f)):=by
 have:=GF g fi ca (fun _=>[]) (fun y (_:Unit)=>(f y,())) (fun y _=>y∈xs) (PS fun y hy=>h y hy) xs b () (Gk fun y hy _=>hy);rw[La]at this;exact Pure.of (As.mono (this emp Sat.nil) fun r σ' ⟨post,⟨h1,h2⟩,h3⟩=>h1)
def vo (p:Prog) (L:Nat) (l:List Int) (b:Bool):Pure Tryz.prog 272 [R1 p L,.l (iL l) b] (.b (l.all (Bc p))):=by
 have hc:=fun b=>Nl (g:=317) (fi:=[]) (ca:=[.rp [R1 p L]]) (f:=fun m=> !Bc p m) (xs:=l) b fun y _=>vj p L y
 refine fO kZ ?_;have hs:=Sn
 conv=>whnf
 repeat'((first|apply st|(apply sq;intro K U)|(apply si;intro A B Y Z)|(apply Y;clear Z B Y A)|(apply U;clear U K)|refine Pure.use (hc _) ?_|fail)<;>conv=>whnf)
 all_goals exact AS (by rw[List.all_eq_not_any_not];rfl)
def qm (l:List Int) (b:Bool):Pure Tryz.prog 272 [.pn,.l (iL l) b] (.b false):=by
 refine fO kZ ?_;have hs:=Sn
 conv=>whnf
 repeat'((first|apply st|(apply sq;intro K U)|(apply si;intro A B Y Z)|(apply Y;clear Z B Y A)|(apply U;clear U K)|refine Es ?_|fail)<;>conv=>whnf)
 all_goals exact AS rfl
def m9 (p:Prog) (L:Nat) (m n:Int) (hm:Bc p m=true) (hn:Bc p n=true):Pure Tryz.prog 273 [R1 p L,eI m,eI n] (.b (KA p m n)):=by
 refine Pure.fit (by kernel_rfl) fun hf=>?_
 have hxm:=C0 hm;have hxn:=C0 hn;simp only[Bc,A8,Cm]at hm hn;refine sL kZ ?_;have hs:=Sn
 conv=>whnf
 repeat'((first|apply st|(apply sq;intro K U)|(apply si;intro A B Y Z)|(apply Y;clear Z B Y A)|(apply U;clear U K)|apply dr|refine rk ?_ ?_|exact fun s e=>by cases e;rfl|refine⟨rfl,?_⟩|refine⟨kZ,?_⟩|refine Kf ?_|refine ld ?_|refine Di fun σ hs=>?_|(constructor<;>intro hc<;>(try rw[hc])<;>(replace hc:=bp hc))|(intro nn hnn;generalize hg:A6 _ nn _=σ;refine Ci hg fun hs=>?_;clear hg)|fail)<;>conv=>whnf)
 all_goals exact AS (by simp[KA, *])
def mG {p:Prog} (h:(Bf p).isSome=true): ∀x∈p.methods,EM (AT p) x.fact=true:=fun x hx=>by
 have:=(Ft h).2 x hx;simp only[Wd,A8]at this;exact this.2.2.2.2.1
structure Zx (T:List (List Bool)) (l:List Int):Prop where
 len:T.length<=16
 sq: ∀r∈T,r.length=T.length
 ins: ∀x∈l,0<=x/\x<(T.length:Int)
 many:l.length<=16
def NW (A:Int->Int->Bool) (l:List Int) (i k:Nat):Bool:=(List.range k).all fun j=>j==i||A (l.getD i 0) (l.getD j 0)
def Og (A:Int->Int->Bool) (l:List Int):Option Nat:=(List.range l.length).find? fun i=>NW A l i l.length
def aK (A:Int->Int->Bool) (l:List Int) (i k:Nat):NW A l i (k+1)=(NW A l i k&&(k==i||A (l.getD i 0) (l.getD k 0))):=by
 rw[NW,List.range_succ,List.all_append,NW];simp
def E9 {l:List Int} {k:Nat} {x:Int} (h:l[k]? =some x):l.getD k 0=x:=by rw[Ds,h];rfl
def C2 (A:Int->Int->Bool):Nat->List Int->List Int×Bool
 | 0,_=>([],false)
 | k+1,l=>match Og A l with
   | none=>([],!l.isEmpty)
   | some i=>(l.getD i 0::(C2 A k (l.eraseIdx i)).1,(C2 A k (l.eraseIdx i)).2)
def Zx.less {T:List (List Bool)} {l:List Int} (h:Zx T l) (i:Nat):Zx T (l.eraseIdx i):=
 ⟨h.len,h.sq,fun x hx=>h.ins x (List.mem_of_mem_eraseIdx hx),Nat.le_trans (List.length_eraseIdx_le _ _) h.many⟩
def Na (x:Int) (out:List Int):List Int:=out.takeWhile (fun y=>decide (y<x))++x::out.dropWhile (fun y=>decide (y<x))
def Je (l:List Int):List Int:=l.foldl (fun out x=>Na x out) []
def Z2 (A:Int->Int->Bool) (l:List Int) (i k:Nat):Bool:=(List.range k).all fun j=> !A (l.getD j 0) (l.getD i 0)
def Wl (A:Int->Int->Bool) (l:List Int):Option Nat:=(List.range l.length).find? fun i=>Z2 A l i l.length
def Ge (A:Int->Int->Bool):Nat->List Int->List Int
 | 0,_=>[]
 | k+1,l=>l.getD ((Wl A l).getD 0) 0::Ge A k (l.eraseIdx ((Wl A l).getD 0))
abbrev RW:=Nat×List Bool
def RN {l:List Int} {k:Nat} (h:k<l.length):l.getD k 0∈l:=by
 rw[Ds,ES h];exact List.getElem_mem h
structure ow (n:Nat) (R:List RW):Prop where
 len:R.length=n
 row: ∀r∈R,r.2.length=n
def ow.put {n:Nat} {R:List RW} {r:RW} (h:ow n R) {j k:Nat} {b:Bool} (hr:R[j]? =some r):ow n (R.set j (r.1,r.2.set k b)):=by
 refine⟨by rw[List.length_set];exact h.len,fun q hq=>?_⟩;rcases List.mem_or_eq_of_mem_set hq with hq|rfl
 .exact h.row q hq
 .rw[List.length_set];exact h.row r (Dm hr)
def find_congr {f g:Nat->Bool}: ∀ {l:List Nat},(∀x∈l,f x=g x)->l.find? f=l.find? g
 | [],_=>rfl
 | x::r,h=>by
   rw[List.find?_cons,List.find?_cons,h x (.head _),find_congr fun y hy=>h y (.tail _ hy)]
def O5 {x y:Int} {out:List Int}:y∈Na x out↔y=x\/y∈out:=by
 have h:=List.takeWhile_append_dropWhile (p:=fun y=>decide (y<x)) (l:=out);rw[Na];constructor
 .intro hy
  rcases Dr.1 hy with hy|hy
  .right;rw[<-h];exact NU _ hy
  .rcases Fq.1 hy with rfl|hy
   .exact .inl rfl
   .right;rw[<-h];exact M0 _ hy
 .rintro(rfl|hy)
  .exact M0 _ (.head _)
  .rw[<-h]at hy
   rcases Dr.1 hy with hy|hy
   .exact NU _ hy
   .exact M0 _ (.tail _ hy)
def Pr: ∀(l out:List Int) (y:Int),y∈l.foldl (fun out x=>Na x out) out↔y∈l\/y∈out
 | [],out,y=>by simp
 | x ::r,out,y=>by
   rw[List.foldl_cons,Pr r,O5,Fq];constructor
   .rintro(h|h|h)
    .exact .inl (.inr h)
    .exact .inl (.inl h)
    .exact .inr h
   .rintro((h|h)|h)
    .exact .inr (.inl h)
    .exact .inl h
    .exact .inr (.inr h)
def aT {l:List Int} {y:Int}:y∈Je l↔y∈l:=by rw[Je,Pr];simp
structure SX (p:Prog) (l:List Int):Prop where
 Kp: ∀x∈l,Bc p x=true
 alike: ∀x∈l,∀y∈l,KA p x y=true
 many:l.length<=16
def jV (p:Prog) (l:List Int) (kd:Bool) (x:Int):Bool:=Bc p x&&((B1 p x).gen==(B1 p (l.getD 0 0)).gen&&(!kd||KA p x (l.getD 0 0)))
def Fa (p:Prog) (l:List Int) (kd:Bool):Bool:=l.all (jV p l kd)&&decide l.Nodup
def bG {p:Prog} {l:List Int} {kd:Bool} {i:Nat} {x:Int} (hx:l[i]? =some x) (h:jV p l kd x=false):Fa p l kd=false:=by
 rw[Fa,Bool.and_eq_false_iff];left;rw[<-Bool.not_eq_true,Dh];intro h2;rw[h2 x (Dm hx)]at h;cases h
def bF {p:Prog} {l:List Int} {kd:Bool} {i k:Nat} {x:Int} (hx:l[i]? =some x) (hk:l[k]? =some x) (h:k<i):Fa p l kd=false:=by
 rw[Fa,Bool.and_eq_false_iff];right;rw[decide_eq_false_iff_not];intro h2;have hi:=(JX.1 hx)
 have hj:=(JX.1 hk)
 have:=(List.nodup_iff_pairwise_ne.1 h2)
 rw[List.pairwise_iff_getElem]at this;exact this k i hj.1 hi.1 h (by rw[hj.2,hi.2])
def Xj {l:List Int} {i:Nat} {x:Int} (hx:l[i]? =some x) (h:(l.take i).Nodup) (hn: ∀k y,k<i->l[k]? =some y->y≠x):(l.take (i+1)).Nodup:=by
 rw[Ar hx,List.nodup_append];refine⟨h,by simp,fun a ha b hb=>?_⟩;rw[My.1 hb];obtain⟨k,hk⟩:=List.getElem?_of_mem ha;rw[List.getElem?_take]at hk;split at hk
 .exact hn k a (by assumption) hk
 .cases hk
def O1: ∀(n:Nat) (l:List Int),l.Nodup->(∀x∈l,0<=x/\x<(n:Int))->l.length<=n
 | 0,l,_,h=>by
   cases l with
   | nil=>simp
   | cons x r=>have:=h x (.head _);omega
 | n + 1,l,hn,h=>by
   have h1:=O1 n (l.erase (n:Int)) (hn.erase _) fun x hx=>by
    have hm:=(List.Nodup.mem_erase_iff hn).1 hx;have:=h x hm.2;have:=hm.1;omega
   have h2:=List.length_erase (a:=(n:Int)) (l:=l);split at h2<;>omega
abbrev pI (p:Int×Int):List V:=[eI p.1,eI p.2]
abbrev pP (l:List (Int×Int)):List (List V):=l.map pI
def jo (p:Prog) (g:Int):Bool:=decide (0<=g)&&decide (g<(p.EV.length:Int))
abbrev Ob:=Int×List (Int×Int)
abbrev eOb (o:Ob):List V:=[eI o.1,.l (pP o.2) false]
end Go.Gl
namespace Go.Gl
open Go.Proofs
section
variable {H:Type} {enc:TypeId×Value->H} {W:World}
end
section
variable {H:Type} {enc:TypeId×Value->H} {W:World}
end
end Go.Gl
namespace Go.Proofs.YtegbmnmnaijioaaGreat
open Go.Gl Go.ChangeShapes Go.WideShapes Go.ChangeAt Go.RowKit
theorem own:ownKnob Tryz.prog.godebug=none:=by kernel_rfl
def laidOut:laidOutB Tryz.prog=true:=by kernel_rfl
def EX {a b:Bool} (h1:a=true) (h2:b=true):(a&&b)=true:=by rw[h1,h2];rfl
abbrev HE (w:World):=Hh (fun _=>False) emp w
def xL {w:World} {n:Int} (h:(Lit.int .i64 n).wf=true):Ag (HE w) (eI n) (.int .i64 n):=by
 simp only[Lit.wf,A8,Cm]at h;simp only[Ag];exact⟨trivial,h⟩
def vH {w:World} {cs:Array Value} {p:Prog} (hp:cs.toList.length=(Ba p).length/\BO (HE w) (fun i=>cs.toList[i]?) 0 (Ba p)):Ag (HE w) (.a (Ba p)) (.agg cs):=by
 simp only[Ag];exact⟨cs,rfl,by simpa using hp.1,by simpa using hp.2⟩
end Go.Proofs.YtegbmnmnaijioaaGreat
