import Derived.Test.YtinppljblkpedaaGreatU14
import Derived.Test.YtinppljblkpedaaGreatU20
import Derived.Test.YtinppljblkpedaaGreatU21
import Derived.Test.YtinppljblkpedaaGreatU22
import Derived.Test.YtinppljblkpedaaGreatU23
import Derived.Test.YtinppljblkpedaaGreatU24
import Derived.Test.YtinppljblkpedaaGreatU25
set_option linter.all false
set_option linter.defProp false
set_option maxHeartbeats 8000000
noncomputable section
namespace Go.Gl
open Go.Proofs
attribute [local irreducible] As Ag AY AQ AL AX AP AR AK AW AM AN Ai Ap Sat AT An AZ W
structure DC (w:AF) (kf:Int->List Int->Kn):Prop where
 ok: ∀a p,cC 1000 (kf a p)
 low: ∀a p,-1000000000<=(kf a p).low/\(kf a p).low<=1000000000
 short: ∀a p,2<=p.length->(kf a p).AI= []
 AI: ∀a p,∀s∈(kf a p).AI,0<=s/\s<w.owner.length
abbrev Hx (L:Nat) (pre post:List Bv) (e:Bv) (s:List Bv):List At:=
 .box e.b [eI e.k.low,eI e.k.high,e.vn,eU e.k.BO,eU e.k.Dm,.b e.k.whole,.b e.k.AV,e.vs]:: .own e.vn 1 (iL e.k.no)::IB L (pre++e::(post++s)) pre (post++s)
def yg {Z:AE} {L:Nat} {pre post:List Bv} {e:Bv} {s:List Bv} (h:Sat Z (BM L (pre++e::(post++s)))):Sat Z (.own e.vs 1 (iL e.k.AI)::Hx L pre post e s):=
 (HS (X:=[]) h).perm ((JH _ _ _ _).symm)
def sD {Z:AE} {L:Nat} {pre post:List Bv} {e:Bv} {s:List Bv} (h:Sat Z (.own e.vs 1 (iL e.k.AI)::Hx L pre post e s)):Sat Z (BM L (pre++e::(post++s))):=
 Dy (X:=[]) (e:=e) (e':=e) rfl rfl rfl (h.perm (JH _ _ _ _))
def OO (kf:Int->List Int->Kn) (L:Nat) (es:List Bv) (post:List At):Prop:= ∃es',Jc es es'/\Bj kf es'/\post=BM L es'
def pj (w:AF) (us:List Nat) {kf:Int->List Int->Kn} {L:Nat} {pre post:List Bv} {e:Bv} {a:Int} {p:List Int} (hp:p.length<2) :
    OV zP (.f (.func 338) [] [.rp [HF w us L],.rp (GD a p)]) eI (fun s=> .own e.vs 1 (iL e.k.AI)::Hx L pre post e s) (fun y=> !(kf a (p++[y])).AV) (fun s=>Bj kf (pre++e::(post++s))/\ ∀x∈s,x.k=k0) (fun _=>True):=by
 rintro y s - ⟨hj,hj0⟩ Z hs;refine A0 ?_;show As zP 338 ([]++[eI y]++[.rp [HF w us L],.rp (GD a p)]) Z _;refine u5 kZ ?_
 conv=>whnf
 repeat'((first|clear U K|apply st|(apply zk;intro K U)|refine zY ?_|refine rk ?_ ?_|exact fun s e=>by cases e;rfl|refine Pure.use (MZ a p y hp) ?_|fail)<;>conv=>whnf)
 refine(LP w us hj (a:=a) (p:=p++[y]) (by simp;omega)).use (rest:=[]) (by simpa using sD hs) ?_;clear hs;rintro r post' Z ⟨es4,e4,got,rfl,rfl⟩ hs;have hek4:=got.k;obtain⟨new,he4,hnew⟩:=got.ext;have hinv:=got.inv;obtain⟨pre4,post4,he5⟩:=List.append_of_mem got.mem;rw[D8,he5]at hs;replace hs:=HS (X:=[]) hs;refine zz ?_;(repeat clear U K);repeat intro K U
 refine AJ ⟨by rw[hek4],s++new,⟨?_,fun x hx=>?_⟩,?_⟩
 .rw[he4]at hinv
  simpa using hinv
 .rcases Dn.1 hx with hx|hx
  .exact hj0 x hx
  .exact hnew x hx
 .have h2:=Dy (X:=[]) (e:=e4) (e':=e4) rfl rfl rfl hs
  rw[<-he5,he4]at h2;refine yg ?_;simpa using h2
def po (w:AF) (us:List Nat) {kf:Int->List Int->Kn} (hr:DC w kf) {L:Nat} {es:List Bv} (h:Bj kf es) {a:Int} {p:List Int} (hp:p.length<=2) :
    BL zP 280 [HF w us L,B2 a p] (BM L es) fun r post=>r= .ret (.b (IF kf a p))/\OO kf L es post:=by
 intro Z hs;have hM:=Mx;refine vT kZ ?_;refine zz ?_;(repeat clear U K);repeat intro K U
 refine(LP w us h (a:=a) (p:=p) hp).use (rest:=[]) (by simpa using hs) ?_;clear hs;rintro r post Z ⟨es4,e4,got,rfl,rfl⟩ hs;have hek:=got.k;obtain⟨pre,post,rfl⟩:=List.append_of_mem got.mem;rw[D8]at hs;replace hs:=HS (X:=[]) hs;have hsl:=(hr.ok a p).2.2.2;have hsh:=hr.short a p;rw[<-hek]at hsl hsh
 have hst:p.length<2\/e4.k.AI= []:=by
  rcases Nat.lt_or_ge p.length 2 with h'|h'
  .exact .inl h'
  .exact .inr (hsh h')
 have hE:IF kf a p=e4.k.AI.all fun y=> !(kf a (p++[y])).AV:=by rw[IF,hek]
 refine zz ?_;(repeat clear U K);repeat intro K U
 have hall:BL zP 202 [e4.vs,.f (.func 338) [] [.rp [HF w us L],.rp (GD a p)]] (.own e4.vs 1 (iL e4.k.AI)::Hx L pre post e4 []) fun r post'=>r= .ret (.b (e4.k.AI.all fun y=> !(kf a (p++[y])).AV))/\ ∃s',(Bj kf (pre++e4::(post++s'))/\ ∀x∈s',x.k=k0)/\post'= .own e4.vs 1 (iL e4.k.AI)::Hx L pre post e4 s':=by
  rcases hst with h'|h'
  .exact bu 338 [] [.rp [HF w us L],.rp (GD a p)] (Hx L pre post e4) _ _ _ (pj w us h') (fun _ _=>trivial) (by omega) [] ⟨by simpa using got.inv,by simp⟩
  .exact bu 338 [] [.rp [HF w us L],.rp (GD a p)] (Hx L pre post e4) _ _ (fun _=>False) (fun y s hf=>hf.elim) (fun x hx=>by rw[h']at hx;cases hx) (by omega) [] ⟨by simpa using got.inv,by simp⟩
 refine hall.use (rest:=[]) (by
  have h2:=yg (L:=L) (pre:=pre) (post:=post) (e:=e4) (s:=[]) (by simpa using Dy (X:=[]) (e:=e4) (e':=e4) rfl rfl rfl hs)
  simpa using h2) ?_
 clear hs;rintro r post' Z ⟨rfl,s',⟨hi,hn⟩,rfl⟩ hs;refine zz ?_;(repeat clear U K);repeat intro K U
 refine AJ ⟨_,⟨by rw[hE],pre++e4::(post++s'),got.ext.trans ⟨s',by simp,hn⟩,hi,rfl⟩,sD (by simpa using hs)⟩
def NA {m u:Nat} (hm:m<18446744073709551616):(MH m u=0)↔H5 m u=true:=by
 rw[Mm (by simpa using hm)];constructor
 .intro h b hb
  have hlt:b<64:=by
   rcases Nat.lt_or_ge b 64 with h'|h'
   .exact h'
   .rw[Nat.testBit_lt_two_pow (Nat.lt_of_lt_of_le hm (by simpa using Nat.pow_le_pow_right (n:=2) (by decide) h'))]at hb;cases hb
  have:=Qp (a:=m) (b:=u) hlt;rw[h,Nat.zero_testBit,hb]at this;simpa using this
 .intro h
  refine Nat.eq_of_testBit_eq fun i=>?_
  rw[Nat.zero_testBit];rcases Nat.lt_or_ge i 64 with hlt|hge
  .rw[Qp hlt]
   cases hb:m.testBit i with
   | false=>rfl
   | true=>rw[h i hb];rfl
  .exact Nat.testBit_lt_two_pow (Nat.lt_of_lt_of_le (Ur _ _) (by simpa using Nat.pow_le_pow_right (n:=2) (by decide) hge))
def WN (w:AF) (us:List Nat) {kf:Int->List Int->Kn} (hr:DC w kf) {L:Nat} {es:List Bv} (h:Bj kf es) {a:Int} {p:List Int} (hp:p.length<=2) (c:Nat) (hc:c<64) :
    BL zP 214 [HF w us L,B2 a p,eI c] (BM L es) fun r post=>r= .ret (.b (Eh kf a p c))/\OO kf L es post:=by
 intro Z hs;refine wW kZ ?_;refine zz ?_;(repeat clear U K);repeat intro K U
 refine(LP w us h (a:=a) (p:=p) hp).use (rest:=[]) (by simpa using hs) ?_;clear hs;rintro r post Z ⟨es4,e4,got,rfl,rfl⟩ hs;have hek:=got.k;obtain⟨pre,post,rfl⟩:=List.append_of_mem got.mem;rw[D8]at hs;replace hs:=HS (X:=[]) hs;have hok:=hr.ok a p;rw[<-hek]at hok;have hu:1|||2 ^ c<18446744073709551616:=Gp (by decide) (GI hc)
 have hb1:bits .andNot .u64 (e4.k.BO:Int) ((1|||2 ^ c:Nat):Int)=((MH e4.k.BO (1|||2 ^ c):Nat):Int):=Gd;have hb2:bits .and .u64 (e4.k.Dm:Int) ((1|||2 ^ c:Nat):Int)=((e4.k.Dm&&&(1|||2 ^ c):Nat):Int):=GA hok.2.1 hu;have hb3:=NA (u:=1|||2 ^ c) hok.1;have hP:Eh kf a p c=(H5 e4.k.BO (1|||2 ^ c)&&(e4.k.Dm&&&(1|||2 ^ c)==0&&IF kf a p)):=by rw[Eh,hek]
 conv=>whnf
 repeat'((first|clear U K|apply st|(apply zk;intro K U)|refine zY ?_|refine Pure.use (Z1 1 c (by decide) hc) ?_|refine za (fun hc=>?_) fun hc=>?_|fail)<;>conv=>whnf)
 .have h1:H5 e4.k.BO (1|||2 ^ c)=true:=hb3.1 (by omega)
  have h2:(e4.k.Dm&&&(1|||2 ^ c)==0)=true:=by rw[CF];omega
  refine(po w us hr got.inv hp).use (rest:=[]) (by simpa using Dy (X:=[]) (e:=e4) (e':=e4) rfl rfl rfl hs) ?_;clear hs;rintro r post' Z ⟨rfl,es5,hx,hi,rfl⟩ hs;refine zz ?_;(repeat clear U K);repeat intro K U
  exact AJ ⟨_,⟨by rw[hP,h1,h2];rfl,es5,got.ext.trans hx,hi,rfl⟩,by simpa using hs⟩
 .have h2:(e4.k.Dm&&&(1|||2 ^ c)==0)=false:=by rw[beq_eq_false_iff_ne];omega
  exact AJ ⟨_,⟨by rw[hP,h2];simp,_,got.ext,got.inv,rfl⟩,by simpa using Dy (X:=[]) (e:=e4) (e':=e4) rfl rfl rfl hs⟩
 .have h1:H5 e4.k.BO (1|||2 ^ c)=false:=by
   rw[<-Bool.not_eq_true,<-hb3];omega
  exact AJ ⟨_,⟨by rw[hP,h1];simp,_,got.ext,got.inv,rfl⟩,by simpa using Dy (X:=[]) (e:=e4) (e':=e4) rfl rfl rfl hs⟩
def Lx (w:AF) (us:List Nat) {kf:Int->List Int->Kn} (hr:DC w kf) {L:Nat} {es:List Bv} (h:Bj kf es) {a:Int} {p:List Int} (hp:p.length<=2) :
    BL zP 131 [HF w us L,B2 a p] (BM L es) fun r post=>r= .ret (.t [eI (Cy (kf a p)),.b (Dq kf a p)])/\OO kf L es post:=by
 intro Z hs;have hM:=Mx;refine xZ kZ ?_;refine zz ?_;(repeat clear U K);repeat intro K U
 refine(LP w us h (a:=a) (p:=p) hp).use (rest:=[]) (by simpa using hs) ?_;clear hs;rintro r post Z ⟨es4,e4,got,rfl,rfl⟩ hs;have hek:=got.k;obtain⟨pre,post,rfl⟩:=List.append_of_mem got.mem;rw[D8]at hs;replace hs:=HS (X:=[]) hs;have hok:=hr.ok a p;have hlo:=hr.low a p;rw[<-hek]at hok hlo;have hno:=hok.2.2.1;have hle:=PQ e4.k.no e4.k.low;have hL:Cy (kf a p)=HI e4.k.no (from_ e4.k.no e4.k.low) e4.k.low:=by rw[Cy,<-hek];exact PT hle (Ft _)
 refine zz ?_;(repeat clear U K);repeat intro K U
 refine Ff (fun n:Int=>from_ e4.k.no n) (fun n=>[(7,eI n)]) (fun _=> .box e4.b [eI e4.k.low,eI e4.k.high,e4.vn,eU e4.k.BO,eU e4.k.Dm,.b e4.k.whole,.b e4.k.AV,e4.vs]:: .own e4.vn 1 (iL e4.k.no):: .own e4.vs 1 (iL e4.k.AI)::([]++IB L (pre++e4::post) pre post)) (fun n=> -1000000000<=n/\n+from_ e4.k.no n<=1000001000/\Cy (kf a p)=HI e4.k.no (from_ e4.k.no n) n) e4.k.low rfl ⟨by omega,by omega,hL⟩ hs ?_;clear hs hL hle;rintro n Z ⟨hn0,hn1,hL⟩ hs;have hct2:=fun b=>B3 e4.k.no b n
 cases hcB:e4.k.no.contains n<;>rw[hcB]at hct2
 .have hout:n∉e4.k.no:=by simpa using hcB
  rw[bw hout]at hL;have hI:Dq kf a p=(decide (n<=e4.k.high)&&Eh kf a p 1):=by rw[Dq,hL,hek]
  conv=>whnf
  repeat'((first|clear U K|apply st|(apply zk;intro K U)|refine zY ?_|refine Pure.Pk (hct2 false) (.cons (hs.MB 1 rfl) (.cons (.refl _) .nil)) rfl ?_|refine za (fun hc=>?_) fun hc=>?_|fail)<;>conv=>whnf)
  all_goals
   have hsc:Sat Z (BM L (pre++e4::post)):=by simpa using Dy (X:=[]) (e:=e4) (e':=e4) rfl rfl rfl hs
  .refine(WN w us hr got.inv hp 1 (by decide)).use (rest:=[]) (by simpa using hsc) ?_
   clear hs hsc;rintro r post' Z ⟨rfl,es5,hx,hi,rfl⟩ hs;refine zz ?_;(repeat clear U K);repeat intro K U
   exact AJ ⟨_,⟨by rw[hL,hI,decide_eq_true (by assumption)];rfl,es5,got.ext.trans hx,hi,rfl⟩,by simpa using hs⟩
  .exact AJ ⟨_,⟨by rw[hL,hI,decide_eq_false (by omega)];rfl,_,got.ext,got.inv,rfl⟩,hsc⟩
 .have hin:n∈e4.k.no:=by simpa using hcB
  have hlt:=PO hin;have hwr:IntKind.i64.wrap (n+1)=n+1:=wrap64 (by omega) (by omega);obtain⟨m,hm⟩: ∃m,from_ e4.k.no n=m+1:=⟨from_ e4.k.no n - 1,by omega⟩
  have hL2:Cy (kf a p)=HI e4.k.no (from_ e4.k.no (n+1)) (n+1):=by rw[hL,hm,jY hin];exact PT (by omega) (Ft _)
  conv=>whnf
  repeat'((first|clear U K|apply st|(apply zk;intro K U)|refine zY ?_|refine Pure.Pk (hct2 false) (.cons (hs.MB 1 rfl) (.cons (.refl _) .nil)) rfl ?_|fail)<;>conv=>whnf)
  exact⟨n+1,hlt,by rw[hwr];rfl,⟨by omega,by omega,hL2⟩,hs⟩
def Ua (w:AF) (us:List Nat) {kf:Int->List Int->Kn} (hr:DC w kf) {L:Nat} {es:List Bv} (h:Bj kf es) {a:Int} {p:List Int} (hp:p.length<=2) :
    BL zP 132 [HF w us L,B2 a p] (BM L es) fun r post=>r= .ret (.b (CR kf a p))/\OO kf L es post:=by
 intro Z hs;refine xY kZ ?_;refine zz ?_;(repeat clear U K);repeat intro K U
 refine(LP w us h (a:=a) (p:=p) hp).use (rest:=[]) (by simpa using hs) ?_;clear hs;rintro r post Z ⟨es4,e4,got,rfl,rfl⟩ hs;have hek:=got.k;obtain⟨pre,post,rfl⟩:=List.append_of_mem got.mem;rw[D8]at hs;have hsc:=hs;replace hs:=HS (X:=[]) hs;have hN:CR kf a p=(!e4.k.whole&&Eh kf a p 2):=by rw[CR,hek]
 cases hw:e4.k.whole<;>rw[hw]at hs hN
 .refine zz ?_;(repeat clear U K);repeat intro K U
  refine(WN w us hr got.inv hp 2 (by decide)).use (rest:=[]) (by simpa using hsc) ?_;clear hs hsc;rintro r post' Z ⟨rfl,es5,hx,hi,rfl⟩ hs;refine zz ?_;(repeat clear U K);repeat intro K U
  exact AJ ⟨_,⟨by rw[hN];rfl,es5,got.ext.trans hx,hi,rfl⟩,by simpa using hs⟩
 .refine zz ?_;(repeat clear U K);repeat intro K U
  exact AJ ⟨_,⟨by rw[hN];rfl,_,got.ext,got.inv,rfl⟩,hsc⟩
def T1 {Z:AE} {X:List At} {L:Nat} {pre post:List Bv} {e:Bv} {s:List Bv} (h:Sat Z (X++BM L (pre++e::(post++s)))):Sat Z (.own e.vs 1 (iL e.k.AI)::(X++Hx L pre post e s)):=by
 have h2:=HS h;refine h2.perm ((JH _ _ _ _).symm.trans (.cons _ ?_));exact(List.perm_middle.trans (.cons _ List.perm_middle)).symm
def qC {Z:AE} {X:List At} {L:Nat} {pre post:List Bv} {e:Bv} {s:List Bv} (h:Sat Z (.own e.vs 1 (iL e.k.AI)::(X++Hx L pre post e s))):Sat Z (X++BM L (pre++e::(post++s))):=by
 refine Dy (X:=X) (e:=e) (e':=e) rfl rfl rfl ?_;refine h.perm ?_;refine List.Perm.trans (.cons _ (List.perm_middle.trans (.cons _ List.perm_middle))) ?_;exact JH _ _ _ _
def PL (s:Nat) (c:Int) (hs0:s<18446744073709551616) (h0:0<=c) (hc:c<64):Pure zP 135 [eU s,eI c] (.b (s.testBit c.toNat)):=by
 have:=P5 s c.toNat hs0 (by omega);rw[Int.toNat_of_nonneg h0]at this;exact this
def XC {m:Nat} (hm:m<18446744073709551616):MH m 1=FT m:=by
 refine Nat.eq_of_testBit_eq fun i=>?_
 rw[M6];rcases Nat.lt_or_ge i 64 with hlt|hge
 .rw[Qp hlt,show(1:Nat)=2 ^ 0 from rfl,Nat.testBit_two_pow]
  congr 2;rw[Hl,B7,CF];omega
 .have h64:18446744073709551616<=2 ^ i:=by simpa using Nat.pow_le_pow_right (n:=2) (by decide) hge
  rw[Nat.testBit_lt_two_pow (Nat.lt_of_lt_of_le (Ur _ _) h64),Nat.testBit_lt_two_pow (Nat.lt_of_lt_of_le hm h64)];rfl
def OB {us:List Nat} (hu:mb us) {m:Nat} (hm:m<18446744073709551616): ∀k,Bk us k m<18446744073709551616
 | 0=>hm
 | k+1=>by
   rw[Bk];split
   .exact Gp (OB hu hm k) (Jx hu _)
   .exact OB hu hm k
def Ny (w : AF) (hw:BR w) {kf:Int->List Int->Kn} (hr:DC w kf) {a:Int} {p:List Int} (hp:p.length<=2) (can:Int->Bool)
    (hcan: ∀s∈(kf a p).AI,∀L es,Bj kf es->BL zP 211 [HF w (Ah w.parents) L,B2 a (p++[s])] (BM L es) fun r post=>r= .ret (.b (can s))/\OO kf L es post) {L:Nat} {es:List Bv} (h:Bj kf es) :
    BL zP 133 [HF w (Ah w.parents) L,B2 a p] (BM L es) fun r post=>r= .ret (.t [eU (Ef w (kf a p) (fun s=>(kf a (p++[s])).AV) can).1,.b (Ef w (kf a p) (fun s=>(kf a (p++[s])).AV) can).2])/\OO kf L es post:=by
 intro Z hs;have hM:=Mx;generalize hus:Ah w.parents=us at *;refine xX kZ ?_;refine zz ?_;(repeat clear U K);repeat intro K U
 refine(LP w us h (a:=a) (p:=p) hp).use (rest:=[]) (by simpa using hs) ?_;clear hs;rintro r post Z ⟨es4,e4,got,rfl,rfl⟩ hs;have hek:=got.k;obtain⟨pre,post,rfl⟩:=List.append_of_mem got.mem;rw[D8]at hs;have hsc:=hs;replace hs:=HS (X:=[]) hs;have hok:=hr.ok a p;have hsl:=(hr.ok a p).2.2.2;have hsh:=hr.short a p;have hsw:=hr.AI a p;rw[<-hek]at hok hsl hsh hsw hcan;have hO:Ef w (kf a p) (fun s=>(kf a (p++[s])).AV) can=Ef w e4.k (fun s=>(kf a (p++[s])).AV) can:=by rw[hek]
 have hOn:(e4.k.whole=true\/e4.k.BO.testBit 1=true\/e4.k.BO.testBit 2=true\/e4.k.Dm.testBit 0=true)->Ef w (kf a p) (fun s=>(kf a (p++[s])).AV) can=(0,false):=fun h=>by
  rw[hO,Ef,if_pos];rcases h with h|h|h|h<;>rw[h]<;>simp
 have hOy:e4.k.whole=false->e4.k.BO.testBit 1=false->e4.k.BO.testBit 2=false->e4.k.Dm.testBit 0=false->Ef w (kf a p) (fun s=>(kf a (p++[s])).AV) can=match GP w (fun s=>(kf a (p++[s])).AV) can e4.k.AI (e4.k.BO,e4.k.Dm)with
  | none=>(0,false)
  | some u=>(FT (Bk (Ah w.parents) w.parents.length u.1),FT (Bk (Ah w.parents) w.parents.length u.1)&&&u.2==0):=fun h1 h2 h3 h4=>by
  rw[hO,Ef,h1,h2,h3,h4];rfl
 clear hO;cases hb0:e4.k.whole<;>rw[hb0]at hs
 rotate_left
 .refine zz ?_;(repeat clear U K);repeat intro K U
  exact AJ ⟨_,⟨by rw[hOn (.inl hb0)];rfl,_,got.ext,got.inv,rfl⟩,hsc⟩
 .conv => whnf
  repeat'((first|clear U K|apply st|(apply zk;intro K U)|refine zY ?_|refine Pure.use (P5 e4.k.BO 1 hok.1 (by decide)) ?_|refine Pure.use (P5 e4.k.BO 2 hok.1 (by decide)) ?_|refine Pure.use (P5 e4.k.Dm 0 hok.2.1 (by decide)) ?_|refine za (fun hc=>?_) fun hc=>?_|fail)<;>conv=>whnf)
  all_goals first
   | exact AJ ⟨_,⟨by rw[hOn (by first|exact .inl (by assumption)|exact .inr (.inl (by assumption))|exact .inr (.inr (.inl (by assumption)))|exact .inr (.inr (.inr (by assumption))))];rfl,_,got.ext,got.inv,rfl⟩,hsc⟩
   | skip
  replace hOy:=hOy hb0 (by assumption) (by assumption) (by assumption);clear hOn;generalize hnf:(fun s=>(kf a (p++[s])).AV)=AV at *
  have hs1:Sat Z (.own e4.vs 1 (iL e4.k.AI)::Hx L pre post e4 []):=by
   have h2:=T1 (X:=[]) (L:=L) (pre:=pre) (post:=post) (e:=e4) (s:=[]) (by simpa using hsc);simpa using h2
  refine B4 e4.k.AI.length (fun k (x:(Nat×Nat)×List Bv)=>[(47,eI (A7 k)),(7,eU x.1.1),(8,eU x.1.2)]) (fun k x=> .own e4.vs 1 (iL e4.k.AI)::Hx L pre post e4 x.2) (fun k x=>(x.1.1<18446744073709551616/\x.1.2<18446744073709551616)/\(Bj kf (pre++e4::(post++x.2))/\ ∀y∈x.2,y.k=k0)/\GP w AV can e4.k.AI (e4.k.BO,e4.k.Dm)=GP w AV can (e4.k.AI.drop k) x.1) ((e4.k.BO,e4.k.Dm),[]) rfl ⟨⟨hok.1,hok.2.1⟩,⟨by simpa using got.inv,by simp⟩,rfl⟩ hs1 ?_;clear hs hs1 hsc;rintro k ⟨⟨m,no⟩,new⟩ Z hk ⟨⟨hm,hno⟩,⟨hinv,hnew⟩,hF⟩ hs;simp only at hm hno hinv hnew hF hs;have hck:A7 k=k:=AS (by have:=hok.2.2.2;omega);rcases A9 e4.k.AI hk with⟨s,hsk,hlt⟩|hke
  .have hsm:=B6 hsk
   have hp2:p.length<2:=by
    rcases Nat.lt_or_ge p.length 2 with h'|h'
    .exact h'
    .rw[hsh h']at hsm;cases hsm
   obtain⟨hs0,hs1⟩:=hsw s hsm;rw[drop_cons hsk,GP]at hF
   conv=>whnf
   repeat'((first|clear U K|apply st|(apply zk;intro K U)|refine zY ?_|refine ze fun x hx=>?_|refine zs fun Z hs=>?_|refine Pure.use (MZ a p _ hp2) ?_|refine zo fun nn hnn Z hs=>?_|fail)<;>conv=>whnf)
   obtain rfl:x=s:=by rw[hck,GR,hsk]at hx;exact(Option.some.inj hx).symm
   generalize nn=n7 at *;have hs2:Sat Z ([.box n7 (GD a (p++[x]))]++BM L (pre++e4::(post++new))):=qC (X:=[.box n7 (GD a (p++[x]))]) (hs.perm (.swap _ _ _));clear hs;obtain⟨o,ho⟩: ∃o,w.owner[x.toNat]? =some o:=⟨_,Cd (by omega)⟩
   have hoI:BG w x=o:=by simp only[BG,Cq,ho];rfl
   obtain⟨ho1,ho2⟩:=hw.2.2 o (B6 ho);have hwp:=hw.1.1;have hcx:=hcan x hsm L;cases hnx:AV x<;>cases hcy:can x
   all_goals
    rw[hcy]at hcx;rw[SJ,hnx,hcy,hoI]at hF;refine(LP w us hinv (a:=a) (p:=p++[x]) (by simp;omega)).use (rest:=[.box n7 (GD a (p++[x]))]) (hs2.perm HP) ?_;clear hs2;rintro r post' Z ⟨es5,e5,got5,rfl,rfl⟩ hs;have hek5:e5.k.AV=AV x:=by rw[got5.k,<-hnf]
    rw[hnx]at hek5;obtain⟨newA,heA,hnA⟩:=got5.ext;obtain⟨pre5,post5,he5⟩:=List.append_of_mem got5.mem;rw[he5]at hs;replace hs:=HS (X:=[.box n7 (GD a (p++[x]))]) (hs.perm HP);rw[hek5]at hs
    conv=>whnf
    repeat'((first|apply st|refine zY ?_|refine rk ?_ ?_|exact fun s e=>by cases e;rfl|fail)<;>conv=>whnf)
    have hs2:Sat Z ([.box n7 (GD a (p++[x]))]++BM L (pre5++e5::post5)):=Dy (X:=[.box n7 (GD a (p++[x]))]) (e:=e5) (e':=e5) rfl rfl rfl (by rw[<-hek5]at hs;exact hs);clear hs;refine(hcx es5 got5.inv).use (rest:=[.box n7 (GD a (p++[x]))]) (by rw[he5];exact hs2.perm HP) ?_;clear hs2;rintro r post' Z ⟨rfl,es6,⟨new6,he6,hn6⟩,hi6,rfl⟩ hs;have he7:es6=pre5++e5::(post5++new6):=by rw[he6,he5];simp
    rw[he7]at hs;replace hs:=HS (X:=[.box n7 (GD a (p++[x]))]) (hs.perm HP);rw[hek5]at hs
    conv=>whnf
    repeat'((first|clear U K|apply st|(apply zk;intro K U)|refine zY ?_|refine rk ?_ ?_|exact fun s e=>by cases e;rfl|refine Pure.use (II m o hm (by omega) (by omega)) ?_|refine Pure.use (II no o hno (by omega) (by omega)) ?_|fail)<;>conv=>whnf)
    simp only[Bool.not_false,Bool.not_true,Bool.and_true,Bool.and_false,JX,if_false,if_true,Option.bind_some,Option.bind_none]at hF;have e7:es6=pre++e4::(post++(new++newA++new6)):=by rw[he6,heA];simp
    have hs2:Sat Z ([.box n7 (GD a (p++[x]))]++BM L (pre5++e5::(post5++new6))):=Dy (X:=[.box n7 (GD a (p++[x]))]) (e:=e5) (e':=e5) rfl rfl rfl (by rw[<-hek5]at hs;exact hs)
    have hs3:Sat Z (BM L (pre++e4::(post++(new++newA++new6)))):=by
     rw[<-he7,e7]at hs2;exact hs2.less (List.sublist_append_right _ _)
    have hi7:Bj kf (pre++e4::(post++(new++newA++new6))):=by rw[<-e7];exact hi6
    have hn7: ∀y∈new++newA++new6,y.k=k0:=fun y hy=>by
     rcases Dn.1 hy with hy|hy
     .rcases Dn.1 hy with hy|hy
      .exact hnew y hy
      .exact hnA y hy
     .exact hn6 y hy
    have hob:2 ^ o.toNat<18446744073709551616:=GI (by omega)
   .exact⟨hlt,((m,no|||2 ^ o.toNat),new++newA++new6),rfl,⟨⟨hm,Gp hno hob⟩,⟨hi7,hn7⟩,hF⟩,T1 (X:=[]) hs3⟩
   .exact⟨hlt,((m,no),new++newA++new6),rfl,⟨⟨hm,hno⟩,⟨hi7,hn7⟩,hF⟩,T1 (X:=[]) hs3⟩
   .rw[hF]at hOy
    exact AJ ⟨_,⟨by rw[hOy];rfl,_,got.ext.trans ⟨_,by simp,hn7⟩,hi7,rfl⟩,hs3⟩
   .exact⟨hlt,((m|||2 ^ o.toNat,no),new++newA++new6),rfl,⟨⟨Gp hm hob,hno⟩,⟨hi7,hn7⟩,hF⟩,T1 (X:=[]) hs3⟩
  .rw [Aj hke,GP]at hF
   rw[hF]at hOy;simp only at hOy;refine zz ?_;(repeat clear U K);repeat intro K U
   have hu:mb us:=by rw[<-hus];exact D0 _ _ (by have:=hw.1.1;omega)
   have hul:us.length=3+w.parents.length:=by rw[<-hus];exact Cf _ _
   have hwp:=hw.1.1;have hwl:IntKind.i64.wrap (3+((EV w.parents).length:Nat))=3+(w.parents.length:Int):=by rw[Bc,wrap64 (by omega) (by omega)]
   refine B4 w.parents.length (fun k (x:Nat)=>[(14,eI (HO 3 k)),(7,eU x)]) (fun _ _=> .own e4.vs 1 (iL e4.k.AI)::Hx L pre post e4 new) (fun k x=>x<18446744073709551616/\x=Bk us k m) m rfl ⟨hm,rfl⟩ hs ?_;clear hs;clear hke hck hk k;rintro k x Z hk ⟨hx64,hxe⟩ hs;have hc3:HO 3 k=3+k:=Kl (by omega) (by omega);by_cases hlt:k<w.parents.length
   .have hbt:Bk us (k+1) m=if x.testBit (HO 3 k).toNat then x|||us.getD (3+k) 0 else x:=by
     rw[Bk,<-hxe,hc3,show(3+(k:Int)).toNat=3+k by omega]
    have hup:(List.drop ((HO 3 k).toNat*1) (List.drop 2 (wC w us)))[0]? =some (eU (us.getD (3+k) 0)):=by
     rw[fD,fD,<-VV w us (i:=3+k) (by omega)];congr 1;omega
    conv=>whnf
    repeat'((first|clear U K|apply st|(apply zk;intro K U)|refine zY ?_|(rw[hup])|refine Pure.use (PL x (HO 3 k) hx64 (by omega) (by omega)) ?_|(refine zb (fun hc=>?_) (fun hc=>?_)<;>try exact⟨⟩)|fail)<;>conv=>whnf)
    .refine⟨hlt,x|||us.getD (3+k) 0,?_,⟨Gp hx64 (Jx hu _),by rw[hbt,if_pos (by assumption)]⟩,hs⟩
     rw[Hf hx64 (Jx hu _)];rfl
    .exact⟨hlt,x,rfl,⟨hx64,by rw[hbt,if_neg (by rw[‹x.testBit _=false›];decide)]⟩,hs⟩
   .have hke:k=w.parents.length:=by omega
    rw[hus,<-hke,<-hxe]at hOy
    have hA:bits .andNot .u64 (x:Int) 1=((FT x:Nat):Int):=by
     have:=Gd (a:=x) (b:=1);rw[XC hx64]at this;exact this
    have hcl:FT x<18446744073709551616:=by unfold FT;omega
    have hB:bits .and .u64 ((FT x:Nat):Int) (no:Int)=((FT x&&&no:Nat):Int):=GA hcl hno
    conv=>whnf
    repeat'((first|clear U K|apply st|(apply zk;intro K U)|refine zY ?_|(refine zb (fun hc=>?_) (fun hc=>?_)<;>try exact⟨⟩)|fail)<;>conv=>whnf)
    rw[hA,hB];refine AJ ⟨_,⟨?_,_,got.ext.trans ⟨new,by simp,hnew⟩,hinv,rfl⟩,sD hs⟩;rw[hOy]
    have hz:(((FT x&&&no:Nat):Int)==0)=(FT x&&&no==0):=by
     rw[Hl,CF,CF];omega
    rw[<-hz]
def Vx (v:Int×Int) (n:Int):Pure zP 142 [.a (pI v),eI n] (.b (DH n v)):=by
 obtain⟨k,x⟩:=v;refine xR kZ ?_;have hs:=Sn
 conv=>whnf
 repeat'((first|clear U K|apply st|(apply zk;intro K U)|refine zY ?_|(refine zd (fun hc=>?_) (fun hc=>?_)<;>try exact⟨⟩)|fail)<;>conv=>whnf)
 all_goals exact AG (by simp[DH, *]<;>omega)
def ZW (os:List Ob) (f:Bool) (v:Int×Int):Pure zP 141 [.a (pI v),.rp [.l (os.map MC) f]] (.b (DH os.length v)):=by
 have e3:((os.map MC).length:Int)=os.length:=by simp
 have c1:Pure zP 142 [.a (pI v),eI ((os.map MC).length:Int)] (.b (DH os.length v)):=by rw[e3];exact Vx v os.length
 refine xS kZ ?_;have hs:=Sn;exact zW
def iM (w:AF) (hw:BR w) (c s:Int) (hc0:3<=c) (hc1:c<3+w.parents.length) (hs0:0<=s) (hs1:s<w.owner.length):Pure zP 222 [.rp (wC w (Ah w.parents)),eI c,eI s] (.b (((Ah w.parents).getD c.toNat 0).testBit (BG w s).toNat)):=by
 have hM:=Mx;have hwp:=hw.1.1;have hol:=hw.2.1;have hu:mb (Ah w.parents):=D0 _ _ (by have:=hw.1.1;omega);have hul:(Ah w.parents).length=3+w.parents.length:=Cf _ _;obtain⟨o,ho⟩: ∃o,w.owner[s.toNat]? =some o:=⟨_,Cd (by omega)⟩
 have hoi:BG w s=o:=by rw[BG,Cq,ho];rfl
 have hor:=hw.2.2 o (B6 ho);generalize Ah w.parents=us at *
 have hup:(List.drop (c.toNat*1) (List.drop 2 (wC w us)))[0]? =some (eU (us.getD c.toNat 0)):=by
  rw[fD,fD,<-VV w us (i:=c.toNat) (by omega)];congr 1;omega
 rw[hoi]
 have c1:Pure zP 135 [eU (us.getD c.toNat 0),eI o] (.b ((us.getD c.toNat 0).testBit o.toNat)):=by
  have:=P5 (us.getD c.toNat 0) o.toNat (Jx hu _) (by omega)
  rwa [Int.toNat_of_nonneg (by omega)]at this
 refine wP kZ ?_;have hs:=Sn;refine zz ?_;(repeat clear U K);repeat intro K U
 rw[hup];exact zW
def bC {w:AF} (hw:BR w) (hw2:Fu w) {c s:Int} (hc0:3<=c) (hc1:c<3+w.parents.length) (hs0:0<=s) (hs1:s<w.owner.length):hasB w c s=((Ah w.parents).getD c.toNat 0).testBit (BG w s).toNat:=by
 have ho:=Fh hw2 ⟨hs0,hs1⟩;rw[J4 hw2.ord (by omega),hasB,decide_eq_true hc0,Cc,Gn,decide_eq_true hc0,Cc];have e0:(BG w s==0)=false:=by rw[beq_eq_false_iff_ne];omega
 have e1:((BG w s).toNat==0)=false:=by rw[beq_eq_false_iff_ne];omega
 rw[e0,e1,Bool.false_or];by_cases h:c=BG w s
 .rw[<-h,Cl hw2.ord];simp
 .rw[beq_eq_false_iff_ne.2 h,Bool.false_or]
def V8 (w:AF) (c:Int) (hw:BR w) (hw2:Fu w) (hc0:3<=c) (hc1:c<3+w.parents.length):Pure zP 218 [.rp (wC w (Ah w.parents)),eI c] (.l (iL (CS w c)) false):=by
 have hM:=Mx;have hol:=hw2.sC;refine wT kZ ?_;have hs:=Sn;refine zz ?_;(repeat clear U K);repeat intro K U
 refine B4 w.owner.length (fun k v=>[(5,v),(13,eI (A7 k))]) (fun k v=>[.own v 1 (iL ((Aw k).filter (hasB w c)))]) (fun _ _=>True) (.l [] true) rfl trivial (EY Sat.nil 1) ?_;clear hs;rintro k v Z hk - hs;have hfl:=TZ (hasB w c) (Aw k);rw[G1]at hfl;rcases A9 w.owner hk with⟨s,hso,hlt⟩|hke
 .have hck:A7 k=k:=AS (by omega)
  have c1:Pure zP 222 [.rp (wC w (Ah w.parents)),eI c,eI (A7 k)] (.b (hasB w c k)):=by rw[hck,bC hw hw2 hc0 hc1 (by omega) (by omega)];exact iM w hw c k hc0 hc1 (by omega) (by omega)
  have hst:(Aw (k+1)).filter (hasB w c)=if hasB w c k then(Aw k).filter (hasB w c)++[(k:Int)]else(Aw k).filter (hasB w c):=by
   rw[KG,List.filter_append];cases hp:hasB w c k<;>simp[hp]
  generalize (Aw k).filter (hasB w c)=zl at *;have hll:zl.length<Ab/\(zl.length+1)*8<=140737488355328:=by omega
  cases hh:hasB w c k<;>rw[hh]at c1 hst
  .conv=>whnf
   repeat'((first|clear U K|apply st|(apply zk;intro K U)|refine zY ?_|refine zC ?_|fail)<;>conv=>whnf)
   exact⟨hlt,_,rfl,trivial,by rw[hst];exact hs⟩
  .conv=>whnf
   repeat'((first|clear U K|apply st|(apply zk;intro K U)|refine zY ?_|refine aq fun v Z hs hsl=>?_|refine zC ?_|fail)<;>conv=>whnf)
   exact⟨hlt,_,rfl,trivial,by rw[hst,<-hck];exact hs⟩
 .rw[hke]at hs
  refine zz ?_;(repeat clear U K);repeat intro K U
  exact Af (hs.MB 0 rfl)
def LA (os:List Ob) (v:Int×Int):Int:=if v.1=1 then 1 else if v.1=2 then 2 else(os.getD v.2.toNat (0,[])).1
end Go.Gl
namespace Go.Gl
open Go.Proofs
structure Oy (w:AF) (os:List Ob):Prop where
 len:os.length<=40
 own: ∀o∈os,(3:Int)<=o.1/\o.1<3+(w.parents.length:Int)
 num: ∀o∈os,o.2.length=(CS w o.1).length
 val: ∀o∈os,∀v∈o.2,DH os.length v=true
def oR {w:AF} {os:List Ob} (h:LI w os=true):Oy w os:=by
 simp only[LI,A4,B7,Cu,VI,cK,CF]at h;exact⟨h.1,fun o ho=>(h.2 o ho).1,fun o ho=>(h.2 o ho).2.1,fun o ho=>(h.2 o ho).2.2⟩
def Yo {w:AF} {c s:Int}:s∈CS w c↔(0<=s/\s<(w.owner.length:Int))/\hasB w c s=true:=by
 rw[CS,HD,BW]
abbrev Tm (os:List Ob) (v:Int×Int):Ob:=os.getD v.2.toNat (0,[])
def Jo (w:AF) (os:List Ob) (s:Int) (v:Int×Int):Int×Int:=(Tm os v).2.getD ((CS w (Tm os v).1).idxOf s) (0,0)
def cF (w:AF) (os:List Ob):List Int->Int×Int->Option (Int×Int)
 | [],v=>some v
 | s::r,v=>if v.1==3&&hasB w (Tm os v).1 s then cF w os r (Jo w os s v)else none
def QG {n:Int} {v:Int×Int} (h:DH n v=true) (h3:v.1=3):0<=v.2/\v.2<n:=by
 rw[DH,if_neg (by omega),if_neg (by omega),if_pos h3]at h;simpa using h
def Kb {os:List Ob} {v:Int×Int} (hv:DH os.length v=true) (h3:v.1=3): ∃o,os[v.2.toNat]? =some o/\Tm os v=o/\o∈os:=by
 have:=QG hv h3;have hl:v.2.toNat<os.length:=by omega
 exact⟨os[v.2.toNat],Cd hl,by rw[Tm,Cq,Cd hl];rfl,List.getElem_mem hl⟩
def QI {w:AF} {os:List Ob} {s:Int} {v:Int×Int} {o:Ob} (hos:Oy w os) (ho:Tm os v=o) (hm:o∈os) (hs:0<=s/\s<(w.owner.length:Int)) (hh:hasB w o.1 s=true) :
    ∃i,i<(CS w o.1).length/\(CS w o.1).idxOf s=i/\(CS w o.1)[i]? =some s/\(∀j x,j<i->(CS w o.1)[j]? =some x->x≠s)/\o.2[i]? =some (Jo w os s v)/\DH os.length (Jo w os s v)=true:=by
 have hmem:s∈CS w o.1:=Yo.2 ⟨hs,hh⟩;have hlt:=List.idxOf_lt_length_of_mem hmem;have hn:=hos.num o hm
 have hx:o.2[(CS w o.1).idxOf s]? =some (Jo w os s v):=by
  rw[Jo,ho,Cq];rw[Cd (by omega)];rfl
 refine⟨_,hlt,rfl,?_,fun j x hj hjx e=>?_,hx,hos.val o hm _ (B6 hx)⟩
 .rw[Cd hlt,List.getElem_idxOf hlt]
 .have hjl:=(Ip.1 hjx).1
  have:=List.not_of_lt_findIdx (p:=(· ==s)) (xs:=CS w o.1) (by simpa[List.idxOf]using hj);rw[Cd hjl]at hjx;have h2:=Option.some.inj hjx;rw[h2,e]at this;simp at this
def Yh {w:AF} {os:List Ob} (hos:Oy w os): ∀ {l:List Int} {v u:Int×Int},(∀s∈l,0<=s/\s<(w.owner.length:Int))->DH os.length v=true->cF w os l v=some u->DH os.length u=true
 | [],v,u,_,hv,h=>by cases h;exact hv
 | s ::r,v,u,hl,hv,h=>by
   rw[cF]at h;split at h
   .rename_i hc
    simp only[A4,CF]at hc;obtain⟨o,h1,h2,h3⟩:=Kb hv hc.1;obtain⟨i,q1,q2,q3,q4,q5,q6⟩:=QI hos h2 h3 (hl s (.head _)) (h2 ▸ hc.2);exact Yh hos (fun s hs=>hl s (.tail _ hs)) q6 h
   .cases h
def Zl (w:AF) (os:List Ob) (args:List (Int×Int)) (f:Fact):Bool:=match cF w os f.path (args.getD f.arg.toNat (0,0))with
 | none=>false
 | some v=>if f.op=2 then Gn w.parents (LA os v) f.cls else v.1==1&&(if f.op=3 then decide (v.2<f.n)else v.2==f.n)
def ID (w:AF) (os:List Ob) (args:List (Int×Int)) (f:Fact) (l:List Bool):Bool:=
 if f.op=1 then true else if f.op=5 then !l.getD 0 false else if f.op=6 then l.getD 0 false&&l.getD 1 false else if f.op=7 then l.getD 0 false||l.getD 1 false else Zl w os args f
def E9 (w:AF) (os:List Ob) (args:List (Int×Int)) (f:Fact):Bool:=f.Fe (ID w os args)
def Wi (w:AF) (os:List Ob) (args:List (Int×Int)) (f:Fact):E9 w os args f=ID w os args f (f.kids.map (E9 w os args)):=Fact.CJ (ID w os args) f
end Go.Gl
