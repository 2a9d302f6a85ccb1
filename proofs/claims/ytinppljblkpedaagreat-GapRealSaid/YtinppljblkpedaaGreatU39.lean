import Derived.Test.YtinppljblkpedaaGreatU14
import Derived.Test.YtinppljblkpedaaGreatU15
import Derived.Test.YtinppljblkpedaaGreatU18
import Derived.Test.YtinppljblkpedaaGreatU19
import Derived.Test.YtinppljblkpedaaGreatU20
import Derived.Test.YtinppljblkpedaaGreatU24
import Derived.Test.YtinppljblkpedaaGreatU25
import Derived.Test.YtinppljblkpedaaGreatU26
import Derived.Test.YtinppljblkpedaaGreatU30
import Derived.Test.YtinppljblkpedaaGreatU32
import Derived.Test.YtinppljblkpedaaGreatU35
import Derived.Test.YtinppljblkpedaaGreatU36
import Derived.Test.YtinppljblkpedaaGreatU37
import Derived.Test.YtinppljblkpedaaGreatU38
set_option linter.all false
set_option linter.defProp false
set_option maxHeartbeats 8000000
noncomputable section
namespace Go.Gl
open Go.Proofs
def Jc.len {es es':List Bv} (h:Jc es es'):es.length<=es'.length:=by
 obtain⟨n,rfl,_⟩:=h;simp
attribute [local irreducible] As Ag AY AQ AL AX AP AR AK AW AM AN Ai Ap Sat AT An AZ W
def TK (w : AF) (hw:BR w) {kf:Int->List Int->Kn} (hr:DC w kf) {a:Int} {p:List Int} (hp:p.length<=2) (can:Int->Bool) {L:Nat}
    (hcan: ∀s∈(kf a p).AI,∀es,Bj kf es->BL zP 118 [.a (gv w (Ah w.parents) L),B2 a (p++[s])] (Bs L es) fun r post=>r= .ret (.b (can s))/\HU kf L es post) {es:List Bv} (h:Bj kf es) :
    BL zP 118 [.a (gv w (Ah w.parents) L),B2 a p] (Bs L es) fun r post=>r= .ret (.b (Dq kf a p||(CR kf a p||VG w kf a p can)))/\HU kf L es post:=by
 intro Z hs;have hM:=Mx;have c1:=yu w hr h (L:=L) (a:=a) hp;have c2:=fun {es} (h:Bj kf es)=>qv w hr h (L:=L) (a:=a) hp
 have hu:mb (Ah w.parents):=D0 _ _ (by have:=hw.1.1;omega);have hul:(Ah w.parents).length=3+w.parents.length:=Cf _ _;have hwp:=hw.1.1;have hP:VG w kf a p can=(!(Ds w kf a p).testBit 1&&(!(Ds w kf a p).testBit 2&&Rz w kf a p (Bk (Ah w.parents) w.parents.length (Ds w kf a p)) can)):=rfl;have hMu:Ds w kf a p=(kf a p).AI.foldl (fun m s=>if(kf a (p++[s])).AV then m|||2 ^ (BG w s).toNat else m) ((kf a p).BO|||2 ^ 0):=rfl;have hobj:=fun up hup es (hi:Bj kf es)=>aV w hw (Ah w.parents) hr hp up hup 118 [.a (gv w (Ah w.parents) L)] [] can (L:=L) hcan (es:=es) hi
 generalize Ah w.parents=us at *;generalize VG w kf a p can=R at *;generalize Ds w kf a p=MU at *;cases hI:Dq kf a p<;>rw[hI]at c1
 rotate_left
 .refine Yd kZ ?_
  refine zz ?_;(repeat clear U K);repeat intro K U
  refine c1.use (rest:=[]) (by simpa using hs) ?_;clear hs;rintro r post Z ⟨rfl,es2,hx2,hi2,rfl⟩ hs;rw[D8]at hs;refine zz ?_;(repeat clear U K);repeat intro K U
  exact AJ ⟨_,⟨rfl,es2,hx2,hi2,rfl⟩,hs⟩
 cases hN:CR kf a p<;>rw[hN]at c2
 rotate_left
 .refine Yd kZ ?_
  refine zz ?_;(repeat clear U K);repeat intro K U
  refine c1.use (rest:=[]) (by simpa using hs) ?_;clear hs;rintro r post Z ⟨rfl,es2,hx2,hi2,rfl⟩ hs;rw[D8]at hs;refine zz ?_;(repeat clear U K);repeat intro K U
  refine(c2 hi2).use (rest:=[]) (by simpa using hs) ?_;clear hs;rintro r post Z ⟨rfl,es3,hx3,hi3,rfl⟩ hs;rw[D8]at hs;refine zz ?_;(repeat clear U K);repeat intro K U
  exact AJ ⟨_,⟨rfl,es3,hx2.trans hx3,hi3,rfl⟩,hs⟩
 rw[Bool.false_or,Bool.false_or];refine Yd kZ ?_;refine zz ?_;(repeat clear U K);repeat intro K U
 refine c1.use (rest:=[]) (by simpa using hs) ?_;clear hs;rintro r post Z ⟨rfl,es2,hx2,hi2,rfl⟩ hs;rw[D8]at hs;refine zz ?_;(repeat clear U K);repeat intro K U
 refine(c2 hi2).use (rest:=[]) (by simpa using hs) ?_;clear hs;rintro r post Z ⟨rfl,es3,hx3,hi3,rfl⟩ hs;rw[D8]at hs;clear c1 c2;refine zz ?_;(repeat clear U K);repeat intro K U
 refine(me w us hi3 (a:=a) (p:=p) hp).use (rest:=[]) (by simpa using hs) ?_;clear hs;rintro r post Z ⟨es4,e4,got,rfl,rfl⟩ hs;have hx4:=(hx2.trans hx3).trans got.ext;have hek:=got.k;obtain⟨pre,post,rfl⟩:=List.append_of_mem got.mem;rw[D8]at hs;replace hs:=Hr (X:=[]) (L:=L) (pre:=pre) (post:=post) (e:=e4) (s:=[]) (by simpa using hs);have hok:=hr.ok a p;have hsl:=(hr.ok a p).2.2.2;have hsh:=hr.short a p;have hsw:=hr.AI a p;rw[<-hek]at hok hsl hsh hsw hcan hMu;have hi4:=got.inv;clear got;have c3:=qf e4.k.BO 0 hok.1 (by decide);have hm0:e4.k.BO|||2 ^ 0<18446744073709551616:=Gp hok.1 (GI (by decide))
 conv=>whnf
 repeat'((first|clear U K|apply st|(apply zk;intro K U)|refine zY ?_|refine zC ?_|fail)<;>conv=>whnf)
 refine B4 e4.k.AI.length (fun k (x:Nat×List Bv)=>[(34,eI (A7 k)),(6,eU x.1)]) (fun k x=> .own e4.vs 1 (iL e4.k.AI)::fK L pre post e4 x.2) (fun k x=>x.1<18446744073709551616/\(Bj kf (pre++e4::(post++x.2))/\ ∀y∈x.2,y.k=k0)/\MU=(e4.k.AI.drop k).foldl (fun m s=>if(kf a (p++[s])).AV then m|||2 ^ (BG w s).toNat else m) x.1) (e4.k.BO|||2 ^ 0,[]) rfl ⟨hm0,⟨by simpa using hi4,by simp⟩,hMu⟩ hs ?_;clear hs hMu hm0 c3 hi4;rintro k ⟨m,new⟩ Z hk ⟨hm,⟨hinv,hnew⟩,hF⟩ hs;dsimp only at hm hinv hnew hF hs;have hck:A7 k=k:=AS (by omega);rcases A9 e4.k.AI hk with⟨s,hsk,hlt⟩|hke
 .have hsm:=B6 hsk
  have hp2:p.length<2:=by
   rcases Nat.lt_or_ge p.length 2 with h'|h'
   .exact h'
   .rw[hsh h']at hsm;cases hsm
  obtain⟨hs0,hs1⟩:=hsw s hsm;obtain⟨o,ho⟩: ∃o,w.owner[s.toNat]? =some o:=⟨_,Cd (by omega)⟩
  have hoI:BG w s=o:=by simp only[BG,Cq,ho];rfl
  obtain⟨ho1,ho2⟩:=hw.2.2 o (B6 ho);rw[drop_cons hsk,List.foldl_cons,hoI]at hF;have c3:=Lb m o hm (by omega) (by omega)
  conv=>whnf
  repeat'((first|clear U K|apply st|(apply zk;intro K U)|refine zY ?_|refine rk ?_ ?_|exact fun s e=>by cases e;rfl|refine ze fun x hx=>?_|refine Pure.use (Mg a p _ hp2) ?_|fail)<;>conv=>whnf)
  obtain rfl:x=s:=by rw[hck,GR,hsk]at hx;exact(Option.some.inj hx).symm
  refine(me w us hinv (a:=a) (p:=p++[x]) (by simp;omega)).use (rest:=[]) (by simpa using He (X:=[]) (by simpa using hs)) ?_;clear hs;rintro r post' Z ⟨es5,e5,got5,rfl,rfl⟩ hs;have hek5:=congrArg Kn.AV got5.k;obtain⟨newA,heA,hnA⟩:=got5.ext;obtain⟨pre5,post5,he5⟩:=List.append_of_mem got5.mem;have e7:es5=pre++e4::(post++(new++newA)):=by rw[heA];simp
  have hi7:=got5.inv;rw[e7]at hi7;have hn7: ∀y∈new++newA,y.k=k0:=fun y hy=>(Dn.1 hy).elim (hnew y) (hnA y)
  rw[D8,he5]at hs;replace hs:=Jq (X:=[]) hs;have hob:2 ^ o.toNat<18446744073709551616:=GI (by omega);cases hnx:(kf a (p++[x])).AV<;>rw[hnx]at hek5 hF<;>rw[hek5]at hs
  all_goals
   conv=>whnf
   repeat'((first|clear U K|apply st|(apply zk;intro K U)|refine zY ?_|refine zC ?_|fail)<;>conv=>whnf)
   have hs3:Sat Z (Bs L (pre++e4::(post++(new++newA)))):=by
    rw[<-hek5]at hs;have h3:=Dh (X:=[]) (e:=e5) (e':=e5) rfl rfl rfl hs;rw[<-he5,e7]at h3;exact h3
  .exact⟨hlt,(m,new++newA),rfl,⟨hm,⟨hi7,hn7⟩,by rw[hF];rfl⟩,Hr (X:=[]) hs3⟩
  .exact⟨hlt,(m|||2 ^ o.toNat,new++newA),rfl,⟨Gp hm hob,⟨hi7,hn7⟩,by rw[hF];rfl⟩,Hr (X:=[]) hs3⟩
 .rw [Aj hke,List.foldl_nil]at hF
  subst hF;have d1:=sI MU 1 hm (by decide);have d2:=sI MU 2 hm (by decide);have hsc: ∀ {Z:AE},Sat Z (.own e4.vs 1 (iL e4.k.AI)::fK L pre post e4 new)->Sat Z (Bs L (pre++e4::(post++new))):=fun h=>He (X:=[]) h
  have hx5:Jc es (pre++e4::(post++new)):=hx4.trans ⟨new,by simp,hnew⟩;cases hb1:MU.testBit 1<;>rw[hb1]at d1 hP
  rotate_left
  .conv=>whnf
   repeat'((first|clear U K|apply st|(apply zk;intro K U)|refine zY ?_|refine d1.use ?_|fail)<;>conv=>whnf)
   all_goals try(exfalso;omega)
   exact AJ ⟨_,⟨by rw[hP];rfl,_,hx5,hinv,rfl⟩,hsc hs⟩
  cases hb2:MU.testBit 2<;>rw[hb2]at d2 hP
  rotate_left
  .conv=>whnf
   repeat'((first|clear U K|apply st|(apply zk;intro K U)|refine zY ?_|refine d1.use ?_|refine d2.use ?_|fail)<;>conv=>whnf)
   all_goals try(exfalso;omega)
   exact AJ ⟨_,⟨by rw[hP];rfl,_,hx5,hinv,rfl⟩,hsc hs⟩
  conv=>whnf
  repeat'((first|clear U K|apply st|(apply zk;intro K U)|refine zY ?_|refine d1.use ?_|refine d2.use ?_|fail)<;>conv=>whnf)
  all_goals try(exfalso;omega)
  clear hke hck hk d1 d2 k;rw[Bool.not_false,Cc,Cc]at hP;have eul:((us.map fun u=>[eU u]).length:Int)=us.length:=by simp
  refine B4 us.length (fun k (x:Nat)=>[(73,eI (A7 k)),(6,eU x)]) (fun _ _=> .own e4.vs 1 (iL e4.k.AI)::fK L pre post e4 new) (fun k x=>x<18446744073709551616/\x=Bk us (k - 3) MU) MU rfl ⟨hm,rfl⟩ hs ?_;clear hs;rintro k x Z hk ⟨hx64,hxe⟩ hs;have hck:A7 k=k:=AS (by omega);rcases A9 us hk with⟨u,huk,hlt⟩|hke
  .have hbt:Bk us (k+1 - 3) MU=if 3<=k/\x.testBit k then x|||u else x:=by
    rcases Nat.lt_or_ge k 3 with h3|h3
    .rw[if_neg (fun h=>by omega),hxe,show k+1 - 3=k - 3 by omega]
    .obtain⟨j,rfl⟩: ∃j,k=3+j:=⟨k - 3,by omega⟩
     have eu:us.getD (3+j) 0=u:=by rw[Cq,huk];rfl
     rw[show 3+j+1 - 3=j+1 by omega,Bk,show 3+j - 3=j by omega]at *;rw[<-hxe,eu];by_cases hb:x.testBit (3+j)=true
     .rw[if_pos hb,if_pos ⟨by omega,hb⟩]
     .rw[if_neg hb,if_neg (fun h=>hb h.2)]
   have hu64:u<18446744073709551616:=hu u (B6 huk);have huc:us[(A7 k).toNat]? =some u:=by rw[hck,GR];exact huk
   have d1:=Zo x (A7 k) hx64 (by omega) (by omega);have ekk:(A7 k).toNat=k:=by rw[hck,GR]
   rw[ekk]at d1;cases hbk:x.testBit k<;>rw[hbk]at d1 hbt
   .rw[if_neg (fun h=>by cases h.2)]at hbt
    conv=>whnf
    repeat'((first|clear U K|apply st|(apply zk;intro K U)|refine zY ?_|refine d1.use ?_|(refine zd (fun hc=>?_) (fun hc=>?_)<;>try exact⟨⟩)|fail)<;>conv=>whnf)
    all_goals exact⟨hlt,x,rfl,⟨hx64,hbt.symm⟩,hs⟩
   .by_cases h3:3<=k
    .rw[if_pos ⟨h3,rfl⟩]at hbt
     conv=>whnf
     repeat'((first|clear U K|apply st|(apply zk;intro K U)|refine zY ?_|refine d1.use ?_|(refine zb (fun hc=>?_) (fun hc=>?_)<;>try exact⟨⟩)|fail)<;>conv=>whnf)
     all_goals try(exfalso;omega)
     all_goals exact⟨hlt,x|||u,by rw[Hf hx64 hu64];rfl,⟨Gp hx64 hu64,hbt.symm⟩,hs⟩
    .rw[if_neg (fun h=>h3 h.1)]at hbt
     conv=>whnf
     repeat'((first|clear U K|apply st|(apply zk;intro K U)|refine zY ?_|(refine zb (fun hc=>?_) (fun hc=>?_)<;>try exact⟨⟩)|fail)<;>conv=>whnf)
     all_goals try(exfalso;omega)
     all_goals exact⟨hlt,x,rfl,⟨hx64,hbt.symm⟩,hs⟩
  .have hke3:k - 3=w.parents.length:=by omega
   rw[hke3]at hxe;rw[<-hxe]at hP;refine zz ?_;(repeat clear U K);repeat intro K U
   refine(hobj x hx64 _ hinv).use (rest:=[]) (by simpa using hsc hs) ?_;clear hs;rintro r post' Z ⟨rfl,es6,hx6,hi6,rfl⟩ hs;rw[D8]at hs;refine zz ?_;(repeat clear U K);repeat intro K U
   exact AJ ⟨_,⟨by rw[hP],es6,hx5.trans hx6,hi6,rfl⟩,hs⟩
def qI (w:AF) (hw:BR w) {kf:Int->List Int->Kn} (hr:DC w kf) (a:Int) {L:Nat}: ∀(d:Nat) (p:List Int),p.length+d=2-> ∀es,Bj kf es->
    BL zP 118 [.a (gv w (Ah w.parents) L),B2 a p] (Bs L es) fun r post=>r= .ret (.b (R3 w kf a d p))/\HU kf L es post:=by
 intro d
 induction d with
 | zero=>
   intro p hp es h;rw[R3];exact TK w hw hr (by omega) _ (fun s hs=>by rw[hr.short a p (by omega)]at hs;cases hs) h
 | succ d ih=>
   intro p hp es h;rw[R3];exact TK w hw hr (by omega) _ (fun s _ es h=>ih (p++[s]) (by simp;omega) es h) h
end Go.Gl
namespace Go.Gl
open Go.Proofs
def bK {Z Z2:AE} {v v':V} (h:FY Z Z2 v v'): ∀fi ca:List V,Ct Z Z2 (fi++[v]++ca) (fi++[v']++ca)
 | [],ca=> .cons h (bM ca)
 | x::r,ca=> .cons (.refl _) (bK h r ca)
where bM: ∀ca:List V,Ct Z Z2 ca ca
 | []=> .nil
 | x::r=> .cons (.refl _) (bM r)
def AAw {Z:AE} {sz:Nat} {es:List (List V)} {f:Bool} (he: ∀e∈es,e.length=sz) {K:V->AE->Prop} (hk:K (.l es true) Z):AP Z sz (.l es f) none (some (.i .i64 (es.length:Int))) (some (.i .i64 (es.length:Int))) K:=by
 refine⟨he,?_⟩;simp only[Ou];refine⟨Int.le_refl _,Int.natCast_nonneg _,Int.le_refl _,trivial,?_⟩;simpa using hk
attribute [local irreducible] As Ag AY AQ AL AX AP AR AK AW AM AN Ai Ap Sat AT An AZ W
def AAx (ls:List Fact) (b:Bool) (hl:ls.length<=1000000):Pure zP 268 [.l (Dt ls) b] (.l (Dt ls) true):=by
 have hM:=Mx;refine vj kZ ?_;have hs:=Sn;refine zz ?_;(repeat clear U K);repeat intro K U
 refine AAw (fun x hx=>by obtain⟨y,_,rfl⟩:=GK.1 hx;rfl) ?_;exact zW
def Zx (g:FuncId) (fi ca:List V) (H:List At) (kf:List Fact->Bool) (D:List Fact->Prop):Prop:= ∀l b,D l-> ∀Z,Sat Z H->As zP g (fi++[K6 l b]++ca) Z fun r Z'=>r= .ret (.b (kf l))/\Sat Z' H
def jn (f:Fact):Prop:= ∀(c:Bool) (g:FuncId) (fi ca:List V) (H:List At) (kf:List Fact->Bool) (D:List Fact->Prop) (l:List Fact) (b:Bool),
 Zx g fi ca H kf D->(∀x∈CO f c,D (l++x))->l.length+lv f<=500000-> ∀Z,Sat Z H->As zP 192 [.a (xF f),.b c,K6 l b,.f (.func g) fi ca] Z fun r Z'=>r= .ret (.b ((CO f c).any fun x=>kf (l++x)))/\Sat Z' H
def mP (A B:List (List Fact)) (kf:List Fact->Bool) (l:List Fact):((Ve A B).any fun x=>kf (l++x))=A.any fun x=>B.any fun y=>kf (l++x++y):=by
 rw[Hl,GY,GY];constructor
 .rintro⟨z,hz,h⟩
  obtain⟨x,hx,y,hy,rfl⟩:=Fk.1 hz;exact⟨x,hx,GY.2 ⟨y,hy,by rw[LC];exact h⟩⟩
 .rintro⟨x,hx,h⟩
  obtain⟨y,hy,h⟩:=GY.1 h;exact⟨x++y,Fk.2 ⟨x,hx,y,hy,rfl⟩,by rw[<-LC];exact h⟩
def oN {f k0 k1:Fact} (hk:f.kids= [k0,k1]) (hc1:jn k1) {c:Bool} {g:FuncId} {fi ca:List V} {H:List At} {kf:List Fact->Bool} {D:List Fact->Prop} (hT:Zx g fi ca H kf D) :
    Zx 267 [] [.rp (xF f),.rp [.b c],.rp [.f (.func g) fi ca]] H (fun m=>(CO k1 c).any fun y=>kf (m++y)) (fun m=>(∀y∈CO k1 c,D (m++y))/\m.length+lv k1<=500000):=by
 rintro m b ⟨hd,hml⟩ Z hs;have h1:f.kids[(1:Int).toNat]? =some k1:=by rw[hk];rfl
 show As zP 267 [K6 m b,.rp (xF f),.rp [.b c],.rp [.f (.func g) fi ca]] Z _;refine vq kZ ?_;refine zz ?_;(repeat clear U K);repeat intro K U
 refine As.mono (hc1 c g fi ca H kf D m b hT hd hml Z hs) ?_;clear hs;rintro r Z ⟨rfl,hs⟩;refine zz ?_;(repeat clear U K);repeat intro K U
 exact AJ ⟨rfl,hs⟩
def mG {w : AF} (f:Fact):Ae w f=true->lv f<=100->jn f:=by
 have hM:=Mx
 induction f using Fact.ind with
 | h f ih=>
   intro hn hv c g fi ca H kf D l b hT hd hll Z hs;have har:=Al _ hn
   have hnk: ∀k∈f.kids,Ae w k=true:=by
    rw[BS,A4,Cu]at hn;exact hn.2
   have hop:f.op=1\/f.op=5\/Be f=true\/f.op=6\/f.op=7:=by
    rw[BS,A4]at hn;have h1:=hn.1;simp only[CE,PY,A4]at h1;rw[Mw];simp only[A4,B7];have h2:=h1.1;split at h2
    .omega
    .split at h2
     .omega
     .simp only[EW,CF]at h2
      omega
   refine wx kZ ?_;have hcs:=K0 f c;rw[Px]at hcs;rcases hop with h1|h5|hl|h67
   .rw[if_pos h1]at hcs
    rw[hcs]at hd ⊢;cases c
    .rw[if_neg (by decide)]at hd ⊢
     have h0:=hT l b (by simpa using hd [] (.head _)) Z hs
     conv=>whnf
     repeat'((first|clear U K|apply st|(apply zk;intro K U)|refine zY ?_|(refine zb (fun hc=>?_) (fun hc=>?_)<;>try exact⟨⟩)|fail)<;>conv=>whnf)
     all_goals try(exfalso;omega)
     refine A0 (As.mono h0 ?_);clear hs h0;rintro r Z ⟨rfl,hs⟩;refine zz ?_;(repeat clear U K);repeat intro K U
     exact AJ ⟨by simp,hs⟩
    .rw[if_pos rfl]at hd ⊢
     conv=>whnf
     repeat'((first|clear U K|apply st|(apply zk;intro K U)|refine zY ?_|(refine zb (fun hc=>?_) (fun hc=>?_)<;>try exact⟨⟩)|fail)<;>conv=>whnf)
     all_goals try(exfalso;omega)
     exact AJ ⟨rfl,hs⟩
   .obtain⟨k,hk,-⟩:=ED har h5
    have hkm:k∈f.kids:=by rw[hk];exact .head _
    have hve:lv f=lv k:=by
     rw[Js f,Ze,if_pos h5,hk];rfl
    have hvk:lv k<=100:=by omega
    rw[if_neg (by omega),if_pos h5,hk]at hcs;have hcs2:CO f c=CO k (!c):=hcs;have h0:f.kids[(0:Int).toNat]? =some k:=by rw[hk];rfl
    rw[hcs2]at hd ⊢
    conv=>whnf
    repeat'((first|clear U K|apply st|(apply zk;intro K U)|refine zY ?_|(refine zb (fun hc=>?_) (fun hc=>?_)<;>try exact⟨⟩)|fail)<;>conv=>whnf)
    all_goals try(exfalso;omega)
    refine As.mono (ih k hkm (hnk k hkm) hvk (!c) g fi ca H kf D l b hT hd (by omega) Z hs) ?_;clear hs;rintro r Z ⟨rfl,hs⟩;refine zz ?_;(repeat clear U K);repeat intro K U
    exact AJ ⟨rfl,hs⟩
   .have hlo:=Fw hl
    rw[if_neg (by omega),if_neg (by omega),if_neg (by omega)]at hcs;have hcs2:CO f c= [[if c then Ca f else f]]:=by rw[hcs];cases c<;>rfl
    rw[hcs2]at hd ⊢;have c1:=AAx l b (by omega);have hd2:=hd _ (.head _);have e:Ja (if c then Ca f else f)=xF f++[.b c]:=Sy hl c
    conv=>whnf
    repeat'((first|clear U K|apply st|(apply zk;intro K U)|refine zY ?_|refine rk ?_ ?_|exact fun s e=>by cases e;rfl|refine zC ?_|(refine zb (fun hc=>?_) (fun hc=>?_)<;>try exact⟨⟩)|fail)<;>conv=>whnf)
    all_goals try(exfalso;omega)
    have hrow:([xF f++[.b c]]:List (List V))= [if c then Ca f else f].map Ja:=by rw[CK,List.map_nil,e]
    refine(?_:AL 88 Z 7 (.l (Dt l) true) (.l [xF f++[.b c]] true) _);rw[hrow];refine JI (enc:=Ja) (gP hs (es:=Dt l) (sz:=7) (fun x hx=>by obtain⟨y,_,rfl⟩:=GK.1 hx;rfl)) 0 (xs:=l) (ys:=[if c then Ca f else f]) rfl (b:=88) (by simp;omega) UB (fun v Z hs=>?_)
    conv=>whnf
    repeat'((first|apply st|refine rk ?_ ?_|exact fun s e=>by cases e;rfl|fail)<;>conv=>whnf)
    obtain⟨Z2,q1,q2,q3⟩:=HT hs 0 rfl;refine A0 (As.SO (As.mono (hT (l++[if c then Ca f else f]) false hd2 Z2 q3) ?_) q1 (bK q2 fi ca));clear hs q1 q2 q3;rintro r Z ⟨rfl,hs⟩;refine zz ?_;(repeat clear U K);repeat intro K U
    exact AJ ⟨by simp,hs⟩
   .obtain⟨k0,k1,hk,-,-⟩:=EC har h67
    have hkm0:k0∈f.kids:=by rw[hk];exact .head _
    have hkm1:k1∈f.kids:=by rw[hk];exact .tail _ (.head _)
    have hve:lv f=lv k0+lv k1:=by
     rw[Js f,Ze,if_neg (by omega),if_pos h67,hk];rfl
    have hvk:lv k0+lv k1<=100:=by omega
    rw[if_neg (by omega),if_neg (by omega),if_pos h67,hk]at hcs;have h0:f.kids[(0:Int).toNat]? =some k0:=by rw[hk];rfl
    have h1:f.kids[(1:Int).toNat]? =some k1:=by rw[hk];rfl
    have i0:=ih k0 hkm0 (hnk k0 hkm0) (by omega);have i1:=ih k1 hkm1 (hnk k1 hkm1) (by omega);by_cases hap:(c != (f.op==7))=true
    .rw [if_pos hap]at hcs
     have hcs2:CO f c=CO k0 c++CO k1 c:=hcs;rw[hcs2]at hd ⊢;rw[List.any_append];have hd3:=fun x hx=>hd x (NS _ hx)
     have hd4:=fun x hx=>hd x (NR _ hx)
     clear hcs hcs2 hd
     have h6b:(f.op==6)=c:=by
      rcases h67 with h6|h7
      .rw[h6]at hap ⊢;cases c<;>simp_all
      .rw[h7]at hap ⊢;cases c<;>simp_all
     rcases h67 with h6|h7
     all_goals
      cases c
      all_goals
       conv=>whnf
       repeat'((first|clear U K|apply st|(apply zk;intro K U)|refine zY ?_|(rw[h6b])|(refine zb (fun hc=>?_) (fun hc=>?_)<;>try exact⟨⟩)|fail)<;>conv=>whnf)
       all_goals try(exfalso;simp_all;done)
       all_goals try(exfalso;omega)
     .refine As.mono (i0 true g fi ca H kf D l b hT hd3 (by omega) Z hs) ?_
      clear hs;rintro r Z ⟨rfl,hs⟩;generalize hB0:((CO k0 true).any fun x=>kf (l++x))=B0;cases B0
      .refine zz ?_;(repeat clear U K);repeat intro K U
       refine As.mono (i1 true g fi ca H kf D l b hT hd4 (by omega) Z hs) ?_;clear hs;rintro r Z ⟨rfl,hs⟩;refine zz ?_;(repeat clear U K);repeat intro K U
       exact AJ ⟨by rw[hB0];rfl,hs⟩
      .refine zz ?_;(repeat clear U K);repeat intro K U
       exact AJ ⟨by rw[hB0];rfl,hs⟩
     .refine As.mono (i0 false g fi ca H kf D l b hT hd3 (by omega) Z hs) ?_
      clear hs;rintro r Z ⟨rfl,hs⟩;generalize hB0:((CO k0 false).any fun x=>kf (l++x))=B0;cases B0
      .refine zz ?_;(repeat clear U K);repeat intro K U
       refine As.mono (i1 false g fi ca H kf D l b hT hd4 (by omega) Z hs) ?_;clear hs;rintro r Z ⟨rfl,hs⟩;refine zz ?_;(repeat clear U K);repeat intro K U
       exact AJ ⟨by rw[hB0];rfl,hs⟩
      .refine zz ?_;(repeat clear U K);repeat intro K U
       exact AJ ⟨by rw[hB0];rfl,hs⟩
    .rw [if_neg hap]at hcs
     have hcs2:CO f c=Ve (CO k0 c) (CO k1 c):=hcs;rw[hcs2]at hd ⊢;rw[mP];have hlx:=RY k0 (Al _ (hnk k0 hkm0)) c;have hT2:=oN hk i1 (c:=c) hT;have hd5: ∀x∈CO k0 c,(∀y∈CO k1 c,D (l++x++y))/\(l++x).length+lv k1<=500000:=fun x hx=>⟨fun y hy=>by rw[LC];exact hd _ (Fk.2 ⟨x,hx,y,hy,rfl⟩),by have:=hlx x hx;rw[HQ];omega⟩
     have h6b:(f.op==6)= !c:=by
      rcases h67 with h6|h7
      .rw[h6]at hap ⊢;cases c<;>simp_all
      .rw[h7]at hap ⊢;cases c<;>simp_all
     have hrun:=fun Z hs=>i0 c 267 [] [.rp (xF f),.rp [.b c],.rp [.f (.func g) fi ca]] H _ _ l b hT2 hd5 (by omega) Z hs
     clear hcs hcs2 hd hd5 hT2;generalize ((CO k0 c).any fun x=>(CO k1 c).any fun y=>kf (l++x++y))=B0 at *;rcases h67 with h6|h7
     all_goals
      cases c
      all_goals
       conv=>whnf
       repeat'((first|clear U K|apply st|(apply zk;intro K U)|refine zY ?_|(rw[h6b])|(refine zb (fun hc=>?_) (fun hc=>?_)<;>try exact⟨⟩)|fail)<;>conv=>whnf)
       all_goals try(exfalso;simp_all;done)
       all_goals try(exfalso;omega)
     all_goals
      refine As.mono (hrun Z hs) ?_;clear hs;rintro r Z ⟨rfl,hs⟩;refine zz ?_;(repeat clear U K);repeat intro K U
      exact AJ ⟨rfl,hs⟩
end Go.Gl
namespace Go.Gl
open Go.Proofs
abbrev Th (p:Prog) (gen:Int) (ms:List Int):List V:=BF p++[eI gen,.l (iL ms) false]
structure Po (p:Prog) (ms:List Int):Prop where
 ok:FC p
 MN: ∀m∈ms,Bd p m=true
 few:ms.length<=8
def Bw (s n:Nat):List Bool:=(List.range n).map s.testBit
def TM (s n:Nat):(Bw s n).length=n:=by simp[Bw]
def XA {s n i:Nat} (h:i<n):(Bw s n)[i]? =some (s.testBit i):=by
 rw[Bw,LY,List.getElem?_range h];rfl
abbrev E5 (p:Prog) (ms:List Int):List Fact:=ms.map fun m=>(BY p m).fact
def Tv (g:FuncId) (fi ca:List V) (w:AF) (tog:List Fact->Bool):Prop:= ∀l b,(∀x∈l,DS w x)->l.length<900->Pure zP g (fi++[K6 l b]++ca) (.b (tog l))
abbrev gI (g:FuncId) (fi ca:List V) (p:Prog) (gen:Int) (ms:List Int) (s many nN:Nat):V:= .f (.func 191) [] [.rp [.f (.func g) fi ca],.rp [eI many],.rp (Th p gen ms),.rp [eU s],.p nN 0]
section
variable {g:FuncId} {fi ca:List V} {p:Prog} {gen:Int} {ms:List Int} {tog:List Fact->Bool}
def Vb (p:Prog) (ms:List Int) (s many i:Nat):List (List (List Fact)):=(cT ((E5 p ms).zip (Bw s many))).drop i
def dI {s many i:Nat} (h:many<=i):Vb p ms s many i= []:=List.drop_of_length_le (by simp[cT,TM];omega)
def kO {s many i:Nat} {m:Int} (h:i<many) (hm:ms[i]? =some m):Vb p ms s many i=CO (BY p m).fact (!s.testBit i)::Vb p ms s many (i+1):=by
 refine drop_cons ?_;have hz:((E5 p ms).zip (Bw s many))[i]? =some ((BY p m).fact,s.testBit i):=List.getElem?_zip_eq_some.2 ⟨by rw[LY,hm];rfl,XA h⟩;rw[cT,LY,hz];rfl
attribute [local irreducible] As Ag AY AQ AL AX AP AR AK AW AM AN Ai Ap Sat AT An AZ W
def oe (h:Po p ms) (hcan:Tv g fi ca (AH p) tog) {s many nN:Nat} (hs64:s<18446744073709551616) (hmn:many<=ms.length): ∀(d i:Nat) (l:List Fact) (b:Bool),i+d=many->(∀x∈l,DS (AH p) x)->l.length<=12*i-> ∀Z,Sat Z [.box nN [gI g fi ca p gen ms s many nN]]->
    As zP 191 [eI i,K6 l b,.rp [.f (.func g) fi ca],.rp [eI many],.rp (Th p gen ms),.rp [eU s],.p nN 0] Z fun r Z'=>r= .ret (.b (Ox tog (Vb p ms s many i) l))/\Sat Z' [.box nN [gI g fi ca p gen ms s many nN]]:=by
 have hM:=Mx;have hfew:=h.few;intro d
 induction d with
 | zero=>
   intro i l b hid hl hln Z hs;have c1:=hcan l b hl (by omega);rw[dI (by omega),Ox];cases ht:tog l<;>rw[ht]at c1
   all_goals
    refine Yc kZ ?_
    conv=>whnf
    repeat'((first|clear U K|apply st|(apply zk;intro K U)|refine zY ?_|refine rk ?_ ?_|exact fun s e=>by cases e;rfl|refine A0 (c1.use ?_)|(refine zb (fun hc=>?_) (fun hc=>?_)<;>try exact⟨⟩)|fail)<;>conv=>whnf)
    all_goals try(exfalso;simp at hc;omega)
    all_goals exact AJ ⟨rfl,hs⟩
 | succ d ih=>
   intro i l b hid hl hln Z hs;have c1:=hcan l b hl (by omega);obtain⟨m,hm⟩: ∃m,ms[i]? =some m:=⟨_,Cd (by omega)⟩
   have hmm:=h.MN m (B6 hm);have hmP:=Cm hmm;have hfa:=h.ok.facts _ (B6 hmP);rw[kO (by omega) hm,Ox];cases ht:tog l<;>rw[ht]at c1
   .refine Yc kZ ?_
    conv=>whnf
    repeat'((first|clear U K|apply st|(apply zk;intro K U)|refine zY ?_|refine A0 (c1.use ?_)|fail)<;>conv=>whnf)
    all_goals exact AJ ⟨rfl,hs⟩
   rw[Cc];have c2:=Zo s (i:Int) hs64 (by omega) (by omega);have hlits:=On _ hfa.1;have hcl:=RY _ (Al _ hfa.1);have hcas:=mG (BY p m).fact hfa.1 (by have:=hfa.2;omega);have hlv:=hfa.2;simp only[Bd,A4,B7]at hmm;have hm2:ms[((i:Nat):Int).toNat]? =some m:=by rw[GR];exact hm
   rw[GR]at c2;clear hfa;generalize BY p m=x at *
   have hT:Zx 193 [] [.p nN 0,.rp [eI i]] [.box nN [gI g fi ca p gen ms s many nN]] (Ox tog (Vb p ms s many (i+1))) (fun y=>(∀z∈y,DS (AH p) z)/\y.length<=12*(i+1)):=by
    rintro y b' ⟨hy1,hy2⟩ Z hs;have hi:=ih (i+1) y b' (by omega) hy1 hy2;have hwi:IntKind.i64.wrap ((i:Int)+1)=((i+1:Nat):Int):=by rw[wrap64 (by omega) (by omega)];omega
    show As zP 193 [K6 y b',.p nN 0,.rp [eI i]] Z _;refine wu kZ ?_;refine zz ?_;(repeat clear U K);repeat intro K U
    rw[hwi];refine A0 (As.mono (hi Z hs) ?_);clear hs;rintro r Z ⟨rfl,hs⟩;refine zz ?_;(repeat clear U K);repeat intro K U
    exact AJ ⟨rfl,hs⟩
   refine Yc kZ ?_
   conv=>whnf
   repeat'((first|clear U K|apply st|(apply zk;intro K U)|refine zY ?_|refine rk ?_ ?_|exact fun s e=>by cases e;rfl|refine A0 (c1.use ?_)|refine c2.use ?_|(refine zb (fun hc=>?_) (fun hc=>?_)<;>try exact⟨⟩)|fail)<;>conv=>whnf)
   all_goals try(exfalso;simp at hc;omega)
   refine As.mono (hcas (!s.testBit i) 193 [] [.p nN 0,.rp [eI i]] _ _ _ l b hT (fun c hc=>⟨fun z hz=>(Dn.1 hz).elim (hl z) (hlits _ c hc z),?_⟩) (by omega) Z hs) ?_
   .have:=hcl _ c hc
    rw[HQ];omega
   clear hs;rintro r Z ⟨rfl,hs⟩;refine zz ?_;(repeat clear U K);repeat intro K U
   all_goals exact AJ ⟨rfl,hs⟩
def fv (h:Po p ms) (hcan:Tv g fi ca (AH p) tog) {s many:Nat} (hs64:s<18446744073709551616) (hmn:many<=ms.length):Pure zP 190 [eU s,eI many,.rp [.f (.func g) fi ca],.rp (Th p gen ms)] (.b (DK tog (E5 p ms) (Bw s many))):=by
 refine Pure.of ?_;refine wy kZ ?_;have hs:=Sn
 conv=>whnf
 repeat'((first|clear U K|apply st|(apply zk;intro K U)|refine zY ?_|refine zs fun Z hs=>?_|refine zo fun nn hnn Z hs=>?_|fail)<;>conv=>whnf)
 refine A0 (As.mono (oe h hcan hs64 hmn many 0 [] true (by omega) (fun x hx=>by cases hx) (by simp) _ hs) ?_);clear hs;rintro r Z ⟨rfl,hs⟩;refine zz ?_;(repeat clear U K);repeat intro K U
 exact AJ rfl
end
end Go.Gl
namespace Go.Gl
open Go.Proofs
attribute [local irreducible] As Ag AY AQ AL AX AP AR AK AW AM AN Ai Ap Sat AT An AZ W
def kR {n k:Nat} (h:k<n):(Aw n)[k]? =some (k:Int):=by
 rw[Aw,LY,List.getElem?_range h];rfl
end Go.Gl
namespace Go.Gl
open Go.Proofs
def WJ {w:AF} (hw:BR w) {ls:List Fact} (h: ∀x∈ls,DS w x) (hlen:ls.length<900):DC w (kg ls):=by
 have hadd:=Ko (by have:=hw.1.1;omega) h;have hr:=US hw h hlen;have hW: ∀x∈ls,CQ w x:=fun x hx=>EB (h x hx)
 refine⟨fun a p=>?_,fun a p=>?_,fun a p hpl=>?_,fun a p s hs=>gL hW hs⟩
 .obtain⟨h1,h2,h3,h4⟩:=iI hadd a p
  exact⟨h1,h2,by omega,by omega⟩
 .rw[(Km (Gt ls a p).core).1]
  exact hr.low a p
 .have h0:=hr.short a p hpl
  refine List.eq_nil_iff_forall_not_mem.2 fun s hs=>?_
  have:=((Gt ls a p).AI s).1 hs;rw[h0]at this;cases this
attribute [local irreducible] As Ag AY AQ AL AX AP AR AK AW AM AN Ai Ap Sat AT An AZ W
def Vu {kf:Int->List Int->Kn} {L:Nat} (g:FuncId) (fi ca:List V) (can:Int->Bool) (hcan: ∀a:Int,0<=a->a<3-> ∀es,Bj kf es->BL zP g (fi++[B2 a []]++ca) (Bs L es) fun r post=>r= .ret (.b (can a))/\HU kf L es post) {es:List Bv} (h:Bj kf es) :
    BL zP 116 [.f (.func g) fi ca] (Bs L es) fun r post=>r= .ret (.b ((Aw 3).all can))/\HU kf L es post:=by
 intro Z hs;have hM:=Mx;have hT:(Aw 3).all can=(Aw 3).all can:=rfl;generalize hR:(Aw 3).all can=R at hT ⊢;refine xp kZ ?_;refine zz ?_;(repeat clear U K);repeat intro K U
 refine B4 3 (fun k (_:List Bv)=>[(4,eI (A7 k))]) (fun _ x=>Bs L x) (fun k x=>(Bj kf x/\Jc es x)/\R=((Aw 3).drop k).all can) es rfl ⟨⟨h,.refl _⟩,hR.symm⟩ hs ?_;clear hs hR hT;rintro k x Z hk ⟨⟨hi,hx⟩,hn⟩ hs;have hck:A7 k=k:=AS (by omega);rcases Nat.lt_or_ge k 3 with hlt|hge
 .rw[drop_cons (kR hlt),Ri]at hn
  have hc1:=hcan (A7 k) (by omega) (by omega) x hi;have e:can (A7 k)=can (k:Int):=by rw[hck]
  rw[e]at hc1;cases hB:can (k:Int)<;>rw[hB]at hn hc1
  all_goals
   conv=>whnf
   repeat'((first|clear U K|apply st|(apply zk;intro K U)|refine zY ?_|(refine zb (fun hc=>?_) (fun hc=>?_)<;>try exact⟨⟩)|fail)<;>conv=>whnf)
   refine A0 (hc1.use (rest:=[]) (by simpa using hs) ?_);clear hs;rintro r post Z ⟨rfl,es2,hx2,hi2,rfl⟩ hs;rw[D8]at hs;refine zz ?_;(repeat clear U K);repeat intro K U
  .exact AJ ⟨_,⟨by rw[hn];rfl,es2,hx.trans hx2,hi2,rfl⟩,hs⟩
  .exact⟨hlt,es2,rfl,⟨⟨hi2,hx.trans hx2⟩,by rw[hn];rfl⟩,hs⟩
 .rw[List.drop_of_length_le (by rw[G1];omega)]at hn
  conv=>whnf
  repeat'((first|clear U K|apply st|(apply zk;intro K U)|refine zY ?_|(refine zb (fun hc=>?_) (fun hc=>?_)<;>try exact⟨⟩)|fail)<;>conv=>whnf)
  all_goals try(exfalso;omega)
  all_goals exact AJ ⟨_,⟨by rw[hn];rfl,x,hx,hi,rfl⟩,hs⟩
def dY (w:AF) (hw:BR w):Tv 115 [] [.rp [.rp (gW w (Ah w.parents))]] w (mw w):=by
 intro l b hl hlen;refine Pure.of ?_;show As zP 115 [K6 l b,.rp [.rp (gW w (Ah w.parents))]] _ _;have hr:=WJ hw hl hlen;have hlk:=XK w (Ah w.parents) l b (Ko (by have:=hw.1.1;omega) hl) hlen;have hT:mw w l=(Aw 3).all fun a=>R3 w (kg l) a 2 []:=rfl
 rw[hT];refine xq kZ ?_;have hs:=Sn;refine zz ?_;(repeat clear U K);repeat intro K U
 refine hlk.use (rest:=[]) (by simpa using hs) ?_;clear hs;rintro r post Z ⟨L,es,rfl,hinv,rfl⟩ hs;rw[D8]at hs
 conv=>whnf
 refine(Vu 118 [.a (gv w (Ah w.parents) L)] [] (fun a=>R3 w (kg l) a 2 []) (fun a _ _ es hi=>qI w hw hr a 2 [] rfl es hi) hinv).use (rest:=[]) (by simpa using hs) ?_;clear hs;rintro r post Z ⟨rfl,es2,hx2,hi2,rfl⟩ hs;refine zz ?_;(repeat clear U K);repeat intro K U
 exact AJ rfl
end Go.Gl
namespace Go.Gl
open Go.Proofs
abbrev yT (w:AF) (us:List Nat) (L:Nat) (cs:List Int) (f:Bool):List V:=[.rp (gW w us),.m L,.l (iL cs) f]
attribute [local irreducible] As Ag AY AQ AL AX AP AR AK AW AM AN Ai Ap Sat AT An AZ W
def TL (w : AF) (hw:BR w) {kf:Int->List Int->Kn} (hr:DC w kf) (cs:List Int) (f:Bool) (hcs:cs.length<=3) {a:Int} (ha:0<=a) {p:List Int} (hp:p.length<=2) (fit:Nat->Bool) (hfit:p= []/\fit=Jb cs a\/p≠[]/\fit=fun _=>true) (can:Int->Bool) {L:Nat}
    (hcan: ∀s∈(kf a p).AI,∀es,Bj kf es->BL zP 181 [.a (yT w (Ah w.parents) L cs f),B2 a (p++[s])] (Bs L es) fun r post=>r= .ret (.b (can s))/\HU kf L es post) {es:List Bv} (h:Bj kf es) :
    BL zP 181 [.a (yT w (Ah w.parents) L cs f),B2 a p] (Bs L es) fun r post=>r= .ret (.b ((List.range (3+w.parents.length)).any fun c=>decide (1<=c)&&(fit c&&VP w kf a p can c)))/\HU kf L es post:=by
 intro Z hs;have hM:=Mx;have hu:mb (Ah w.parents):=D0 _ _ (by have:=hw.1.1;omega);have hul:(Ah w.parents).length=3+w.parents.length:=Cf _ _;have hwp:=hw.1.1;have hint:=fun es (h:Bj kf es)=>yu w hr h (L:=L) (a:=a) hp
 have hnon:=fun es (h:Bj kf es)=>qv w hr h (L:=L) (a:=a) hp
 have hobj:=fun up hup es (hi:Bj kf es)=>aV w hw (Ah w.parents) hr hp up hup 181 [.a (yT w (Ah w.parents) L cs f)] [] can (L:=L) hcan (es:=es) hi
 have hcP: ∀c,VP w kf a p can c=if c=1 then Dq kf a p else if c=2 then CR kf a p else Rz w kf a p ((Ah w.parents).getD c 0) can:=fun _=>rfl
 generalize VP w kf a p can=cP at *;generalize Ah w.parents=us at *;have eul:((us.map fun u=>[eU u]).length:Int)=us.length:=by simp
 have hR0:((List.range (3+w.parents.length)).any fun c=>decide (1<=c)&&(fit c&&cP c))=((List.range us.length).drop 1).any fun c=>decide (1<=c)&&(fit c&&cP c):=by
  rw[hul,show 3+w.parents.length=(2+w.parents.length)+1 by omega,List.range_succ_eq_map];simp
 generalize ((List.range (3+w.parents.length)).any fun c=>decide (1<=c)&&(fit c&&cP c))=R at *;refine xC kZ ?_;refine zz ?_;(repeat clear U K);repeat intro K U
 refine B4 (us.length - 1) (fun k (_:List Bv)=>[(5,eI ((k+1:Nat):Int))]) (fun _ x=>Bs L x) (fun k x=>(Bj kf x/\Jc es x)/\R=((List.range us.length).drop (k+1)).any fun c=>decide (1<=c)&&(fit c&&cP c)) es rfl ⟨⟨h,.refl _⟩,hR0⟩ hs ?_;clear hs hR0;rintro k x Z hk ⟨⟨hi,hx⟩,hn⟩ hs;have hwk:IntKind.i64.wrap (((k+1:Nat):Int)+1)=((k+1+1:Nat):Int):=by rw[wrap64 (by omega) (by omega)];omega
 rcases Nat.lt_or_ge k (us.length - 1)with hlt|hge
 .have hrk : (List.range us.length)[k+1]? =some (k+1):=List.getElem?_range (by omega)
  rw[drop_cons hrk,Rq,decide_eq_true (show 1<=k+1 by omega),Cc]at hn;obtain⟨u,hu2⟩: ∃u,us[k+1]? =some u:=⟨_,Cd (by omega)⟩
  have hu3:us[(((k+1:Nat):Int)).toNat]? =some u:=by rw[GR];exact hu2
  have hug:us.getD (k+1) 0=u:=by rw[Cq,hu2];rfl
  have hu64:u<18446744073709551616:=hu u (B6 hu2);have hck:=hcP (k+1);rw[hug]at hck
  have d216:k+1<3->BL zP 199 [.a (gv w us L),B2 a p,eI ((k+1:Nat):Int)] (Bs L x) fun r post=>r= .ret (.b (cP (k+1)))/\HU kf L x post:=fun h3=>by
   rcases k with _|_|k
   .rw[hck];exact hint x hi
   .rw[hck];exact hnon x hi
   .omega
  have d217:3<=k+1->BL zP 200 [.a (gv w us L),B2 a p,eU u,.f (.func 181) [.a (yT w us L cs f)] []] (Bs L x) fun r post=>r= .ret (.b (cP (k+1)))/\HU kf L x post:=fun h3=>by
   rw[hck,if_neg (by omega),if_neg (by omega)];exact hobj u hu64 x hi
  clear hck hint hnon hobj hcP;generalize cP (k+1)=B at *;rcases hfit with⟨rfl,rfl⟩|⟨hpn,rfl⟩
  .by_cases hac:a<(cs.length:Int)
   .obtain ⟨y,hy⟩: ∃y,cs[a.toNat]? =some y:=⟨_,Cd (by omega)⟩
    have hfv:Jb cs a (k+1)=(y==((k+1:Nat):Int)):=by
     rw[Jb,decide_eq_false (by omega),Bool.false_or,Cq,hy];rfl
    rw[hfv]at hn;by_cases hyk:y=((k+1:Nat):Int)
    .rw [CF.2 hyk,Cc]at hn
     cases B
     all_goals
      conv=>whnf
      repeat'((first|clear U K|apply st|(apply zk;intro K U)|refine zY ?_|(refine zb (fun hc=>?_) (fun hc=>?_)<;>try exact⟨⟩)|fail)<;>conv=>whnf)
      all_goals try(exfalso;omega)
      all_goals try(exfalso;simp at hc;done)
      all_goals
       first
        | refine(d216 (by omega)).use (rest:=[]) (by simpa using hs) ?_
        | refine(d217 (by omega)).use (rest:=[]) (by simpa using hs) ?_
       clear hs;rintro r post Z ⟨rfl,es2,hx2,hi2,rfl⟩ hs;rw[D8]at hs
       conv=>whnf
       repeat'((first|clear U K|apply st|(apply zk;intro K U)|refine zY ?_|(refine zb (fun hc=>?_) (fun hc=>?_)<;>try exact⟨⟩)|fail)<;>conv=>whnf)
       first
        | exact AJ ⟨_,⟨by rw[hn];rfl,es2,hx.trans hx2,hi2,rfl⟩,hs⟩
        | exact⟨by omega,es2,by rw[hwk];rfl,⟨⟨hi2,hx.trans hx2⟩,by rw[hn];rfl⟩,hs⟩
    .rw[beq_eq_false_iff_ne.2 hyk,Bool.false_and,Bool.false_or]at hn
     conv=>whnf
     repeat'((first|clear U K|apply st|(apply zk;intro K U)|refine zY ?_|(refine zb (fun hc=>?_) (fun hc=>?_)<;>try exact⟨⟩)|fail)<;>conv=>whnf)
     all_goals try(exfalso;omega)
     all_goals try(exfalso;simp at hc;done)
     all_goals try exact absurd (by assumption) hyk
     all_goals try exact absurd rfl (by assumption)
     all_goals exact⟨by omega,x,by rw[hwk];rfl,⟨⟨hi,hx⟩,hn⟩,hs⟩
   .have hfv:Jb cs a (k+1)=true:=by rw[Jb,decide_eq_true (by omega)];rfl
    rw[hfv,Cc]at hn;cases B
    all_goals
     conv=>whnf
     repeat'((first|clear U K|apply st|(apply zk;intro K U)|refine zY ?_|(refine zb (fun hc=>?_) (fun hc=>?_)<;>try exact⟨⟩)|fail)<;>conv=>whnf)
     all_goals try(exfalso;omega)
     all_goals try(exfalso;simp at hc;done)
     all_goals
      first
       | refine(d216 (by omega)).use (rest:=[]) (by simpa using hs) ?_
       | refine(d217 (by omega)).use (rest:=[]) (by simpa using hs) ?_
      clear hs;rintro r post Z ⟨rfl,es2,hx2,hi2,rfl⟩ hs;rw[D8]at hs
      conv=>whnf
      repeat'((first|clear U K|apply st|(apply zk;intro K U)|refine zY ?_|(refine zb (fun hc=>?_) (fun hc=>?_)<;>try exact⟨⟩)|fail)<;>conv=>whnf)
      first
       | exact AJ ⟨_,⟨by rw[hn];rfl,es2,hx.trans hx2,hi2,rfl⟩,hs⟩
       | exact⟨by omega,es2,by rw[hwk];rfl,⟨⟨hi2,hx.trans hx2⟩,by rw[hn];rfl⟩,hs⟩
  .rw [Cc]at hn
   have hpl:p.length≠0:=fun e=>hpn (Xv.1 e)
   cases B
   all_goals
    conv=>whnf
    repeat'((first|clear U K|apply st|(apply zk;intro K U)|refine zY ?_|(refine zb (fun hc=>?_) (fun hc=>?_)<;>try exact⟨⟩)|fail)<;>conv=>whnf)
    all_goals try(exfalso;omega)
    all_goals try(exfalso;simp at hc;done)
    all_goals
     first
      | refine(d216 (by omega)).use (rest:=[]) (by simpa using hs) ?_
      | refine(d217 (by omega)).use (rest:=[]) (by simpa using hs) ?_
     clear hs;rintro r post Z ⟨rfl,es2,hx2,hi2,rfl⟩ hs;rw[D8]at hs
     conv=>whnf
     repeat'((first|clear U K|apply st|(apply zk;intro K U)|refine zY ?_|(refine zb (fun hc=>?_) (fun hc=>?_)<;>try exact⟨⟩)|fail)<;>conv=>whnf)
     first
      | exact AJ ⟨_,⟨by rw[hn];rfl,es2,hx.trans hx2,hi2,rfl⟩,hs⟩
      | exact⟨by omega,es2,by rw[hwk];rfl,⟨⟨hi2,hx.trans hx2⟩,by rw[hn];rfl⟩,hs⟩
 .rw[List.drop_of_length_le (by rw[zrC];omega),List.any_nil]at hn
  conv=>whnf
  repeat'((first|clear U K|apply st|(apply zk;intro K U)|refine zY ?_|(refine zb (fun hc=>?_) (fun hc=>?_)<;>try exact⟨⟩)|fail)<;>conv=>whnf)
  all_goals try(exfalso;omega)
  all_goals exact AJ ⟨_,⟨by rw[hn],x,hx,hi,rfl⟩,hs⟩
def qJ (w:AF) (hw:BR w) {kf:Int->List Int->Kn} (hr:DC w kf) (cs:List Int) (f:Bool) (hcs:cs.length<=3) {a:Int} (ha:0<=a) {L:Nat}: ∀(d:Nat) (fit:Nat->Bool) (p:List Int),p.length+d=2->(p= []/\fit=Jb cs a\/p≠[]/\fit=fun _=>true)-> ∀es,Bj kf es->
    BL zP 181 [.a (yT w (Ah w.parents) L cs f),B2 a p] (Bs L es) fun r post=>r= .ret (.b (R4 w kf a d fit p))/\HU kf L es post:=by
 intro d
 induction d with
 | zero=>
   intro fit p hp hfit es h;rw[R4];exact TL w hw hr cs f hcs ha (by omega) fit hfit _ (fun s hs=>by rw[hr.short a p (by omega)]at hs;cases hs) h
 | succ d ih=>
   intro fit p hp hfit es h;rw[R4];exact TL w hw hr cs f hcs ha (by omega) fit hfit _ (fun s _ es h=>ih (fun _=>true) (p++[s]) (by simp;omega) (.inr ⟨by simp,rfl⟩) es h) h
def O9 (w:AF) (hw:BR w) (cs:List Int) (f:Bool) (hcs:cs.length<=3):Tv 180 [] [.rp [.rp (gW w (Ah w.parents))],.rp [.l (iL cs) f]] w (Ji w cs):=by
 intro l b hl hlen;refine Pure.of ?_;show As zP 180 [K6 l b,.rp [.rp (gW w (Ah w.parents))],.rp [.l (iL cs) f]] _ _;have hr:=WJ hw hl hlen;have hlk:=XK w (Ah w.parents) l b (Ko (by have:=hw.1.1;omega) hl) hlen;have hT:Ji w cs l=(Aw 3).all fun a=>R4 w (kg l) a 2 (Jb cs a) []:=rfl
 rw[hT];refine xD kZ ?_;have hs:=Sn;refine zz ?_;(repeat clear U K);repeat intro K U
 refine hlk.use (rest:=[]) (by simpa using hs) ?_;clear hs;rintro r post Z ⟨L,es,rfl,hinv,rfl⟩ hs;rw[D8]at hs
 conv=>whnf
 repeat'((first|apply st|refine rk ?_ ?_|exact fun s e=>by cases e;rfl|fail)<;>conv=>whnf)
 refine(Vu 181 [.a (yT w (Ah w.parents) L cs f)] [] (fun a=>R4 w (kg l) a 2 (Jb cs a) []) (fun a h0 _ es hi=>qJ w hw hr cs f hcs h0 2 (Jb cs a) [] rfl (.inl ⟨rfl,rfl⟩) es hi) hinv).use (rest:=[]) (by simpa using hs) ?_;clear hs;rintro r post Z ⟨rfl,es2,hx2,hi2,rfl⟩ hs;refine zz ?_;(repeat clear U K);repeat intro K U
 exact AJ rfl
end Go.Gl
