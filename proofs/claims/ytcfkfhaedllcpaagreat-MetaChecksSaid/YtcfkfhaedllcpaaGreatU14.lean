import Derived.KernelRfl
import Derived.Test.YtcfkfhaedllcpaaGreatProg
import Derived.Shelf.Sort.Plain
import Derived.Test.YtcfkfhaedllcpaaGreatU11
import Derived.Test.YtcfkfhaedllcpaaGreatU13
set_option linter.all false
set_option linter.defProp false
set_option maxHeartbeats 8000000
noncomputable section
namespace Go.Gl
variable {P:Program} {Z:AE}
abbrev eU (n:Nat):V:= .i .u64 (n:Int)
def Gu {n:Nat} (h:n<18446744073709551616):IntKind.u64.wrap (n:Int)=n:=by
 simp only[IntKind.wrap,IntKind.signed,IntKind.bits];simp;omega
def Kp {a b:Nat} (ha:a<18446744073709551616) (hb:b<18446744073709551616):bits .or .u64 (a:Int) (b:Int)=((a|||b:Nat):Int):=by
 have h:a|||b<2 ^ 64:=Nat.or_lt_two_pow (n:=64) (by simpa using ha) (by simpa using hb)
 simp only[bits,IntKind.bits]
 have e1:(BitVec.ofInt 64 (a:Int)|||BitVec.ofInt 64 (b:Int)).toNat=a|||b:=by
  simp only[BitVec.ofInt_natCast,BitVec.toNat_or,BitVec.toNat_ofNat];rw[Nat.mod_eq_of_lt (by simpa using ha),Nat.mod_eq_of_lt (by simpa using hb)]
 have e2:=Gu (n:=a|||b) (by simpa using h);rw[<-e1]at e2;rw[<-e1];exact e2
def XQ {a b:Nat} (ha:a<18446744073709551616) (hb:b<18446744073709551616):bits .and .u64 (a:Int) (b:Int)=((a&&&b:Nat):Int):=by
 have h:a&&&b<2 ^ 64:=Nat.and_lt_two_pow (n:=64) a (by simpa using hb);simp only[bits,IntKind.bits]
 have e1:(BitVec.ofInt 64 (a:Int)&&&BitVec.ofInt 64 (b:Int)).toNat=a&&&b:=by
  simp only[BitVec.ofInt_natCast,BitVec.toNat_and,BitVec.toNat_ofNat];rw[Nat.mod_eq_of_lt (by simpa using ha),Nat.mod_eq_of_lt (by simpa using hb)]
 have e2:=Gu (n:=a&&&b) (by simpa using h);rw[<-e1]at e2;rw[<-e1];exact e2
def SZ {c:Nat} (h:c<64):IntKind.u64.wrap (1*2 ^ (min c IntKind.u64.bits))=((2 ^ c:Nat):Int):=by
 have hb:IntKind.u64.bits=64:=rfl;rw[hb,Nat.min_eq_left (by omega),Int.one_mul];have:=Gu (n:=2 ^ c) (by have:=Nat.pow_lt_pow_right (show 1<2 by omega) h;simpa using this);rw[<-this];simp
def LF {c:Nat} (h:c<64):2 ^ c<18446744073709551616:=by
 have:=Nat.pow_lt_pow_right (show 1<2 by omega) h;simpa using this
def YA {a c:Nat} (h:c<64):(a:Int).fdiv (2 ^ (min c IntKind.u64.bits))=((a >>> c:Nat):Int):=by
 have hb:IntKind.u64.bits=64:=rfl;rw[hb,Nat.min_eq_left (by omega),Nat.shiftRight_eq_div_pow,Int.fdiv_eq_ediv_of_nonneg _ (Int.pow_nonneg (by omega))];simp
def Cy {v:V} {Q:R->AE->Prop} (h:Q (.BL v) Z):Au Z v Q:=⟨v,Z,fun _ _ h=>h,.refl v,h⟩
def Ct {g:FuncId} {fi ca args:List V} {Q:R->AE->Prop} (h:BD P g (fi++args++ca) Z Q):BF P (.f (.func g) fi ca) args Z Q:=h
def Pure.of {f:FuncId} {args:List V} {v:V} (h:BD P f args emp fun r _=>r= .ret v):Pure P f args v:=by
 refine⟨h.1,fun F w cs hR hv=>Calls.mono (h.2 F w cs hR hv) fun e w' ⟨r,Z',hr,h1,h2,h3⟩=>?_⟩;subst hr;obtain⟨c,rfl,hv'⟩:=h1;have hsub:Sub emp Z':=fun n o ho=>by cases ho
 exact⟨.ret v,emp,⟨rfl,rfl⟩,⟨c,rfl,EL.rel h2 hsub (.refl v) hv'⟩,h2.drop hsub,⟨h3.frame,h3.size,h3.os,h3.tape,h3.output,fun _ _ _=>rfl⟩⟩
def Dm {α S:Type} (P:Program) (x:V) (ea:α->V) (H:S->List At) (stp:α->S->Bool×S) (D:α->S->Prop):Prop:=
 ∀y s,D y s-> ∀Z,Sat Z (H s)->BF P x [ea y] Z fun r Z'=>r= .ret (.b (stp y s).1)/\Sat Z' (H (stp y s).2)
def Dm.use {α S:Type} {x:V} {ea:α->V} {H:S->List At} {stp:α->S->Bool×S} {D:α->S->Prop} (h:Dm P x ea H stp D) {y:α} {s:S} (hd:D y s) (hs:Sat Z (H s)) {k kp:V->AE->Prop} (hk: ∀Z',Sat Z' (H (stp y s).2)->k (.b (stp y s).1) Z'):BF P x [ea y] Z (qk k kp):=
 (h y s hd Z hs).mono fun r Z' ⟨e,h'⟩=>by rw[e];exact hk Z' h'
def Dm.jY {α S:Type} {g:FuncId} {fi ca:List V} {ea:α->V} {H:S->List At} {stp:α->S->Bool×S} {D:α->S->Prop} (h:Dm P (.f (.func g) fi ca) ea H stp D) {y:α} {s:S} (hd:D y s) {rest:List At} (hs:Sat Z (H s++rest)) {k kp:V->AE->Prop} (hk: ∀Z',Sat Z' (H (stp y s).2++rest)->k (.b (stp y s).1) Z'):BF P (.f (.func g) fi ca) [ea y] Z (qk k kp):=by
 refine Ct ?_;have h1:Cl P g (fi++[ea y]++ca) (H s) fun r post=>r= .ret (.b (stp y s).1)/\post=H (stp y s).2:=fun Z hs=>BD.mono (h y s hd Z hs) fun r Z' ⟨e,h2⟩=>⟨_,⟨e,rfl⟩,h2⟩
 refine h1.use hs ?_;rintro r post Z' ⟨rfl,rfl⟩ hs';exact hk Z' hs'
def CN {α S:Type} (stp:α->S->Bool×S):List α->Nat->S->Int×S
 | [],_,s=>(-1,s)
 | y::r,k,s=>if(stp y s).1 then((k:Int),(stp y s).2)else CN stp r (k+1) (stp y s).2
def FU {α S:Type} (stp:α->S->Bool×S):List α->S->Bool×S
 | [],s=>(true,s)
 | y::r,s=>if(stp y s).1 then FU stp r (stp y s).2 else(false,(stp y s).2)
def Up {α S:Type} (stp:α->S->Bool×S) (D:α->S->Prop):List α->S->Prop
 | [],_=>True
 | y::r,s=>D y s/\Up stp D r (stp y s).2
def Jt {α S:Type} {stp:α->S->Bool×S}: ∀(xs:List α) (k:Nat) (s:S),(CN (fun y s=>(!(stp y s).1,(stp y s).2)) xs k s).2=(FU stp xs s).2/\(decide ((CN (fun y s=>(!(stp y s).1,(stp y s).2)) xs k s).1≥0)= !(FU stp xs s).1)
 | [],_,_=>⟨rfl,rfl⟩
 | y::r,k,s=>by
   simp only[CN,FU];cases h:(stp y s).1
   .simp
   .simpa using Jt r (k+1) (stp y s).2
def OC {α S:Type} {stp:α->S->Bool×S} {D:α->S->Prop}: ∀(xs:List α) (s:S),Up stp D xs s->Up (fun y s=>(!(stp y s).1,(stp y s).2)) D xs s
 | [],_,_=>trivial
 | _::r,_,h=>⟨h.1,OC r _ h.2⟩
def HO {α:Type} (f:α->Bool): ∀(xs:List α),FU (fun y (_:Unit)=>(f y,())) xs ()=(xs.all f,())
 | []=>rfl
 | y::r=>by
   simp only[FU,NV];cases f y
   .rfl
   .simpa using HO f r
def JU {α S:Type} {stp:α->S->Bool×S} {D:α->S->Prop}: ∀ {xs:List α} {s:S},(∀y∈xs,∀s,D y s)->Up stp D xs s
 | [],_,_=>trivial
 | y::r,s,h=>⟨h y (.head _) s,JU fun z hz=>h z (.tail _ hz)⟩
end Go.Gl
namespace Go.Gl
variable {P:Program} {Z:AE}
def Sat.fl {l:List At} {a:At} (h:Sat Z (l++[a])):Sat Z (a::l):=h.perm (by
 have:=fj (l₁:=l) (l₂:=[a])
 simpa using this)
def IQ {l:List At} (h:Sat Z l) (sz:Nat):Sat Z (.own (.l [] true) sz []::l):=(Gg h sz).fl
def Zw {l:List At} (h:Sat Z l) {sz:Nat} {es:List (List V)} (hs: ∀e∈es,e.length=sz):Sat Z (.own (.l es true) sz es::l):=(bC h hs).fl
def NY {l:List At} {o:O} {n:Nat} {K:Prop} {Z':AE} (e:BO Z n o=Z') (hk:Sat Z' (.obj n o::l)->K) (hn:Z n=none:=by assumption) (h:Sat Z l:=by assumption):K:=hk (e ▸ (VB h hn).fl)
def H6 {α:Type}: ∀ {l:List α} {j:Nat} {a:α},l[j]? =some a->l.Perm (a::l.eraseIdx j)
 | x::r,0,a,h=>by simp at h;subst h;simp
 | x::r,j+1,a,h=>by
   simp only[fk]at h;simp only[List.eraseIdx_cons_succ];exact((H6 h).cons x).trans (.swap _ _ _)
def Sat.front {l:List At} {j:Nat} {a:At} (h:Sat Z l) (hj:l[j]? =some a):Sat Z (a::l.eraseIdx j):=h.perm (H6 hj)
def Sat.back {l:List At} {j:Nat} {a:At} (h:Sat Z (a::l.eraseIdx j)) (hj:l[j]? =some a):Sat Z l:=h.perm (H6 hj).symm
def Cl.Zn {f:FuncId} {args:List V} {a:At} {Φ:R->Prop} (h:Cl P f args [a] fun r post=>Φ r/\post= [a]) {l:List At} {j:Nat} (hs:Sat Z l) (hj:l[j]? =some a) {Q:R->AE->Prop} (hk: ∀r Z',Φ r->Sat Z' l->Q r Z'):BD P f args Z Q:=by
 refine h.use (rest:=l.eraseIdx j) (hs.front hj) ?_;rintro r post Z' ⟨hr,rfl⟩ hs';exact hk r Z' hr (Sat.back hs' hj)
def fX {l:List At} {i n off:Nat} {vs:List V} {x:V} {K:AE->Prop} (hk: ∀Z',Sat Z' (l.set i (.box n (vs.set off x)))->K Z') (h:Sat Z l:=by assumption)
    (hi:l[i]? =some (.box n vs):=by first|exact ML|exact MK|exact MJ|exact MI|exact MH|exact MG)
    (h1:Bm x=true:=by first|rfl|exact FF (by assumption) 0 rfl|exact FF (by assumption) 1 rfl|exact FF (by assumption) 2 rfl|exact FF (by assumption) 3 rfl|(simp<;>fail)) (ho:off+1<=vs.length:=by exact Nat.le_of_ble_eq_true rfl):AV Z 1 (.p n off) x K:=
 Ia h i hi h1 ho hk
def Qe {l:List At} {i n off sz:Nat} {vs vc:List V} {x:V} {K:AE->Prop} (hk: ∀Z',Sat Z' (l.set i (.box n (putAt vs off vc)))->K Z') (h:Sat Z l:=by assumption)
    (hi:l[i]? =some (.box n vs):=by first|exact ML|exact MK|exact MJ|exact MI|exact MH|exact MG)
    (hc:cellsOf x=some vc:=by rfl) (hl:vc.length=sz:=by rfl) (h1:vc.all Bm=true:=by first|rfl|(simp<;>fail)|(simp[*]<;>fail)) (ho:off+sz<=vs.length:=by exact Nat.le_of_ble_eq_true rfl):AV Z sz (.p n off) x K:=
 Ht h i hi hc hl h1 ho hk
def iw {sz m n o:Nat} {ki:IntKind} {j:Int} {K:V->Prop} (h:K (.p n (o+j.toNat*sz))) (h0:0<=j:=by omega) (h1:j<m:=by omega):AS sz (some m) (.p n o) (.i ki j) K:=⟨h0,h1,h⟩
def pV {sz m:Nat} {cs:List V} {ki:IntKind} {j:Int} {K:V->Prop} (h:K (.rp (cs.drop (j.toNat*sz)))) (h0:0<=j:=by omega) (h1:j<m:=by omega):AS sz (some m) (.rp cs) (.i ki j) K:=⟨h0,h1,h⟩
def cM {l:List At} (h:Sat Z l) (i:Nat) {v:V} {sz:Nat} {es es':List (List V)} (hi:l[i]? =some (.own v sz es)) (he: ∀Z2,DU Z Z2 es es'): ∃Z2,Sub Z2 Z/\EL Z Z2 v (.l es' false)/\Sat Z2 (l.eraseIdx i):=by
 rcases h.get hi with⟨rfl,_⟩|⟨n,cap,rfl,hn⟩
 .exact⟨Z,fun _ _ h=>h,.l (fun h=>(by cases h)) (he _),h.less (List.eraseIdx_sublist _ _)⟩
 .refine⟨del Z n,ER Z n,.arr hn (Ca Z n) rfl (he _),?_⟩
  refine⟨fun b hb=>?_,h.2.sublist (List.eraseIdx_sublist _ _)⟩;refine D4 (h.1 b (List.mem_of_mem_eraseIdx hb)) fun m hm=>?_
  rw[FM];intro e;subst e;exact Dd h.2 hi b hb m rfl hm
def gI {l:List At} (h:Sat Z l) {sz:Nat} {z:List V} {n m:Nat} {K:V->AE->Prop} (hnm:n<=m) (hn:m<=1073741824) (hk: ∀v Z',Sat Z' (.own v sz (List.replicate n z)::l)->(∃id,v= .sl id n m)->K v Z') {ki kj:IntKind} :
    AM Z sz z (.i ki (n:Int)) (.i kj (m:Int)) K:=by
 refine⟨by omega,by omega,by omega,fun id hid=>?_⟩;simp only[MF];refine hk _ _ (h.add (a:= .own (.sl id n m) sz (List.replicate n z)) (fun b hb=>D4 hb fun m hm=>?_) (fun b hb m hm hb'=>?_) (.inr ⟨id,m,by simp,by simp[BO]⟩)).fl ⟨id,rfl⟩
 .obtain⟨o,ho⟩:=CC hb hm
  rw[B2];intro e;subst e;rw[hid]at ho;cases ho
 .cases hm
  obtain⟨o,ho⟩:=CC hb hb';rw[hid]at ho;cases ho
def aG {Z:AE} {l:List At} {i:Nat} {v:V} {sz:Nat} {es:List (List V)} (hs:Sat Z l) (hi:l[i]? =some (.own v sz es)) (he: ∀e∈es,e.length=sz) (hm:es.length<=AX) {K:V->AE->Prop} (hk: ∀Z',Sat Z' (l.eraseIdx i)->K (.l es true) Z'):AU Z sz v none (some (.i .i64 (es.length:Int))) (some (.i .i64 (es.length:Int))) K:=by
 rcases hs.get hi with⟨rfl,_⟩|⟨n,cap,rfl,hn⟩
 .refine⟨he,?_⟩
  simp only[MC];refine⟨Int.le_refl _,Int.natCast_nonneg _,Int.le_refl _,trivial,?_⟩;have:=hk Z (hs.less (List.eraseIdx_sublist _ _));simpa using this
 .unfold AU
  simp only[MC];refine⟨Int.le_refl _,Int.natCast_nonneg _,Int.le_refl _,trivial,trivial,trivial,?_⟩;rw[hn];refine⟨rfl,rfl,rfl,.inl (hk _ ?_)⟩;refine⟨fun b hb=>?_,hs.2.sublist (List.eraseIdx_sublist _ _)⟩;refine D4 (hs.1 b (List.mem_of_mem_eraseIdx hb)) fun m hm=>?_
  rw[FM];intro e;subst e;exact Dd hs.2 hi b hb m rfl hm
end Go.Gl
namespace Go.Gl
variable {P:Program} {Z:AE} {env:Env}
structure Hd (G:Prop):Prop where
 h:G
class KI (K:Env->AE->Prop) (A:outParam (Env->AE->Prop)):Prop where
 h: ∀env Z,A env Z->K env Z
class KJ (K:(Env->AE->Prop)×(Env->V->AE->Prop)) (A:outParam (Env->AE->Prop)) (B:outParam (Env->V->AE->Prop)):Prop where
 h: ∀env Z,A env Z->K.1 env Z
 g: ∀env v Z,B env v Z->K.2 env v Z
class KN (K:(Env->AE->Prop)×(V->AE->Prop)) (A:outParam (Env->AE->Prop)) (B:outParam (V->AE->Prop)):Prop where
 h: ∀env Z,A env Z->K.1 env Z
 g: ∀v Z,B v Z->K.2 v Z
instance (priority:=low) {K A:Env->AE->Prop} [i:KI K A]:Ku (K env Z) (A env Z):=⟨i.h _ _⟩
instance {K:(Env->AE->Prop)×(Env->V->AE->Prop)} {A:Env->AE->Prop} {B:Env->V->AE->Prop} [i:KJ K A B]:Ku (K.1 env Z) (A env Z):=⟨i.h _ _⟩
instance {K:(Env->AE->Prop)×(Env->V->AE->Prop)} {A:Env->AE->Prop} {B:Env->V->AE->Prop} {v:V} [i:KJ K A B]:Ku (K.2 env v Z) (B env v Z):=⟨i.g _ _ _⟩
instance {K:(Env->AE->Prop)×(V->AE->Prop)} {A:Env->AE->Prop} {B:V->AE->Prop} [i:KN K A B]:Ku (K.1 env Z) (A env Z):=⟨i.h _ _⟩
instance {K:(Env->AE->Prop)×(V->AE->Prop)} {A:Env->AE->Prop} {B:V->AE->Prop} {v:V} [i:KN K A B]:Ku (K.2 v Z) (B v Z):=⟨i.g _ _⟩
instance {A:Prop}:Ku (DA P [] env Z/\A) A:=⟨dr⟩
class ZK (G:Prop) (α:outParam Type) (β:outParam (α->Prop)) (G':outParam (α->Prop)):Prop where
 h:(∀x,β x->G' x)->G
def zk {G:Prop} {α:Type} {β G':α->Prop} [i:ZK G α β G'] (h: ∀x,β x->G' x):G:=i.h h
instance {l:List Nat} {a b:AK} {Q:AR->Env->AE->Prop}:ZK (W P (.seq l a b) Q env Z) (Env->AE->Prop) (fun K=>KI K fun env Z=>pk l env fun E=>W P b Q E Z) (fun K=>W P a (AR.andThen K Q) env Z):=⟨fun h=>sq fun K U=>h K ⟨U⟩⟩
instance {ops:List Ad} {Q:AR->Env->AE->Prop}:ZK (W P (.Bh ops) Q env Z) ((Env->AE->Prop)×(Env->V->AE->Prop)) (fun K=>KJ K (fun env Z=>Q .normal env Z) fun env v Z=>Q (.BL v) env Z) (fun K=>WT P ops K.1 K.2 env Z):=⟨fun h=>By fun A B hA hB=>h (A,B) ⟨hA,hB⟩⟩
instance {l:List Nat} {ops:List B0} {Q:AR->Env->AE->Prop}:ZK (W P (.DH l ops) Q env Z) ((Env->AE->Prop)×(V->AE->Prop)) (fun K=>KN K (fun env Z=>pk l env fun E=>Q .normal E Z) fun v Z=> ∀Z',Sub Z Z'->Q (.BL v) [] Z') (fun K=>WD P ops K.1 K.2 env Z):=⟨fun h=>F9 fun A B hA hB=>h (A,B) ⟨hA,hB⟩⟩
def zg {G G':Prop} (h:G') (t:Hd G'->G:=by
 intro h
 (first|refine⟨rfl,?_⟩|refine⟨kZ,?_⟩|fail)
 exact h.h):G:=t ⟨h⟩
def zn {G G':Prop} (h:G') (t:Hd G'->G:=by
 intro h
 (first|refine⟨rfl,?_⟩|refine⟨kZ,?_⟩|refine ld ?_|refine ix ?_|refine iu ?_|refine ie ?_|refine oi ?_|refine oc ?_|refine af ?_|fail)
 exact h.h):G:=t ⟨h⟩
def zX {G G':Prop} (h:G') (t:Hd G'->G:=by
 intro h
 (first|refine⟨rfl,?_⟩|refine⟨kZ,?_⟩|refine ix ?_|refine iu ?_|refine ie ?_|refine gF ?_|refine Xb ?_|refine lo ?_|refine pA ?_|refine ld ?_|refine oi ?_|refine oc ?_|refine pD ?_|refine pF ?_|refine gD ?_|refine pC ?_|refine af ?_|refine Xe ?_|refine U0 ?_|refine Nn ?_|refine No ?_|(refine MN (fun hc=>?_);(try rw[hc]);clear hc)|(refine Qg (fun hc=>?_);(try rw[hc]);clear hc)|fail)
 exact h.h):G:=t ⟨h⟩
def zY {G G':Prop} (h:G') (t:Hd G'->G:=by
 intro h
 (first|refine⟨rfl,?_⟩|refine⟨kZ,?_⟩|refine ix ?_|refine iu ?_|refine ie ?_|refine iw ?_|refine pV ?_|refine gF ?_|refine Xb ?_|refine lo ?_|refine pA ?_|refine ld ?_|refine oi ?_|refine oc ?_|refine pD ?_|refine pF ?_|refine gD ?_|refine pC ?_|refine af ?_|refine Xe ?_|refine U0 ?_|refine Nn ?_|refine No ?_|(refine MN (fun hc=>?_);(try rw[hc]);clear hc)|(refine Qg (fun hc=>?_);(try rw[hc]);clear hc)|fail)
 exact h.h):G:=t ⟨h⟩
def zC {G G':Prop} (h:G') (t:Hd G'->G:=by
 intro h
 first|refine c1.use ?_|refine c2.use ?_|refine c3.use ?_|refine c4.use ?_|refine c5.use ?_|refine c6.use ?_|refine c0.use ?_|refine Pure.use (by assumption) ?_|fail
 exact h.h):G:=t ⟨h⟩
def zs {G:Prop} {α:Type} {β G':α->Prop} (h: ∀x,β x->G' x) (t:Hd (∀x,β x->G' x)->G:=by
 intro h
 first|refine pB fun Z hs=>?_|refine fX fun Z hs=>?_|refine Qe fun Z hs=>?_|refine oset fun Z hs=>?_|fail
 exact h.h Z hs):G:=t ⟨h⟩
def zr {G:Prop} {α:Type} {β G':α->Prop} (h: ∀x,β x->G' x) (t:Hd (∀x,β x->G' x)->G:=by
 intro h
 first|refine pB fun Z hs=>?_|refine s1 fun Z hs=>?_|refine sn fun Z hs=>?_|refine oset fun Z hs=>?_|fail
 exact h.h Z hs):G:=t ⟨h⟩
def ze {G:Prop} {α:Type} {β G':α->Prop} (h: ∀x,β x->G' x) (t:Hd (∀x,β x->G' x)->G:=by
 intro h
 first|refine pU fun x hx=>?_|refine iq fun x hx=>?_|refine ol fun x hx=>?_|refine pS fun x hx=>?_|fail
 exact h.h x hx):G:=t ⟨h⟩
def zo {G:Nat->Prop} {β:Nat->Prop} {γ G':Nat->AE->Prop} (h: ∀n,β n-> ∀Z,γ n Z->G' n Z) (t:Hd (∀n,β n-> ∀Z,γ n Z->G' n Z)-> ∀n,β n->G n:=by
 intro h nn hnn;generalize hg:BO _ nn _=Z;refine NY hg fun hs=>?_
 clear hg
 exact h.h nn hnn Z hs): ∀n,β n->G n:=t ⟨h⟩
def zp {G:Nat->Prop} {β:Nat->Prop} {γ G':Nat->AE->Prop} (h: ∀n,β n-> ∀Z,γ n Z->G' n Z) (t:Hd (∀n,β n-> ∀Z,γ n Z->G' n Z)-> ∀n,β n->G n:=by
 intro h nn hnn;generalize hg:BO _ nn _=Z;refine al hg fun hs=>?_
 clear hg
 exact h.h nn hnn Z hs): ∀n,β n->G n:=t ⟨h⟩
def zb {A B:Prop} {b c d:Bool} {p q A' B':Prop} (h1:p->A') (h2:q->B')
    (t1 : Hd (p->A')->b=c->A:=by
     intro h hc
     (try rw[hc])
     replace hc:=bp hc
     first
      | (refine False.elim ((fun(_:Hd (False->True))=>(?_:False)) h);(try simp(disch:=omega) only[BW,wrap64,AJ]at hc);first|done|omega|fail)
      | ((try simp(disch:=omega) only[BW,wrap64,AJ]at hc);exact h.h hc)
      | fail)
    (t2 : Hd (q->B')->b=d->B:=by
     intro h hc
     (try rw[hc])
     replace hc:=bp hc
     first
      | (refine False.elim ((fun(_:Hd (False->True))=>(?_:False)) h);(try simp(disch:=omega) only[BW,wrap64,AJ]at hc);first|done|omega|fail)
      | ((try simp(disch:=omega) only[BW,wrap64,AJ]at hc);exact h.h hc)
      | fail):(b=c->A)/\(b=d->B):=⟨t1 ⟨h1⟩,t2 ⟨h2⟩⟩
def za {A B:Prop} {b c d:Bool} {p q A' B':Prop} (h1:p->A') (h2:q->B')
    (t1:Hd (p->A')->b=c->A:=by intro h hc;(try rw[hc]);replace hc:=bp hc;exact h.h hc)
    (t2:Hd (q->B')->b=d->B:=by intro h hc;(try rw[hc]);replace hc:=bp hc;exact h.h hc):(b=c->A)/\(b=d->B):=⟨t1 ⟨h1⟩,t2 ⟨h2⟩⟩
def zd {A B:Prop} {b c d:Bool} {p q A' B':Prop} (h1:p->A') (h2:q->B')
    (t1 : Hd (p->A')->b=c->A:=by
     intro h hc
     (try rw[hc])
     replace hc:=bp hc
     first
      | (refine False.elim ((fun(_:Hd (False->True))=>(?_:False)) h);simp(disch:=omega) only[BW,wrap64,AJ]at hc;done)
      | ((try simp(disch:=omega) only[BW,wrap64,AJ]at hc);exact h.h hc)
      | fail)
    (t2 : Hd (q->B')->b=d->B:=by
     intro h hc
     (try rw[hc])
     replace hc:=bp hc
     first
      | (refine False.elim ((fun(_:Hd (False->True))=>(?_:False)) h);simp(disch:=omega) only[BW,wrap64,AJ]at hc;done)
      | ((try simp(disch:=omega) only[BW,wrap64,AJ]at hc);exact h.h hc)
      | fail):(b=c->A)/\(b=d->B):=⟨t1 ⟨h1⟩,t2 ⟨h2⟩⟩
def zh {G G':Prop} (h:G') (t:Hd G'->G:=by
 intro h
 conv=>whnf
 repeat((first|clear hKz Kz|apply st|(apply zk;intro Kz hKz)|refine zg ?_|fail);try(conv=>whnf))
 repeat(first|clear hKz Kz|revert hKz Kz)
 exact h.h):G:=t ⟨h⟩
def zu {G G':Prop} (h:G') (t:Hd G'->G:=by
 intro h
 conv=>whnf
 repeat((first|clear hKz Kz|apply st|(apply zk;intro Kz hKz)|refine zn ?_|fail);try(conv=>whnf))
 repeat(first|clear hKz Kz|revert hKz Kz)
 exact h.h):G:=t ⟨h⟩
def zv {G G':Prop} (h:G') (t:Hd G'->G:=by
 intro h
 conv=>whnf
 repeat((first|clear hKz Kz|apply st|(apply zk;intro Kz hKz)|refine zX ?_|fail);try(conv=>whnf))
 repeat(first|clear hKz Kz|revert hKz Kz)
 exact h.h):G:=t ⟨h⟩
def zz {G G':Prop} (h:G') (t:Hd G'->G:=by
 intro h
 conv=>whnf
 repeat((first|clear hKz Kz|apply st|(apply zk;intro Kz hKz)|refine zY ?_|fail);try(conv=>whnf))
 repeat(first|clear hKz Kz|revert hKz Kz)
 exact h.h):G:=t ⟨h⟩
def zW {G:Prop} (t:G:=by
 conv=>whnf
 repeat'((first|clear U K|apply st|(apply zk;intro K U)|refine zY ?_|refine ze fun x hx=>?_|refine zs fun Z hs=>?_|refine zC ?_|(refine zb (fun hc=>?_) (fun hc=>?_)<;>try exact⟨⟩)|refine zo fun nn hnn Z hs=>?_|fail)<;>try(conv=>whnf))
 all_goals first|exact AF rfl|fail):G:=t
end Go.Gl
namespace Go.Gl
def pH (n:Nat):List Nat->List Nat
 | []=>[n]
 | x::r=>bif Nat.beq n x then x::r else bif Nat.ble n x then n::x::r else x::pH n r
def fe:List Nat->List Nat->List Nat
 | [],l=>l
 | n::r,l=>fe r (pH n l)
def jT (n:Nat):List Nat->List Nat
 | []=>[]
 | x::r=>bif Nat.beq x n then r else x::jT n r
def jS:List Nat->List Nat->List Nat
 | [],l=>l
 | n::r,l=>jS r (jT n l)
def qU (o:Ad) (n:List Nat):List Nat:=fe (looks o) (match o.dst with|some d=>jT d n|none=>n)
def bH:List Ad->List Nat->List Nat
 | [],n=>n
 | o::r,n=>qU o (bH r n)
def pG (i:Nat):List (Nat×List Nat)->List Nat
 | []=>[]
 | (j,l)::r=>bif Nat.beq i j then l else pG i r
def Qh (rs:List Nat):AK->List (Nat×List Nat)->List Nat->List Nat
 | .skip,_,n=>n
 | .ret,_,_=>rs
 | .exit i,X,_=>pG i X
 | .Bh ops,_,n=>bH ops n
 | .DH _ ops,_,n=>bH (ops.map (·.o)) n
 | .seq _ a b,X,n=>Qh rs a X (Qh rs b X n)
 | .cond c a b,X,n=>fe (rd c) (fe (Qh rs a X n) (Qh rs b X n))
 | .block i a,X,n=>Qh rs a ((i,n)::X) n
 | .scope a,X,n=>Qh rs a X n
 | .Co _ g ps a b,_,n=>fe (rd g) (fe n (jS ps (Qh [] a [] (Qh [] b [] []))))
 | .loop _ a,X,_=>Qh rs a X []
def TW (rs:List Nat):AK->List (Nat×List Nat)->List Nat->AK
 | .skip,_,_=> .skip
 | .ret,_,_=> .ret
 | .exit i,_,_=> .exit i
 | .Bh ops,_,_=> .Bh ops
 | .DH _ ops,_,n=> .DH n ops
 | .seq _ a b,X,n=> .seq (Qh rs b X n) (TW rs a X (Qh rs b X n)) (TW rs b X n)
 | .cond c a b,X,n=> .cond c (TW rs a X n) (TW rs b X n)
 | .block i a,X,n=> .block i (TW rs a ((i,n)::X) n)
 | .scope a,X,n=> .scope (TW rs a X n)
 | .Co _ g ps a b,_,_=> .Co (jS ps (Qh [] a [] (Qh [] b [] []))) g ps (TW [] a [] (Qh [] b [] [])) (TW [] b [] [])
 | .loop _ a,X,_=> .loop (Qh rs a X []) (TW rs a X (Qh rs a X []))
variable {P:Program}
def ou (P:Program) (k n:Nat) (ac:AK) (rs:List Nat):Prop:= ∀ ⦃args:List V⦄,args.length<=n-> ∀ ⦃Z:AE⦄ ⦃Q:R->AE->Prop⦄,W P ac (X2 rs Q) (Al 0 args) Z->BD P k args Z Q
def iZ (P:Program) (k n:Nat) (ac:AK) (rs:List RS):Prop:= ∀ ⦃args:List V⦄,args.length<=n-> ∀ ⦃Z:AE⦄ ⦃Q:R->AE->Prop⦄,W P ac (O6 rs Q) (Al 0 args) Z->BD P k args Z Q
def ff:RS->Nat
 | .t n=>n
 | .c n _=>n
def cX {k n:Nat} {fn:Func} {ac:AK} {rs:List Nat} (pu fz:List Nat) (hf:P.funcs[k]? =some fn)
    (hn:fn.ntmps=n:=by conv=>lhs;reduce)
    (hr:Ek fn.results.toList=some rs:=by conv=>lhs;reduce)
    (hc:TW rs ((fn.body.bind (res P fn.ntmps pu fz)).getD .skip) [] rs=ac:=by conv=>lhs;reduce;try simp only[Int.reduceOfNat,Int.reduceNegSucc])
    (hb:fn.body.bind (res P fn.ntmps pu fz)=some (erase ac):=by kernel_rfl) (hok:okF P k=true:=by kernel_rfl):ou P k n ac rs:=
 fun _ ha _ _ h=>L4 hf hok hb hr (hn ▸ ha) (ah h)
def ae {k n:Nat} {fn:Func} {ac:AK} {rs:List RS} (pu fz:List Nat) (hf:P.funcs[k]? =some fn)
    (hn:fn.ntmps=n:=by conv=>lhs;reduce)
    (hr:JH P fn.results.toList=some rs:=by conv=>lhs;reduce)
    (hc:TW (rs.map ff) ((fn.body.bind (res P fn.ntmps pu fz)).getD .skip) [] (rs.map ff)=ac:=by conv=>lhs;reduce;try simp only[Int.reduceOfNat,Int.reduceNegSucc])
    (hb:fn.body.bind (res P fn.ntmps pu fz)=some (erase ac):=by kernel_rfl) (hok:okF P k=true:=by kernel_rfl):iZ P k n ac rs:=
 fun _ ha _ _ h=>CO hf hok hb hr (hn ▸ ha) (ah h)
end Go.Gl
namespace Go.Gl
open Go.Proofs
end Go.Gl
namespace Go.Gl
variable {P:Program} {Z:AE}
def ja {n sz len cap:Nat} {ki:IntKind} {j:Int} {K:V->AE->Prop} (h:K (.sv n sz j.toNat ((len:Int) - j).toNat) Z) (h0:0<=j:=by omega) (h1:j<=(len:Int):=by omega):AU Z sz (.sl n len cap) (some (.i ki j)) none none K:=by
 unfold AU;simp only[MC];exact⟨h0,h1,Int.le_refl _,h⟩
def jb {n sz len cap:Nat} {ki:IntKind} {j:Int} {K:V->AE->Prop} (h:K (.sv n sz 0 j.toNat) Z) (h0:0<=j:=by omega) (h1:j<=(len:Int):=by omega):AU Z sz (.sl n len cap) none (some (.i ki j)) none K:=by
 unfold AU;simp only[MC];refine⟨Int.le_refl _,h0,h1,?_⟩;simpa using h
def hZ {l:List At} (h:Sat Z l) (i:Nat) {n len cap sz:Nat} {es ys:List (List V)} {f:Bool} {K:V->AE->Prop} (hi:l[i]? =some (.own (.sl n len cap) sz es)) (hle:ys.length<=es.length) (hys: ∀e∈ys,e.length=sz) (ho: ∀e∈ys,∀v∈e,Bm v=true)
    (hk: ∀Z',Sat Z' (l.set i (.own (.sl n len cap) sz (ys++es.drop ys.length)))->K (.i .i64 (ys.length:Nat)) Z'):An Z sz (.sl n len cap) (.l ys f) K:=by
 rcases h.get hi with⟨h1,_⟩|⟨n',cap',h1,hn⟩
 .cases h1
 cases h1;unfold An;refine⟨hys,ho,?_⟩;simp only[Kx,hn];have hm:min ys.length es.length=ys.length:=Nat.min_eq_left hle;refine⟨trivial,by omega,?_⟩;rw[hm];refine hk _ ?_;simp only[List.take_zero,List.nil_append,List.take_length,Ex];refine h.change hi (fun b hb ha=>D4 hb fun m hm=>?_) (fun b hb ha m hm=>ha m hm) (.inr ⟨n,cap,by simp;omega,by simp[BO]⟩);rw[B2];intro e;subst e;exact ha m rfl hm
def hX {l:List At} (h:Sat Z l) (i:Nat) {n len cap sz a b c:Nat} {es:List (List V)} {K:V->AE->Prop} (hi:l[i]? =some (.own (.sl n len cap) sz es)) (hbc:a+b<=es.length) (hc:c<=es.length) (hys: ∀e∈es,e.length=sz) (ho: ∀e∈es,∀v∈e,Bm v=true)
    (hk: ∀Z',Sat Z' (l.set i (.own (.sl n len cap) sz (es.take a++((es.take c).take (min c b)++es.drop (a+min c b)))))->K (.i .i64 (min c b:Nat)) Z'):An Z sz (.sv n sz a b) (.sv n sz 0 c) K:=by
 rcases h.get hi with⟨h1,_⟩|⟨n',cap',h1,hn⟩
 .cases h1
 cases h1;unfold An;simp only[rowsOf,hn];have hl:((es.drop 0).take c).length=c:=by simp;omega
 refine⟨trivial,trivial,by omega,fun e he v hv=>ho e (List.mem_of_mem_take (by simpa using he)) v hv,trivial,?_⟩;simp only[Kx,hn,List.drop_zero];refine⟨trivial,by omega,?_⟩;have hl2:(es.take c).length=c:=by simp;omega
 rw[hl2];refine hk _ ?_;refine h.change hi (fun b hb ha=>D4 hb fun m hm=>?_) (fun b hb ha m hm=>ha m hm) (.inr ⟨n,cap,by simp;omega,by simp[BO]⟩);rw[B2];intro e;subst e;exact ha m rfl hm
end Go.Gl
namespace Go.Gl
variable {P:Program} {Z:AE}
def Sat.up {Z':AE} {l:List At} (h:Sat Z l) (hs:Sub Z Z'):Sat Z' l:=by
 refine⟨fun a ha=>?_,h.2⟩;have:=h.1 a ha;cases a with
 | obj n o=>exact hs n o this
 | own v sz es=>
   rcases this with h|⟨n,cap,e,hn⟩
   .exact .inl h
   .exact .inr ⟨n,cap,e,hs n _ hn⟩
def Sat.del {l:List At} {n:Nat} {o:O} (h:Sat Z (.obj n o::l)):Sat (del Z n) l:=by
 refine⟨fun b hb=>D4 (h.1 b (.tail _ hb)) fun m hm=>?_,(List.pairwise_cons.1 h.2).2⟩;rw[FM];intro e;subst e;exact(List.pairwise_cons.1 h.2).1 b hb m rfl hm
def Sat.oq {l:List At} {n:Nat} {o:O} (h:Sat Z l) (hn:Z n=none):Sat (BO Z n o) (.obj n o::l):=(VB h hn).fl
def Sat.new {l:List At} {n:Nat} {o o':O} (h:Sat Z (.obj n o::l)):Sat (BO Z n o') (.obj n o'::l):=bB (i:=0) h rfl o'
def Cj {v:V} {Q:R->AE->Prop} (h:Q (.ret v) Z):A3 Z v Q:=⟨v,Z,fun _ _ h=>h,.refl v,h⟩
inductive Rd (S:Type) where
 | go (s:S)
 | stop (st:ft) (s:S)
 | BL (v:V)
def Zj {S:Type} (L:Nat) (E:Env) (ok:FuncId->Array Tmp->Code->Code->Nat->Prop) (H:S->List At) (J:S->Prop) (rest:List At) (yes no:V):Rd S->R->AE->Prop
 | .go s,r,Z=>r= .ret yes/\Sat Z (.obj L (.loop .ready E ok)::(H s++rest))
 | .stop st s,r,Z=>r= .ret no/\Sat Z (.obj L (.loop st E ok)::(H s++rest))
 | .BL v,r,Z=>r= .BL v/\ ∃s,J s/\Sat (del Z L) (H s++rest)
def LM {α S:Type} (P:Program) (L:Nat) (E:Env) (ok:FuncId->Array Tmp->Code->Code->Nat->Prop) (ea:α->List V) (H:S->List At) (J:S->Prop) (stp:α->S->Rd S) (D:α->S->Prop):Prop:=
 ∀y s,D y s-> ∀(rest:List At) (Z:AE),Sat Z (.obj L (.loop .ready E ok)::(H s++rest))->Nq P L (ea y) Z (Zj L E ok H J rest (.b true) (.b false) (stp y s))
def LM.use {α S:Type} {L:Nat} {E:Env} {ok:FuncId->Array Tmp->Code->Code->Nat->Prop} {ea:α->List V} {H:S->List At} {J:S->Prop} {stp:α->S->Rd S} {D:α->S->Prop} (h:LM P L E ok ea H J stp D) {y:α} {s:S} (hd:D y s) {rest:List At} (hs:Sat Z (.obj L (.loop .ready E ok)::(H s++rest)))
    {Q:R->AE->Prop} (hk: ∀r Z',Zj L E ok H J rest (.b true) (.b false) (stp y s) r Z'->Q r Z'):BF P (.f (.yield L) [] []) (ea y) Z Q:=(h y s hd rest Z hs).mono hk
def R4 {L:Nat} {env:Env} {ps:List Nat} {a b:AK} (hσ:Z L=some (.loop .ready env (Bg P ps a b))) {args:List V} (hl:args.length=ps.length) {Q:R->AE->Prop}
    (h:W P a (CA (W P b fun ex env' Z'=>Z' L=none->RI L env (Bg P ps a b) Q ex env' Z')) (Dq ps args env) (del Z L)):Nq P L args Z Q:=
 L5 hσ hl (RH h (Hf fun _ _ h=>ah h))
def QD {α S:Type} {L:Nat} {E:Env} {ps:List Nat} {a b:AK} {ea:α->List V} {H:S->List At} {J:S->Prop} {stp:α->S->Rd S} {D:α->S->Prop} (hl: ∀y,(ea y).length=ps.length)
    (h: ∀y s,D y s-> ∀(rest:List At) (Z:AE),Sat Z (H s++rest)->W P a (CA (W P b fun ex env' Z'=>Z' L=none->RI L E (Bg P ps a b) (Zj L E (Bg P ps a b) H J rest (.b true) (.b false) (stp y s)) ex env' Z')) (Dq ps (ea y) E) Z):LM P L E (Bg P ps a b) ea H J stp D:=
 fun y s hd rest Z hs=>R4 (hs.get (i:=0) rfl) (hl y) (h y s hd rest _ hs.del)
def Wb {S:Type} {L:Nat} {E:Env} {ok:FuncId->Array Tmp->Code->Code->Nat->Prop} {H:S->List At} {J:S->Prop} {rest:List At} {o:Rd S} {s:S} (h:o= .go s) (hs:Sat Z (H s++rest)) (hn:Z L=none) :
    Zj L E ok H J rest (.b true) (.b false) o (.ret (.b true)) (BO Z L (.loop .ready E ok)):=by
 subst h;exact⟨rfl,hs.oq hn⟩
def My {S:Type} {L:Nat} {E:Env} {ok:FuncId->Array Tmp->Code->Code->Nat->Prop} {H:S->List At} {J:S->Prop} {rest:List At} {o:Rd S} {s:S} {v:V} (h:o= .BL v) (hj:J s) (hs:Sat Z (H s++rest)) (hn:Z L=none) :
    Zj L E ok H J rest (.b true) (.b false) o (.BL v) Z:=by
 subst h;refine⟨rfl,s,hj,fun a ha=>D4 (hs.1 a ha) fun n hd=>?_,hs.2⟩;obtain⟨o,ho⟩:=CC (hs.1 a ha) hd;rw[FM];intro e;subst e;rw[hn]at ho;cases ho
def Wc {L:Nat} {E env:Env} {ok:FuncId->Array Tmp->Code->Code->Nat->Prop} {Q:AR->Env->AE->Prop} {l:List At} {v:V} (hs:Sat Z (.obj L (.loop .ready E ok)::l)) (hk: ∀Z',Sat Z' l->Q .normal env Z'):Jf L Q env (.ret v) Z:=
 ⟨_,_,_,hs.get (i:=0) rfl,hk _ hs.del⟩
end Go.Gl
namespace Go.Gl
variable {P:Program} {Z:AE}
def aN {α S:Type} (P:Program) (x:V) (ea:α->V) (H:S->List At) (f:α->Bool) (J:S->Prop) (D:α->Prop):Prop:=
 ∀y s,D y->J s-> ∀Z,Sat Z (H s)->BF P x [ea y] Z fun r Z'=>r= .ret (.b (f y))/\ ∃s',J s'/\Sat Z' (H s')
def aN.use {α S:Type} {x:V} {ea:α->V} {H:S->List At} {f:α->Bool} {J:S->Prop} {D:α->Prop} (h:aN P x ea H f J D) {y:α} {s:S} (hd:D y) (hj:J s) (hs:Sat Z (H s)) {k kp:V->AE->Prop} (hk: ∀s' Z',J s'->Sat Z' (H s')->k (.b (f y)) Z'):BF P x [ea y] Z (qk k kp):=
 (h y s hd hj Z hs).mono fun r Z' ⟨e,s',hj',h'⟩=>by rw[e];exact hk s' Z' hj' h'
end Go.Gl
namespace Go.Proofs
open Go.Shelf
def Tryz.QN:Go.Shelf.Ren:=⟨fun|189=>279|125=>309|257=>308|128=>351|129=>352|294=>342|295=>343|296=>344|297=>345|298=>346|299=>347|216=>348|300=>349|301=>350|328=>374|329=>375|330=>376|331=>377|332=>378|215=>379|343=>389|n=>n,fun|28=>23|3=>3|46=>222|0=>0|51=>294|53=>297|4=>4|183=>399|182=>398|131=>292|5=>5|9=>9|218=>414|222=>393|228=>426|229=>427|n=>n,fun|n=>n⟩
def Tryz.Yj:Go.Proofs.Lays.n189 Tryz.prog Tryz.QN:={
 mixed:=by kernel_rfl
 f125:=Tryz.func309.trans (congrArg some (by kernel_rfl))
 f128:=Tryz.func351.trans (congrArg some (by kernel_rfl))
 f129:=Tryz.func352.trans (congrArg some (by kernel_rfl))
 f189:=Tryz.func279.trans (congrArg some (by kernel_rfl))
 f215:=Tryz.func379.trans (congrArg some (by kernel_rfl))
 f216:=Tryz.func348.trans (congrArg some (by kernel_rfl))
 f257:=Tryz.func308.trans (congrArg some (by kernel_rfl))
 f294:=Tryz.func342.trans (congrArg some (by kernel_rfl))
 f295:=Tryz.func343.trans (congrArg some (by kernel_rfl))
 f296:=Tryz.func344.trans (congrArg some (by kernel_rfl))
 f297:=Tryz.func345.trans (congrArg some (by kernel_rfl))
 f298:=Tryz.func346.trans (congrArg some (by kernel_rfl))
 f299:=Tryz.func347.trans (congrArg some (by kernel_rfl))
 f300:=Tryz.func349.trans (congrArg some (by kernel_rfl))
 f301:=Tryz.func350.trans (congrArg some (by kernel_rfl))
 f328:=Tryz.func374.trans (congrArg some (by kernel_rfl))
 f329:=Tryz.func375.trans (congrArg some (by kernel_rfl))
 f330:=Tryz.func376.trans (congrArg some (by kernel_rfl))
 f331:=Tryz.func377.trans (congrArg some (by kernel_rfl))
 f332:=Tryz.func378.trans (congrArg some (by kernel_rfl))
 f343:=Tryz.func389.trans (congrArg some (by kernel_rfl))
 t0:=Tryz.underlying0
 a0:=Tryz.isAgg0
 z0:=Tryz.sizeOf0
 v0:=Tryz.zeroValue0
 t3:=Tryz.underlying3
 a3:=Tryz.isAgg3
 z3:=Tryz.sizeOf3
 v3:=Tryz.zeroValue3
 t4:=Tryz.underlying4
 a4:=Tryz.isAgg4
 z4:=Tryz.sizeOf4
 v4:=Tryz.zeroValue4
 t5:=Tryz.underlying5
 a5:=Tryz.isAgg5
 z5:=Tryz.sizeOf5
 v5:=Tryz.zeroValue5
 t9:=Tryz.underlying9
 a9:=Tryz.isAgg9
 z9:=Tryz.sizeOf9
 v9:=Tryz.zeroValue9
 t28:=Tryz.underlying23
 a28:=Tryz.isAgg23
 z28:=Tryz.sizeOf23
 v28:=Tryz.zeroValue23
 t46:=Tryz.underlying222
 a46:=Tryz.isAgg222
 z46:=Tryz.sizeOf222
 v46:=Tryz.zeroValue222
 t51:=Tryz.underlying294
 a51:=Tryz.isAgg294
 z51:=Tryz.sizeOf294
 v51:=Tryz.zeroValue294
 t53:=Tryz.underlying297
 a53:=Tryz.isAgg297
 z53:=Tryz.sizeOf297
 v53:=Tryz.zeroValue297
 t131:=Tryz.underlying292
 a131:=Tryz.isAgg292
 z131:=Tryz.sizeOf292
 v131:=Tryz.zeroValue292
 t182:=Tryz.underlying398
 a182:=Tryz.isAgg398
 z182:=Tryz.sizeOf398
 v182:=Tryz.zeroValue398
 t183:=Tryz.underlying399
 a183:=Tryz.isAgg399
 z183:=Tryz.sizeOf399
 v183:=Tryz.zeroValue399
 t218:=Tryz.underlying414
 a218:=Tryz.isAgg414
 z218:=Tryz.sizeOf414
 v218:=Tryz.zeroValue414
 t222:=Tryz.underlying393
 a222:=Tryz.isAgg393
 z222:=Tryz.sizeOf393
 v222:=Tryz.zeroValue393
 t228:=Tryz.underlying426
 a228:=Tryz.isAgg426
 z228:=Tryz.sizeOf426
 v228:=Tryz.zeroValue426
 t229:=Tryz.underlying427
 a229:=Tryz.isAgg427
 z229:=Tryz.sizeOf427
 v229:=Tryz.zeroValue427}
end Go.Proofs
namespace Go.Gl
open Go.Proofs Go.Shelf
abbrev TT (x y:Int):Bool:=decide (x<=y)
def WX {P:Program} {f:FuncId} (hok:okF P f=true)
    (hc: ∀(blk cap:Nat) (zs:List Int) (w:World),Sort.Holds (Value.int .i64) w blk 0 zs.toArray->blk<w.heap.size->zs.length<4611686018427387904->
     Calls P f #[.slice (some ⟨blk,0,none⟩) zs.length cap] w fun e w'=>e= .returned (.tuple #[])/\ ∃n os,w'=Sort.grow (Sort.putRow (Value.int .i64) (Sort.ahead w n) blk 0 (zs.mergeSort fun x y=>decide (x<=y)).toArray) os)
    (xs:List Int) (n len cap:Nat):Cl P f [.sl n len cap] [.own (.sl n len cap) 1 (iL xs)] fun r post=>r= .ret (.t [])/\post= [.own (.sl n len cap) 1 (iL (xs.mergeSort TT))]:=by
 intro Z hs;refine⟨hok,fun F w cs hR hv=>?_⟩;rcases hs.get (i:=0) rfl with⟨h,_⟩|⟨n',cap',h,hn⟩
 .cases h
 cases h;rw[BW]at hv;obtain⟨c,e,hb,h1,h2,h3,h4⟩:=DY hR hn;rw[BW]at h2 h3;have hM:AX=17592186044416:=rfl;rw[Av]at h4
 have hcell: ∀j x,xs[j]? =some x->c[j]? =some (Value.int .i64 x)/\IntKind.i64.min<=x/\x<=IntKind.i64.max:=fun j x hx=>by
  have:=(h4 j [.i .i64 x] (by rw[NX,hx];rfl)).2;simp only[A8,Nat.mul_one,Ex]at this;obtain⟨⟨d,hd,hr⟩,_⟩:=this;simp only[AQ]at hr;obtain⟨rfl,hr⟩:=hr;exact⟨hd,hr⟩
 have hcs:cs= #[.slice (some ⟨n,0,none⟩) xs.length cap]:=by
  obtain⟨hsz,hv⟩:=hv;simp only[A8,AQ]at hv;obtain⟨⟨d,hd,rfl,_⟩,_⟩:=hv;simp at hsz;apply Array.ext_getElem?;intro i;rcases i with _|i
  .simpa using hd
  .rw[Array.getElem?_eq_none (by omega),Array.getElem?_eq_none (by simp)]
 subst hcs
 have hH:Sort.Holds (Value.int .i64) w n 0 xs.toArray:=fun j hj=>by
  have hj':j<xs.length:=by simpa using hj
  obtain⟨h5,_⟩:=hcell j xs[j] (D2 hj');refine⟨?_,?_⟩
  .rw[Ex,Cb hb,h5]
   simp[getElem!_pos,hj']
  .rw[Ex];exact L0 hb
 refine(hc n cap xs w hH (hR.lt hn) (by omega)).mono fun e' w' ⟨he,k,os,hw⟩=>?_
 subst he;have hlen:(xs.mergeSort TT).length=xs.length:=List.length_mergeSort _
 have hheap: ∀m,m<w.heap.size->w'.heap[m]? =if m=n then some (.cells (Sort.putCells (Value.int .i64) 0 (xs.mergeSort TT).toArray c) e (0,0))else w.heap[m]? :=fun m hm=>by
  rw[hw];simp only[Sort.grow,Sort.putRow,Sort.mapBlock,Sort.ahead];rw[Array.getElem?_append_left (by simpa using hm),Array.getElem?_modify];by_cases e1:n=m
  .subst e1
   rw[if_pos rfl,if_pos rfl,hb];rfl
  .rw[if_neg e1,if_neg (Ne.symm e1)]
 have hadv:Bb F Z w (BO Z n (.arr 1 (iL (xs.mergeSort TT)) cap)) w':=by
  refine⟨fun m hm h0=>?_,?_,by rw[hw];rfl,by rw[hw];rfl,by rw[hw];rfl,fun m h0 _=>?_⟩
  .rw[hheap m hm,if_neg]
   intro e1;subst e1;rw[hn]at h0;cases h0
  .rw[hw];simp[Sort.grow]
  .rw[B2 _ _ (fun e1=>by subst e1;rw[hn]at h0;cases h0)];exact h0
 refine⟨.ret (.t []),BO Z n (.arr 1 (iL (xs.mergeSort TT)) cap),⟨_,⟨rfl,rfl⟩,?_⟩,?_,?_,hadv⟩
 .refine⟨fun a ha=>?_,List.pairwise_singleton _ _⟩
  rw[ME.1 ha];exact .inr ⟨n,cap,by simp[hlen],CY _ _ _⟩
 .exact⟨_,rfl,by simp[AQ,A8]⟩
 .refine hR.step hadv fun m o ho=>?_
  by_cases e1:m=n
  .subst e1
   rw[CY]at ho;cases ho;refine .inr ⟨(hR.own _ _ hn).1,_,(hheap m (hR.lt hn)).trans (if_pos rfl),_,_,rfl,by simpa[Sort.putCells]using h1,by simpa[hlen]using h2,by simpa[hlen]using h3,?_⟩;rw[Av];intro i r hi;rw[NX]at hi;cases hx:(xs.mergeSort TT)[i]? with
   | none=>rw[hx]at hi;cases hi
   | some x=>
     rw[hx]at hi;cases hi;have hil:i<xs.length:=by have:=(KT.1 hx).1;omega
     have hxm:x∈xs:=(List.mergeSort_perm xs TT).mem_iff.1 (Dx hx);obtain⟨j,hj⟩:=List.getElem?_of_mem hxm;have hbd:=(hcell j x hj).2;obtain⟨hci,_⟩:=hcell i xs[i] (D2 hil);have hcl:i<c.size:=(Ze.1 hci).1;refine⟨rfl,?_⟩;simp only[A8,Nat.mul_one,Ex,AQ,and_true];refine⟨_,?_,rfl,hbd⟩;simp only[Sort.putCells,Array.getElem?_mapIdx];rw[hci];have hxe:=(KT.1 hx).2;simp[hlen,hil,getElem!_pos,hxe]
  .rw[B2 _ _ e1]at ho
   exact .inl ⟨ho,(hheap m (hR.lt ho)).trans (if_neg e1)⟩
def X8 (xs:List Int) (n len cap:Nat):Cl Tryz.prog 279 [.sl n len cap] [.own (.sl n len cap) 1 (iL xs)] fun r post=>r= .ret (.t [])/\post= [.own (.sl n len cap) 1 (iL (xs.mergeSort TT))]:=
 WX (by kernel_rfl) (fun blk cap zs w h1 h2 h3=>Any.slices_Sort_int Tryz.Yj blk 0 cap zs w h1 h2 h3) xs n len cap
end Go.Gl
