import Derived.KernelRfl
import Derived.Test.YtcfkfhaedllcpaaGreatProg
import Derived.Shelf.Sort.Plain
import Derived.Test.YtcfkfhaedllcpaaGreatW11
import Derived.Test.YtcfkfhaedllcpaaGreatW13
set_option linter.all false
set_option linter.defProp false
set_option maxHeartbeats 8000000
noncomputable section
namespace Go.Gl
variable {P:Program} {Z:AE}
abbrev eU (n:Nat):V:= .i .u64 (n:Int)
def HO {n:Nat} (h:n<18446744073709551616):IntKind.u64.wrap (n:Int)=n:=by
 simp only[IntKind.wrap,IntKind.signed,IntKind.bits];simp;omega
def Lq {a b:Nat} (ha:a<18446744073709551616) (hb:b<18446744073709551616):bits .or .u64 (a:Int) (b:Int)=((a|||b:Nat):Int):=by
 have h:a|||b<2 ^ 64:=Nat.or_lt_two_pow (n:=64) (by simpa using ha) (by simpa using hb)
 simp only[bits,IntKind.bits]
 have e1:(BitVec.ofInt 64 (a:Int)|||BitVec.ofInt 64 (b:Int)).toNat=a|||b:=by
  simp only[BitVec.ofInt_natCast,BitVec.toNat_or,BitVec.toNat_ofNat];rw[Nat.mod_eq_of_lt (by simpa using ha),Nat.mod_eq_of_lt (by simpa using hb)]
 have e2:=HO (n:=a|||b) (by simpa using h);rw[<-e1]at e2;rw[<-e1];exact e2
def ME {a b:Nat} (ha:a<18446744073709551616) (hb:b<18446744073709551616):bits .and .u64 (a:Int) (b:Int)=((a&&&b:Nat):Int):=by
 have h:a&&&b<2 ^ 64:=Nat.and_lt_two_pow (n:=64) a (by simpa using hb);simp only[bits,IntKind.bits]
 have e1:(BitVec.ofInt 64 (a:Int)&&&BitVec.ofInt 64 (b:Int)).toNat=a&&&b:=by
  simp only[BitVec.ofInt_natCast,BitVec.toNat_and,BitVec.toNat_ofNat];rw[Nat.mod_eq_of_lt (by simpa using ha),Nat.mod_eq_of_lt (by simpa using hb)]
 have e2:=HO (n:=a&&&b) (by simpa using h);rw[<-e1]at e2;rw[<-e1];exact e2
def O7 (a b:Nat):Nat:=(BitVec.ofNat 64 a&&& ~~~BitVec.ofNat 64 b).toNat
def UF (a b:Nat):O7 a b<18446744073709551616:=by
 have:=(BitVec.ofNat 64 a&&& ~~~BitVec.ofNat 64 b).isLt;simpa[O7]using this
def Sq {a b:Nat}:bits .andNot .u64 (a:Int) (b:Int)=((O7 a b:Nat):Int):=by
 simp only[bits,IntKind.bits]
 have e1:(BitVec.ofInt 64 (a:Int)&&& ~~~BitVec.ofInt 64 (b:Int)).toNat=O7 a b:=by
  simp only[BitVec.ofInt_natCast,O7]
 have e2:=HO (n:=O7 a b) (UF a b);rw[<-e1]at e2;rw[<-e1];exact e2
def P0 {a b i:Nat} (hi:i<64):(O7 a b).testBit i=(a.testBit i&& !b.testBit i):=by
 rw[O7,BitVec.testBit_toNat,BitVec.getLsbD_and,BitVec.getLsbD_not];rw[BitVec.getLsbD_ofNat,BitVec.getLsbD_ofNat];simp only[hi,decide_true,G7]
def ZD {c:Nat} (h:c<64):IntKind.u64.wrap (1*2 ^ (min c IntKind.u64.bits))=((2 ^ c:Nat):Int):=by
 have hb:IntKind.u64.bits=64:=rfl;rw[hb,Nat.min_eq_left (by omega),Int.one_mul];have:=HO (n:=2 ^ c) (by have:=Nat.pow_lt_pow_right (show 1<2 by omega) h;simpa using this);rw[<-this];simp
def KX {c:Nat} (h:c<64):2 ^ c<18446744073709551616:=by
 have:=Nat.pow_lt_pow_right (show 1<2 by omega) h;simpa using this
def ZC {a c:Nat} (h:c<64):(a:Int).fdiv (2 ^ (min c IntKind.u64.bits))=((a >>> c:Nat):Int):=by
 have hb:IntKind.u64.bits=64:=rfl;rw[hb,Nat.min_eq_left (by omega),Nat.shiftRight_eq_div_pow,Int.fdiv_eq_ediv_of_nonneg _ (Int.pow_nonneg (by omega))];simp
def DE {v:V} {Q:R->AE->Prop} (h:Q (.Bb v) Z):Af Z v Q:=⟨v,Z,fun _ _ h=>h,.refl v,h⟩
def By {g:FuncId} {fi ca args:List V} {Q:R->AE->Prop} (h:A3 P g (fi++args++ca) Z Q):Ax P (.f (.func g) fi ca) args Z Q:=h
def Pure.of {f:FuncId} {args:List V} {v:V} (h:A3 P f args emp fun r _=>r= .ret v):Pure P f args v:=by
 refine⟨h.1,fun F w cs hR hv=>Calls.mono (h.2 F w cs hR hv) fun e w' ⟨r,Z',hr,h1,h2,h3⟩=>?_⟩;subst hr;obtain⟨c,rfl,hv'⟩:=h1;have hsub:Sub emp Z':=fun n o ho=>by cases ho
 exact⟨.ret v,emp,⟨rfl,rfl⟩,⟨c,rfl,Ez.rel h2 hsub (.refl v) hv'⟩,h2.drop hsub,⟨h3.frame,h3.size,h3.os,h3.tape,h3.output,fun _ _ _=>rfl⟩⟩
def Cz {α S:Type} (P:Program) (x:V) (ea:α->V) (H:S->List At) (stp:α->S->Bool×S) (D:α->S->Prop):Prop:=
 ∀y s,D y s-> ∀Z,Sat Z (H s)->Ax P x [ea y] Z fun r Z'=>r= .ret (.b (stp y s).1)/\Sat Z' (H (stp y s).2)
def Cz.use {α S:Type} {x:V} {ea:α->V} {H:S->List At} {stp:α->S->Bool×S} {D:α->S->Prop} (h:Cz P x ea H stp D) {y:α} {s:S} (hd:D y s) (hs:Sat Z (H s)) {k kp:V->AE->Prop} (hk: ∀Z',Sat Z' (H (stp y s).2)->k (.b (stp y s).1) Z'):Ax P x [ea y] Z (qk k kp):=
 (h y s hd Z hs).mono fun r Z' ⟨e,h'⟩=>by rw[e];exact hk Z' h'
def Cz.yV {α S:Type} {g:FuncId} {fi ca:List V} {ea:α->V} {H:S->List At} {stp:α->S->Bool×S} {D:α->S->Prop} (h:Cz P (.f (.func g) fi ca) ea H stp D) {y:α} {s:S} (hd:D y s) {rest:List At} (hs:Sat Z (H s++rest)) {k kp:V->AE->Prop} (hk: ∀Z',Sat Z' (H (stp y s).2++rest)->k (.b (stp y s).1) Z'):Ax P (.f (.func g) fi ca) [ea y] Z (qk k kp):=by
 refine By ?_;have h1:Bc P g (fi++[ea y]++ca) (H s) fun r post=>r= .ret (.b (stp y s).1)/\post=H (stp y s).2:=fun Z hs=>A3.mono (h y s hd Z hs) fun r Z' ⟨e,h2⟩=>⟨_,⟨e,rfl⟩,h2⟩
 refine h1.use hs ?_;rintro r post Z' ⟨rfl,rfl⟩ hs';exact hk Z' hs'
def Bk {α S:Type} (stp:α->S->Bool×S):List α->Nat->S->Int×S
 | [],_,s=>(-1,s)
 | y::r,k,s=>if(stp y s).1 then((k:Int),(stp y s).2)else Bk stp r (k+1) (stp y s).2
def Ce {α S:Type} (stp:α->S->Bool×S):List α->S->Bool×S
 | [],s=>(true,s)
 | y::r,s=>if(stp y s).1 then Ce stp r (stp y s).2 else(false,(stp y s).2)
def W8 {α S:Type} (stp:α->S->Bool×S) (D:α->S->Prop):List α->S->Prop
 | [],_=>True
 | y::r,s=>D y s/\W8 stp D r (stp y s).2
def Nb {α S:Type} {stp:α->S->Bool×S}: ∀(xs:List α) (k:Nat) (s:S),(Bk (fun y s=>(!(stp y s).1,(stp y s).2)) xs k s).2=(Ce stp xs s).2/\(decide ((Bk (fun y s=>(!(stp y s).1,(stp y s).2)) xs k s).1≥0)= !(Ce stp xs s).1)
 | [],_,_=>⟨rfl,rfl⟩
 | y::r,k,s=>by
   simp only[Bk,Ce];cases h:(stp y s).1
   .simp
   .simpa using Nb r (k+1) (stp y s).2
def Tt {α S:Type} {stp:α->S->Bool×S} {D:α->S->Prop}: ∀(xs:List α) (s:S),W8 stp D xs s->W8 (fun y s=>(!(stp y s).1,(stp y s).2)) D xs s
 | [],_,_=>trivial
 | _::r,_,h=>⟨h.1,Tt r _ h.2⟩
def Jt {α:Type} (f:α->Bool): ∀(xs:List α),Ce (fun y (_:Unit)=>(f y,())) xs ()=(xs.all f,())
 | []=>rfl
 | y::r=>by
   simp only[Ce,LC];cases f y
   .rfl
   .simpa using Jt f r
def Gw {α S:Type} {stp:α->S->Bool×S} {D:α->S->Prop}: ∀ {xs:List α} {s:S},(∀y∈xs,∀s,D y s)->W8 stp D xs s
 | [],_,_=>trivial
 | y::r,s,h=>⟨h y (.head _) s,Gw fun z hz=>h z (.tail _ hz)⟩
end Go.Gl
namespace Go.Gl
variable {P:Program} {Z:AE}
def Sat.vq {l:List At} {a:At} (h:Sat Z (l++[a])):Sat Z (a::l):=h.perm (by
 have:=RP (l₁:=l) (l₂:=[a])
 simpa using this)
def Cf {l:List At} (h:Sat Z l) (sz:Nat):Sat Z (.own (.l [] true) sz []::l):=(El h sz).vq
def oY {l:List At} (h:Sat Z l) {sz:Nat} {es:List (List V)} (hs: ∀e∈es,e.length=sz):Sat Z (.own (.l es true) sz es::l):=(kP h hs).vq
def RX {l:List At} {o:O} {n:Nat} {K:Prop} {Z':AE} (e:Bd Z n o=Z') (hk:Sat Z' (.obj n o::l)->K) (hn:Z n=none:=by assumption) (h:Sat Z l:=by assumption):K:=hk (e ▸ (dw h hn).vq)
def IC {α:Type}: ∀ {l:List α} {j:Nat} {a:α},l[j]? =some a->l.Perm (a::l.eraseIdx j)
 | x::r,0,a,h=>by simp at h;subst h;simp
 | x::r,j+1,a,h=>by
   simp only[vT]at h;simp only[List.eraseIdx_cons_succ];exact((IC h).cons x).trans (.swap _ _ _)
def Sat.front {l:List At} {j:Nat} {a:At} (h:Sat Z l) (hj:l[j]? =some a):Sat Z (a::l.eraseIdx j):=h.perm (IC hj)
def Sat.back {l:List At} {j:Nat} {a:At} (h:Sat Z (a::l.eraseIdx j)) (hj:l[j]? =some a):Sat Z l:=h.perm (IC hj).symm
def Bc.oH {f:FuncId} {args:List V} {a:At} {Φ:R->Prop} (h:Bc P f args [a] fun r post=>Φ r/\post= [a]) {l:List At} {j:Nat} (hs:Sat Z l) (hj:l[j]? =some a) {Q:R->AE->Prop} (hk: ∀r Z',Φ r->Sat Z' l->Q r Z'):A3 P f args Z Q:=by
 refine h.use (rest:=l.eraseIdx j) (hs.front hj) ?_;rintro r post Z' ⟨hr,rfl⟩ hs';exact hk r Z' hr (Sat.back hs' hj)
def nt {l:List At} {i n off:Nat} {vs:List V} {x:V} {K:AE->Prop} (hk: ∀Z',Sat Z' (l.set i (.box n (vs.set off x)))->K Z') (h:Sat Z l:=by assumption)
    (hi:l[i]? =some (.box n vs):=by first|exact Qy|exact Qx|exact Qw|exact Qv|exact Qu|exact Qt)
    (h1:CC x=true:=by first|rfl|exact Gq (by assumption) 0 rfl|exact Gq (by assumption) 1 rfl|exact Gq (by assumption) 2 rfl|exact Gq (by assumption) 3 rfl|(simp<;>fail)) (ho:off+1<=vs.length:=by exact Nat.le_of_ble_eq_true rfl):AT Z 1 (.p n off) x K:=
 Lh h i hi h1 ho hk
def Ug {l:List At} {i n off sz:Nat} {vs vc:List V} {x:V} {K:AE->Prop} (hk: ∀Z',Sat Z' (l.set i (.box n (putAt vs off vc)))->K Z') (h:Sat Z l:=by assumption)
    (hi:l[i]? =some (.box n vs):=by first|exact Qy|exact Qx|exact Qw|exact Qv|exact Qu|exact Qt)
    (hc:cellsOf x=some vc:=by rfl) (hl:vc.length=sz:=by rfl) (h1:vc.all CC=true:=by first|rfl|(simp<;>fail)|(simp[*]<;>fail)) (ho:off+sz<=vs.length:=by exact Nat.le_of_ble_eq_true rfl):AT Z sz (.p n off) x K:=
 Hv h i hi hc hl h1 ho hk
def n8 {sz m n o:Nat} {ki:IntKind} {j:Int} {K:V->Prop} (h:K (.p n (o+j.toNat*sz))) (h0:0<=j:=by omega) (h1:j<m:=by omega):AR sz (some m) (.p n o) (.i ki j) K:=⟨h0,h1,h⟩
def iar {sz m:Nat} {cs:List V} {ki:IntKind} {j:Int} {K:V->Prop} (h:K (.rp (cs.drop (j.toNat*sz)))) (h0:0<=j:=by omega) (h1:j<m:=by omega):AR sz (some m) (.rp cs) (.i ki j) K:=⟨h0,h1,h⟩
def rB {l:List At} (h:Sat Z l) (i:Nat) {v:V} {sz:Nat} {es es':List (List V)} (hi:l[i]? =some (.own v sz es)) (he: ∀Z2,D7 Z Z2 es es'): ∃Z2,Sub Z2 Z/\Ez Z Z2 v (.l es' false)/\Sat Z2 (l.eraseIdx i):=by
 rcases h.get hi with⟨rfl,_⟩|⟨n,cap,rfl,hn⟩
 .exact⟨Z,fun _ _ h=>h,.l (fun h=>(by cases h)) (he _),h.less (List.eraseIdx_sublist _ _)⟩
 .refine⟨del Z n,Fo Z n,.arr hn (DL Z n) rfl (he _),?_⟩
  refine⟨fun b hb=>?_,h.2.sublist (List.eraseIdx_sublist _ _)⟩;refine E6 (h.1 b (List.mem_of_mem_eraseIdx hb)) fun m hm=>?_
  rw[G0];intro e;subst e;exact Ew h.2 hi b hb m rfl hm
def kO {l:List At} (h:Sat Z l) {sz:Nat} {z:List V} {n m:Nat} {K:V->AE->Prop} (hnm:n<=m) (hn:m<=1073741824) (hk: ∀v Z',Sat Z' (.own v sz (List.replicate n z)::l)->(∃id,v= .sl id n m)->K v Z') {ki kj:IntKind} :
    AK Z sz z (.i ki (n:Int)) (.i kj (m:Int)) K:=by
 refine⟨by omega,by omega,by omega,fun id hid=>?_⟩;simp only[JP];refine hk _ _ (h.add (a:= .own (.sl id n m) sz (List.replicate n z)) (fun b hb=>E6 hb fun m hm=>?_) (fun b hb m hm hb'=>?_) (.inr ⟨id,m,by simp,by simp[Bd]⟩)).vq ⟨id,rfl⟩
 .obtain⟨o,ho⟩:=Cq hb hm
  rw[CY];intro e;subst e;rw[hid]at ho;cases ho
 .cases hm
  obtain⟨o,ho⟩:=Cq hb hb';rw[hid]at ho;cases ho
def ow {Z:AE} {l:List At} {i:Nat} {v:V} {sz:Nat} {es:List (List V)} (hs:Sat Z l) (hi:l[i]? =some (.own v sz es)) (he: ∀e∈es,e.length=sz) (hm:es.length<=AY) {K:V->AE->Prop} (hk: ∀Z',Sat Z' (l.eraseIdx i)->K (.l es true) Z'):AQ Z sz v none (some (.i .i64 (es.length:Int))) (some (.i .i64 (es.length:Int))) K:=by
 rcases hs.get hi with⟨rfl,_⟩|⟨n,cap,rfl,hn⟩
 .refine⟨he,?_⟩
  simp only[OL];refine⟨Int.le_refl _,Int.natCast_nonneg _,Int.le_refl _,trivial,?_⟩;have:=hk Z (hs.less (List.eraseIdx_sublist _ _));simpa using this
 .unfold AQ
  simp only[OL];refine⟨Int.le_refl _,Int.natCast_nonneg _,Int.le_refl _,trivial,trivial,trivial,?_⟩;rw[hn];refine⟨rfl,rfl,rfl,.inl (hk _ ?_)⟩;refine⟨fun b hb=>?_,hs.2.sublist (List.eraseIdx_sublist _ _)⟩;refine E6 (hs.1 b (List.mem_of_mem_eraseIdx hb)) fun m hm=>?_
  rw[G0];intro e;subst e;exact Ew hs.2 hi b hb m rfl hm
end Go.Gl
namespace Go.Gl
variable {P:Program} {Z:AE} {env:Env}
structure Hd (G:Prop):Prop where
 h:G
class KI (K:Env->AE->Prop) (A:outParam (Env->AE->Prop)):Prop where
 h: ∀env Z,A env Z->K env Z
class KJ (K:(Env->AE->Prop)×(Env->V->AE->Prop)) (A:outParam (Env->AE->Prop)) (B:outParam (Env->V->AE->Prop)):Prop where
 h: ∀env Z,A env Z->K.1 env Z
 g: ∀env v Z,B env v Z->K.2 env v Z
class KN (K:(Env->AE->Prop)×(V->AE->Prop)) (A:outParam (Env->AE->Prop)) (B:outParam (V->AE->Prop)):Prop where
 h: ∀env Z,A env Z->K.1 env Z
 g: ∀v Z,B v Z->K.2 v Z
instance (priority:=low) {K A:Env->AE->Prop} [i:KI K A]:Oy (K env Z) (A env Z):=⟨i.h _ _⟩
instance {K:(Env->AE->Prop)×(Env->V->AE->Prop)} {A:Env->AE->Prop} {B:Env->V->AE->Prop} [i:KJ K A B]:Oy (K.1 env Z) (A env Z):=⟨i.h _ _⟩
instance {K:(Env->AE->Prop)×(Env->V->AE->Prop)} {A:Env->AE->Prop} {B:Env->V->AE->Prop} {v:V} [i:KJ K A B]:Oy (K.2 env v Z) (B env v Z):=⟨i.g _ _ _⟩
instance {K:(Env->AE->Prop)×(V->AE->Prop)} {A:Env->AE->Prop} {B:V->AE->Prop} [i:KN K A B]:Oy (K.1 env Z) (A env Z):=⟨i.h _ _⟩
instance {K:(Env->AE->Prop)×(V->AE->Prop)} {A:Env->AE->Prop} {B:V->AE->Prop} {v:V} [i:KN K A B]:Oy (K.2 v Z) (B v Z):=⟨i.g _ _⟩
instance {A:Prop}:Oy (D5 P [] env Z/\A) A:=⟨dr⟩
class ZK (G:Prop) (α:outParam Type) (β:outParam (α->Prop)) (G':outParam (α->Prop)):Prop where
 h:(∀x,β x->G' x)->G
def zk {G:Prop} {α:Type} {β G':α->Prop} [i:ZK G α β G'] (h: ∀x,β x->G' x):G:=i.h h
instance {l:List Nat} {a b:AV} {Q:Aa->Env->AE->Prop}:ZK (W P (.seq l a b) Q env Z) (Env->AE->Prop) (fun K=>KI K fun env Z=>pk l env fun E=>W P b Q E Z) (fun K=>W P a (Aa.andThen K Q) env Z):=⟨fun h=>sq fun K U=>h K ⟨U⟩⟩
instance {ops:List Am} {Q:Aa->Env->AE->Prop}:ZK (W P (.B5 ops) Q env Z) ((Env->AE->Prop)×(Env->V->AE->Prop)) (fun K=>KJ K (fun env Z=>Q .normal env Z) fun env v Z=>Q (.Bb v) env Z) (fun K=>WT P ops K.1 K.2 env Z):=⟨fun h=>Ca fun A B hA hB=>h (A,B) ⟨hA,hB⟩⟩
instance {l:List Nat} {ops:List Cd} {Q:Aa->Env->AE->Prop}:ZK (W P (.EG l ops) Q env Z) ((Env->AE->Prop)×(V->AE->Prop)) (fun K=>KN K (fun env Z=>pk l env fun E=>Q .normal E Z) fun v Z=> ∀Z',Sub Z Z'->Q (.Bb v) [] Z') (fun K=>WD P ops K.1 K.2 env Z):=⟨fun h=>H6 fun A B hA hB=>h (A,B) ⟨hA,hB⟩⟩
def zg {G G':Prop} (h:G') (t:Hd G'->G:=by
 intro h
 (first|refine⟨rfl,?_⟩|refine⟨kZ,?_⟩|fail)
 exact h.h):G:=t ⟨h⟩
def zn {G G':Prop} (h:G') (t:Hd G'->G:=by
 intro h
 (first|refine⟨rfl,?_⟩|refine⟨kZ,?_⟩|refine ld ?_|refine ix ?_|refine xz ?_|refine xp ?_|refine oi ?_|refine oc ?_|refine af ?_|fail)
 exact h.h):G:=t ⟨h⟩
def zX {G G':Prop} (h:G') (t:Hd G'->G:=by
 intro h
 (first|refine⟨rfl,?_⟩|refine⟨kZ,?_⟩|refine ix ?_|refine xz ?_|refine xp ?_|refine wN ?_|refine nz ?_|refine lo ?_|refine pH ?_|refine ld ?_|refine oi ?_|refine oc ?_|refine oi2 ?_|refine oc2 ?_|refine wK ?_|refine vt ?_|refine af ?_|refine df ?_|refine Ox ?_|refine bA ?_|refine Mq ?_|(refine Uc (fun hc=>?_);(try rw[hc]);clear hc)|(refine de (fun hc=>?_);(try rw[hc]);clear hc)|fail)
 exact h.h):G:=t ⟨h⟩
def zY {G G':Prop} (h:G') (t:Hd G'->G:=by
 intro h
 (first|refine⟨rfl,?_⟩|refine⟨kZ,?_⟩|refine ix ?_|refine xz ?_|refine xp ?_|refine n8 ?_|refine iar ?_|refine wN ?_|refine nz ?_|refine lo ?_|refine pH ?_|refine ld ?_|refine oi ?_|refine oc ?_|refine oi2 ?_|refine oc2 ?_|refine wK ?_|refine vt ?_|refine af ?_|refine df ?_|refine Ox ?_|refine bA ?_|refine Mq ?_|(refine Uc (fun hc=>?_);(try rw[hc]);clear hc)|(refine de (fun hc=>?_);(try rw[hc]);clear hc)|fail)
 exact h.h):G:=t ⟨h⟩
def zC {G G':Prop} (h:G') (t:Hd G'->G:=by
 intro h
 first|refine c1.use ?_|refine c2.use ?_|refine c3.use ?_|refine c4.use ?_|refine c5.use ?_|refine c6.use ?_|refine c0.use ?_|refine Pure.use (by assumption) ?_|fail
 exact h.h):G:=t ⟨h⟩
def zs {G:Prop} {α:Type} {β G':α->Prop} (h: ∀x,β x->G' x) (t:Hd (∀x,β x->G' x)->G:=by
 intro h
 first|refine xw fun Z hs=>?_|refine nt fun Z hs=>?_|refine Ug fun Z hs=>?_|refine oset fun Z hs=>?_|fail
 exact h.h Z hs):G:=t ⟨h⟩
def zr {G:Prop} {α:Type} {β G':α->Prop} (h: ∀x,β x->G' x) (t:Hd (∀x,β x->G' x)->G:=by
 intro h
 first|refine xw fun Z hs=>?_|refine s1 fun Z hs=>?_|refine sn fun Z hs=>?_|refine oset fun Z hs=>?_|fail
 exact h.h Z hs):G:=t ⟨h⟩
def ze {G:Prop} {α:Type} {β G':α->Prop} (h: ∀x,β x->G' x) (t:Hd (∀x,β x->G' x)->G:=by
 intro h
 first|refine iqF fun x hx=>?_|refine iq fun x hx=>?_|refine ol fun x hx=>?_|refine ol2 fun x hx=>?_|fail
 exact h.h x hx):G:=t ⟨h⟩
def zo {G:Nat->Prop} {β:Nat->Prop} {γ G':Nat->AE->Prop} (h: ∀n,β n-> ∀Z,γ n Z->G' n Z) (t:Hd (∀n,β n-> ∀Z,γ n Z->G' n Z)-> ∀n,β n->G n:=by
 intro h nn hnn;generalize hg:Bd _ nn _=Z;refine RX hg fun hs=>?_
 clear hg
 exact h.h nn hnn Z hs): ∀n,β n->G n:=t ⟨h⟩
def zp {G:Nat->Prop} {β:Nat->Prop} {γ G':Nat->AE->Prop} (h: ∀n,β n-> ∀Z,γ n Z->G' n Z) (t:Hd (∀n,β n-> ∀Z,γ n Z->G' n Z)-> ∀n,β n->G n:=by
 intro h nn hnn;generalize hg:Bd _ nn _=Z;refine al hg fun hs=>?_
 clear hg
 exact h.h nn hnn Z hs): ∀n,β n->G n:=t ⟨h⟩
def zb {A B:Prop} {b c d:Bool} {p q A' B':Prop} (h1:p->A') (h2:q->B')
    (t1 : Hd (p->A')->b=c->A:=by
     intro h hc
     (try rw[hc])
     replace hc:=bp hc
     first
      | (refine False.elim ((fun(_:Hd (False->True))=>(?_:False)) h);(try simp(disch:=omega) only[BU,wrap64,AO]at hc);first|done|omega|fail)
      | ((try simp(disch:=omega) only[BU,wrap64,AO]at hc);exact h.h hc)
      | fail)
    (t2 : Hd (q->B')->b=d->B:=by
     intro h hc
     (try rw[hc])
     replace hc:=bp hc
     first
      | (refine False.elim ((fun(_:Hd (False->True))=>(?_:False)) h);(try simp(disch:=omega) only[BU,wrap64,AO]at hc);first|done|omega|fail)
      | ((try simp(disch:=omega) only[BU,wrap64,AO]at hc);exact h.h hc)
      | fail):(b=c->A)/\(b=d->B):=⟨t1 ⟨h1⟩,t2 ⟨h2⟩⟩
def za {A B:Prop} {b c d:Bool} {p q A' B':Prop} (h1:p->A') (h2:q->B')
    (t1:Hd (p->A')->b=c->A:=by intro h hc;(try rw[hc]);replace hc:=bp hc;exact h.h hc)
    (t2:Hd (q->B')->b=d->B:=by intro h hc;(try rw[hc]);replace hc:=bp hc;exact h.h hc):(b=c->A)/\(b=d->B):=⟨t1 ⟨h1⟩,t2 ⟨h2⟩⟩
def zd {A B:Prop} {b c d:Bool} {p q A' B':Prop} (h1:p->A') (h2:q->B')
    (t1 : Hd (p->A')->b=c->A:=by
     intro h hc
     (try rw[hc])
     replace hc:=bp hc
     first
      | (refine False.elim ((fun(_:Hd (False->True))=>(?_:False)) h);simp(disch:=omega) only[BU,wrap64,AO]at hc;done)
      | ((try simp(disch:=omega) only[BU,wrap64,AO]at hc);exact h.h hc)
      | fail)
    (t2 : Hd (q->B')->b=d->B:=by
     intro h hc
     (try rw[hc])
     replace hc:=bp hc
     first
      | (refine False.elim ((fun(_:Hd (False->True))=>(?_:False)) h);simp(disch:=omega) only[BU,wrap64,AO]at hc;done)
      | ((try simp(disch:=omega) only[BU,wrap64,AO]at hc);exact h.h hc)
      | fail):(b=c->A)/\(b=d->B):=⟨t1 ⟨h1⟩,t2 ⟨h2⟩⟩
def zh {G G':Prop} (h:G') (t:Hd G'->G:=by
 intro h
 conv=>whnf
 repeat((first|clear hKz Kz|apply st|(apply zk;intro Kz hKz)|refine zg ?_|fail);try(conv=>whnf))
 repeat(first|clear hKz Kz|revert hKz Kz)
 exact h.h):G:=t ⟨h⟩
def zu {G G':Prop} (h:G') (t:Hd G'->G:=by
 intro h
 conv=>whnf
 repeat((first|clear hKz Kz|apply st|(apply zk;intro Kz hKz)|refine zn ?_|fail);try(conv=>whnf))
 repeat(first|clear hKz Kz|revert hKz Kz)
 exact h.h):G:=t ⟨h⟩
def zv {G G':Prop} (h:G') (t:Hd G'->G:=by
 intro h
 conv=>whnf
 repeat((first|clear hKz Kz|apply st|(apply zk;intro Kz hKz)|refine zX ?_|fail);try(conv=>whnf))
 repeat(first|clear hKz Kz|revert hKz Kz)
 exact h.h):G:=t ⟨h⟩
def zz {G G':Prop} (h:G') (t:Hd G'->G:=by
 intro h
 conv=>whnf
 repeat((first|clear hKz Kz|apply st|(apply zk;intro Kz hKz)|refine zY ?_|fail);try(conv=>whnf))
 repeat(first|clear hKz Kz|revert hKz Kz)
 exact h.h):G:=t ⟨h⟩
def zW {G:Prop} (t:G:=by
 conv=>whnf
 repeat'((first|clear U K|apply st|(apply zk;intro K U)|refine zY ?_|refine ze fun x hx=>?_|refine zs fun Z hs=>?_|refine zC ?_|(refine zb (fun hc=>?_) (fun hc=>?_)<;>try exact⟨⟩)|refine zo fun nn hnn Z hs=>?_|fail)<;>try(conv=>whnf))
 all_goals first|exact AF rfl|fail):G:=t
end Go.Gl
namespace Go.Gl
def axI (n:Nat):List Nat->List Nat
 | []=>[n]
 | x::r=>bif Nat.beq n x then x::r else bif Nat.ble n x then n::x::r else x::axI n r
def ve:List Nat->List Nat->List Nat
 | [],l=>l
 | n::r,l=>ve r (axI n l)
def yQ (n:Nat):List Nat->List Nat
 | []=>[]
 | x::r=>bif Nat.beq x n then r else x::yQ n r
def yP:List Nat->List Nat->List Nat
 | [],l=>l
 | n::r,l=>yP r (yQ n l)
def axO (o:Am) (n:List Nat):List Nat:=ve (looks o) (match o.dst with|some d=>yQ d n|none=>n)
def py:List Am->List Nat->List Nat
 | [],n=>n
 | o::r,n=>axO o (py r n)
def axX (i:Nat):List (Nat×List Nat)->List Nat
 | []=>[]
 | (j,l)::r=>bif Nat.beq i j then l else axX i r
def Wz (rs:List Nat):AV->List (Nat×List Nat)->List Nat->List Nat
 | .skip,_,n=>n
 | .ret,_,_=>rs
 | .exit i,X,_=>axX i X
 | .B5 ops,_,n=>py ops n
 | .EG _ ops,_,n=>py (ops.map (·.o)) n
 | .seq _ a b,X,n=>Wz rs a X (Wz rs b X n)
 | .cond c a b,X,n=>ve (rd c) (ve (Wz rs a X n) (Wz rs b X n))
 | .block i a,X,n=>Wz rs a ((i,n)::X) n
 | .scope a,X,n=>Wz rs a X n
 | .Dg _ g ps a b,_,n=>ve (rd g) (ve n (yP ps (Wz [] a [] (Wz [] b [] []))))
 | .loop _ a,X,_=>Wz rs a X []
def aZ (rs:List Nat):AV->List (Nat×List Nat)->List Nat->AV
 | .skip,_,_=> .skip
 | .ret,_,_=> .ret
 | .exit i,_,_=> .exit i
 | .B5 ops,_,_=> .B5 ops
 | .EG _ ops,_,n=> .EG n ops
 | .seq _ a b,X,n=> .seq (Wz rs b X n) (aZ rs a X (Wz rs b X n)) (aZ rs b X n)
 | .cond c a b,X,n=> .cond c (aZ rs a X n) (aZ rs b X n)
 | .block i a,X,n=> .block i (aZ rs a ((i,n)::X) n)
 | .scope a,X,n=> .scope (aZ rs a X n)
 | .Dg _ g ps a b,_,_=> .Dg (yP ps (Wz [] a [] (Wz [] b [] []))) g ps (aZ [] a [] (Wz [] b [] [])) (aZ [] b [] [])
 | .loop _ a,X,_=> .loop (Wz rs a X []) (aZ rs a X (Wz rs a X []))
variable {P:Program}
def CtrX (P:Program) (k n:Nat) (ac:AV) (rs:List Nat):Prop:= ∀ ⦃args:List V⦄,args.length<=n-> ∀ ⦃Z:AE⦄ ⦃Q:R->AE->Prop⦄,W P ac (kX rs Q) (A2 0 args) Z->A3 P k args Z Q
def xk (P:Program) (k n:Nat) (ac:AV) (rs:List RS):Prop:= ∀ ⦃args:List V⦄,args.length<=n-> ∀ ⦃Z:AE⦄ ⦃Q:R->AE->Prop⦄,W P ac (U0 rs Q) (A2 0 args) Z->A3 P k args Z Q
def vg:RS->Nat
 | .t n=>n
 | .c n _=>n
def cX {k n:Nat} {fn:Func} {ac:AV} {rs:List Nat} (pu fz:List Nat) (hf:P.funcs[k]? =some fn)
    (hn:fn.ntmps=n:=by conv=>lhs;reduce)
    (hr:GF fn.results.toList=some rs:=by conv=>lhs;reduce)
    (hc:aZ rs ((fn.body.bind (res P fn.ntmps pu fz)).getD .skip) [] rs=ac:=by conv=>lhs;reduce;try simp only[Int.reduceOfNat,Int.reduceNegSucc])
    (hb:fn.body.bind (res P fn.ntmps pu fz)=some (erase ac):=by kernel_rfl) (hok:okF P k=true:=by kernel_rfl):CtrX P k n ac rs:=
 fun _ ha _ _ h=>Qf hf hok hb hr (hn ▸ ha) (oC h)
def Ui {k n:Nat} {fn:Func} {ac:AV} {rs:List RS} (pu fz:List Nat) (hf:P.funcs[k]? =some fn)
    (hn:fn.ntmps=n:=by conv=>lhs;reduce)
    (hr:Mi P fn.results.toList=some rs:=by conv=>lhs;reduce)
    (hc:aZ (rs.map vg) ((fn.body.bind (res P fn.ntmps pu fz)).getD .skip) [] (rs.map vg)=ac:=by conv=>lhs;reduce;try simp only[Int.reduceOfNat,Int.reduceNegSucc])
    (hb:fn.body.bind (res P fn.ntmps pu fz)=some (erase ac):=by kernel_rfl) (hok:okF P k=true:=by kernel_rfl):xk P k n ac rs:=
 fun _ ha _ _ h=>C8 hf hok hb hr (hn ▸ ha) (oC h)
end Go.Gl
namespace Go.Gl
open Go.Proofs
abbrev gV:AV:=(.seq [0,3] (.B5 [⟨(some 3),.Q8 (.t 1),none⟩,
 ⟨(some 4),.mv (.c .pn),none⟩])
 (.seq [0,3,5,6] (.EG [0,3,5,6] [⟨0,⟨(some 8),.mv (.t 0),none⟩,[],[]⟩,
  ⟨1,⟨(some 9),.EX (.t 8),none⟩,[],[]⟩,
  ⟨2,⟨(some 10),.Bs 1 (.t 9),none⟩,[],[]⟩,
  ⟨3,⟨(some 11),.load none (.t 10),none⟩,[],[]⟩,
  ⟨4,⟨(some 12),.load (some 4) (.t 3),none⟩,[],[]⟩,
  ⟨5,⟨(some 13),.lookup (.a [.i64,.i64,.i64,.i64]) .pn true (.t 11) (.t 12),none⟩,[],[]⟩,
  ⟨6,⟨(some 7),.mv (.t 13),none⟩,[],[]⟩,
  ⟨7,⟨(some 14),.extract 0 (.t 7),none⟩,[],[]⟩,
  ⟨8,⟨(some 15),.extract 1 (.t 7),none⟩,[],[]⟩,
  ⟨9,⟨(some 5),.mv (.t 14),none⟩,[],[]⟩,
  ⟨10,⟨(some 6),.mv (.t 15),none⟩,[],[]⟩])
 (.seq [5] (.seq [0,3,5,17] (.B5 [⟨(some 16),.mv (.t 6),none⟩,
  ⟨(some 17),.not (.t 16),none⟩])
 (.cond (.t 17)
 (.seq [0,3,5] (.B5 [⟨(some 18),.build [(.i .i64 0),(.i .i64 0),(.l [] true)] [(0,1,(.c (.i .i64 (-1000000000)))),(1,1,(.c (.i .i64 1000000000)))],none⟩,
  ⟨(some 19),.build [(.i .i64 0),(.i .i64 0),(.l [] true),(.i .u64 0),(.i .u64 0),(.b false),(.b false),(.l [] true)] [(0,3,(.t 18))],none⟩,
  ⟨(some 20),.box (.t 19),none⟩,
  ⟨(some 5),.mv (.t 20),none⟩])
 (.EG [5] [⟨0,⟨(some 21),.mv (.t 0),none⟩,[],[]⟩,
  ⟨1,⟨(some 22),.EX (.t 21),none⟩,[],[]⟩,
  ⟨2,⟨(some 23),.Bs 1 (.t 22),none⟩,[],[]⟩,
  ⟨3,⟨(some 24),.load none (.t 23),none⟩,[],[]⟩,
  ⟨4,⟨(some 25),.load (some 4) (.t 3),none⟩,[],[]⟩,
  ⟨5,⟨(some 26),.mv (.t 5),none⟩,[],[]⟩,
  ⟨6,⟨none,.FG (.a [.i64,.i64,.i64,.i64]) (.t 24) (.t 25) (.t 26),none⟩,[],[]⟩]))
 .skip))
 (.seq [4] (.B5 [⟨(some 27),.mv (.t 5),none⟩,
  ⟨(some 4),.mv (.t 27),none⟩])
 .ret))))
def lK:Tryz.f407.body.bind (res Tryz.prog Tryz.f407.ntmps [] [3])=some (erase gV):=by kernel_rfl
def nK {args:List V} (hn:args.length<=28) {Z:AE} {Q:R->AE->Prop} (h:W Tryz.prog gV (kX [4] Q) (A2 0 args) Z):A3 Tryz.prog 407 args Z Q:=
 Qf Tryz.func407 (by kernel_rfl) lK rfl hn (oC h)
end Go.Gl
namespace Go.Gl
variable {P:Program} {Z:AE}
def dj {n sz len cap:Nat} {ki:IntKind} {j:Int} {K:V->AE->Prop} (h:K (.sv n sz j.toNat ((len:Int) - j).toNat) Z) (h0:0<=j:=by omega) (h1:j<=(len:Int):=by omega):AQ Z sz (.sl n len cap) (some (.i ki j)) none none K:=by
 unfold AQ;simp only[OL];exact⟨h0,h1,Int.le_refl _,h⟩
def pX {n sz len cap:Nat} {ki:IntKind} {j:Int} {K:V->AE->Prop} (h:K (.sv n sz 0 j.toNat) Z) (h0:0<=j:=by omega) (h1:j<=(len:Int):=by omega):AQ Z sz (.sl n len cap) none (some (.i ki j)) none K:=by
 unfold AQ;simp only[OL];refine⟨Int.le_refl _,h0,h1,?_⟩;simpa using h
def xI {l:List At} (h:Sat Z l) (i:Nat) {n len cap sz:Nat} {es ys:List (List V)} {f:Bool} {K:V->AE->Prop} (hi:l[i]? =some (.own (.sl n len cap) sz es)) (hle:ys.length<=es.length) (hys: ∀e∈ys,e.length=sz) (ho: ∀e∈ys,∀v∈e,CC v=true)
    (hk: ∀Z',Sat Z' (l.set i (.own (.sl n len cap) sz (ys++es.drop ys.length)))->K (.i .i64 (ys.length:Nat)) Z'):Ac Z sz (.sl n len cap) (.l ys f) K:=by
 rcases h.get hi with⟨h1,_⟩|⟨n',cap',h1,hn⟩
 .cases h1
 cases h1;unfold Ac;refine⟨hys,ho,?_⟩;simp only[O3,hn];have hm:min ys.length es.length=ys.length:=Nat.min_eq_left hle;refine⟨trivial,by omega,?_⟩;rw[hm];refine hk _ ?_;simp only[List.take_zero,List.nil_append,List.take_length,Gj];refine h.change hi (fun b hb ha=>E6 hb fun m hm=>?_) (fun b hb ha m hm=>ha m hm) (.inr ⟨n,cap,by simp;omega,by simp[Bd]⟩);rw[CY];intro e;subst e;exact ha m rfl hm
def xH {l:List At} (h:Sat Z l) (i:Nat) {n len cap sz a b c:Nat} {es:List (List V)} {K:V->AE->Prop} (hi:l[i]? =some (.own (.sl n len cap) sz es)) (hbc:a+b<=es.length) (hc:c<=es.length) (hys: ∀e∈es,e.length=sz) (ho: ∀e∈es,∀v∈e,CC v=true)
    (hk: ∀Z',Sat Z' (l.set i (.own (.sl n len cap) sz (es.take a++((es.take c).take (min c b)++es.drop (a+min c b)))))->K (.i .i64 (min c b:Nat)) Z'):Ac Z sz (.sv n sz a b) (.sv n sz 0 c) K:=by
 rcases h.get hi with⟨h1,_⟩|⟨n',cap',h1,hn⟩
 .cases h1
 cases h1;unfold Ac;simp only[rowsOf,hn];have hl:((es.drop 0).take c).length=c:=by simp;omega
 refine⟨trivial,trivial,by omega,fun e he v hv=>ho e (List.mem_of_mem_take (by simpa using he)) v hv,trivial,?_⟩;simp only[O3,hn,List.drop_zero];refine⟨trivial,by omega,?_⟩;have hl2:(es.take c).length=c:=by simp;omega
 rw[hl2];refine hk _ ?_;refine h.change hi (fun b hb ha=>E6 hb fun m hm=>?_) (fun b hb ha m hm=>ha m hm) (.inr ⟨n,cap,by simp;omega,by simp[Bd]⟩);rw[CY];intro e;subst e;exact ha m rfl hm
end Go.Gl
namespace Go.Gl
variable {P:Program} {Z:AE}
def Sat.up {Z':AE} {l:List At} (h:Sat Z l) (hs:Sub Z Z'):Sat Z' l:=by
 refine⟨fun a ha=>?_,h.2⟩;have:=h.1 a ha;cases a with
 | obj n o=>exact hs n o this
 | own v sz es=>
   rcases this with h|⟨n,cap,e,hn⟩
   .exact .inl h
   .exact .inr ⟨n,cap,e,hs n _ hn⟩
def Sat.del {l:List At} {n:Nat} {o:O} (h:Sat Z (.obj n o::l)):Sat (del Z n) l:=by
 refine⟨fun b hb=>E6 (h.1 b (.tail _ hb)) fun m hm=>?_,(List.pairwise_cons.1 h.2).2⟩;rw[G0];intro e;subst e;exact(List.pairwise_cons.1 h.2).1 b hb m rfl hm
def Sat.p8 {l:List At} {n:Nat} {o:O} (h:Sat Z l) (hn:Z n=none):Sat (Bd Z n o) (.obj n o::l):=(dw h hn).vq
def Sat.new {l:List At} {n:Nat} {o o':O} (h:Sat Z (.obj n o::l)):Sat (Bd Z n o') (.obj n o'::l):=po (i:=0) h rfl o'
def AU {v:V} {Q:R->AE->Prop} (h:Q (.ret v) Z):Aq Z v Q:=⟨v,Z,fun _ _ h=>h,.refl v,h⟩
inductive Rd (S:Type) where
 | go (s:S)
 | stop (st:vj) (s:S)
 | Bb (v:V)
def kE {S:Type} (L:Nat) (E:Env) (ok:FuncId->Array Tmp->Code->Code->Nat->Prop) (H:S->List At) (J:S->Prop) (rest:List At) (yes no:V):Rd S->R->AE->Prop
 | .go s,r,Z=>r= .ret yes/\Sat Z (.obj L (.loop .ready E ok)::(H s++rest))
 | .stop st s,r,Z=>r= .ret no/\Sat Z (.obj L (.loop st E ok)::(H s++rest))
 | .Bb v,r,Z=>r= .Bb v/\ ∃s,J s/\Sat (del Z L) (H s++rest)
def M9 {α S:Type} (P:Program) (L:Nat) (E:Env) (ok:FuncId->Array Tmp->Code->Code->Nat->Prop) (ea:α->List V) (H:S->List At) (J:S->Prop) (stp:α->S->Rd S) (D:α->S->Prop):Prop:=
 ∀y s,D y s-> ∀(rest:List At) (Z:AE),Sat Z (.obj L (.loop .ready E ok)::(H s++rest))->LR P L (ea y) Z (kE L E ok H J rest (.b true) (.b false) (stp y s))
def M9.use {α S:Type} {L:Nat} {E:Env} {ok:FuncId->Array Tmp->Code->Code->Nat->Prop} {ea:α->List V} {H:S->List At} {J:S->Prop} {stp:α->S->Rd S} {D:α->S->Prop} (h:M9 P L E ok ea H J stp D) {y:α} {s:S} (hd:D y s) {rest:List At} (hs:Sat Z (.obj L (.loop .ready E ok)::(H s++rest)))
    {Q:R->AE->Prop} (hk: ∀r Z',kE L E ok H J rest (.b true) (.b false) (stp y s) r Z'->Q r Z'):Ax P (.f (.yield L) [] []) (ea y) Z Q:=(h y s hd rest Z hs).mono hk
def Qg {L:Nat} {env:Env} {ps:List Nat} {a b:AV} (hσ:Z L=some (.loop .ready env (Bt P ps a b))) {args:List V} (hl:args.length=ps.length) {Q:R->AE->Prop}
    (h:W P a (CX (W P b fun ex env' Z'=>Z' L=none->Ti L env (Bt P ps a b) Q ex env' Z')) (En ps args env) (del Z L)):LR P L args Z Q:=
 Qh hσ hl (Xm h (KA fun _ _ h=>oC h))
def N4 {α S:Type} {L:Nat} {E:Env} {ps:List Nat} {a b:AV} {ea:α->List V} {H:S->List At} {J:S->Prop} {stp:α->S->Rd S} {D:α->S->Prop} (hl: ∀y,(ea y).length=ps.length)
    (h: ∀y s,D y s-> ∀(rest:List At) (Z:AE),Sat Z (H s++rest)->W P a (CX (W P b fun ex env' Z'=>Z' L=none->Ti L E (Bt P ps a b) (kE L E (Bt P ps a b) H J rest (.b true) (.b false) (stp y s)) ex env' Z')) (En ps (ea y) E) Z):M9 P L E (Bt P ps a b) ea H J stp D:=
 fun y s hd rest Z hs=>Qg (hs.get (i:=0) rfl) (hl y) (h y s hd rest _ hs.del)
def Vb {S:Type} {L:Nat} {E:Env} {ok:FuncId->Array Tmp->Code->Code->Nat->Prop} {H:S->List At} {J:S->Prop} {rest:List At} {o:Rd S} {s:S} (h:o= .go s) (hs:Sat Z (H s++rest)) (hn:Z L=none) :
    kE L E ok H J rest (.b true) (.b false) o (.ret (.b true)) (Bd Z L (.loop .ready E ok)):=by
 subst h;exact⟨rfl,hs.p8 hn⟩
def Xu {S:Type} {L:Nat} {E:Env} {ok:FuncId->Array Tmp->Code->Code->Nat->Prop} {H:S->List At} {J:S->Prop} {rest:List At} {o:Rd S} {s:S} {st:vj} (h:o= .stop st s) (hs:Sat Z (H s++rest)) (hn:Z L=none) :
    kE L E ok H J rest (.b true) (.b false) o (.ret (.b false)) (Bd Z L (.loop st E ok)):=by
 subst h;exact⟨rfl,hs.p8 hn⟩
def R2 {S:Type} {L:Nat} {E:Env} {ok:FuncId->Array Tmp->Code->Code->Nat->Prop} {H:S->List At} {J:S->Prop} {rest:List At} {o:Rd S} {s:S} {v:V} (h:o= .Bb v) (hj:J s) (hs:Sat Z (H s++rest)) (hn:Z L=none) :
    kE L E ok H J rest (.b true) (.b false) o (.Bb v) Z:=by
 subst h;refine⟨rfl,s,hj,fun a ha=>E6 (hs.1 a ha) fun n hd=>?_,hs.2⟩;obtain⟨o,ho⟩:=Cq (hs.1 a ha) hd;rw[G0];intro e;subst e;rw[hn]at ho;cases ho
def Pb {L:Nat} {E env:Env} {ok:FuncId->Array Tmp->Code->Code->Nat->Prop} {Q:Aa->Env->AE->Prop} {l:List At} {v:V} (hs:Sat Z (.obj L (.loop .ready E ok)::l)) (hk: ∀Z',Sat Z' l->Q .normal env Z'):Ko L Q env (.ret v) Z:=
 ⟨_,_,_,hs.get (i:=0) rfl,hk _ hs.del⟩
def Xx {L id:Nat} {E env:Env} {ok:FuncId->Array Tmp->Code->Code->Nat->Prop} {Q:Aa->Env->AE->Prop} {l:List At} {v:V} (hs:Sat Z (.obj L (.loop (.exit id) E ok)::l)) (hk: ∀Z',Sat Z' l->Q (.exit id) env Z'):Ko L Q env (.ret v) Z:=
 ⟨_,_,_,hs.get (i:=0) rfl,hk _ hs.del⟩
end Go.Gl
namespace Go.Gl
variable {P:Program} {Z:AE}
def dT {v:V} {Q Q':R->AE->Prop} (h:Aq Z v Q) (hq: ∀r Z,Q r Z->Q' r Z):Aq Z v Q':=by
 obtain⟨vf,s2,h1,h2,h3⟩:=h;exact⟨vf,s2,h1,h2,hq _ _ h3⟩
def Cz.more {α S:Type} {g:FuncId} {fi ca:List V} {ea:α->V} {H:S->List At} {stp:α->S->Bool×S} {D:α->S->Prop} (h:Cz P (.f (.func g) fi ca) ea H stp D) (pre:List At):Cz P (.f (.func g) fi ca) ea (fun s=>pre++H s) stp D:=fun y s hd Z hs=>by
 have h1:Bc P g (fi++[ea y]++ca) (H s) fun r post=>r= .ret (.b (stp y s).1)/\post=H (stp y s).2:=fun Z hs=>A3.mono (h y s hd Z hs) fun r Z' ⟨e,h2⟩=>⟨_,⟨e,rfl⟩,h2⟩
 refine By (h1.use (rest:=pre) (hs.perm RP) ?_);rintro r post Z' ⟨rfl,rfl⟩ hs';exact⟨rfl,hs'.perm RP⟩
def Nz {α S:Type} (P:Program) (x:V) (ea:α->V) (H:S->List At) (f:α->Bool) (J:S->Prop) (D:α->Prop):Prop:=
 ∀y s,D y->J s-> ∀Z,Sat Z (H s)->Ax P x [ea y] Z fun r Z'=>r= .ret (.b (f y))/\ ∃s',J s'/\Sat Z' (H s')
def Nz.use {α S:Type} {x:V} {ea:α->V} {H:S->List At} {f:α->Bool} {J:S->Prop} {D:α->Prop} (h:Nz P x ea H f J D) {y:α} {s:S} (hd:D y) (hj:J s) (hs:Sat Z (H s)) {k kp:V->AE->Prop} (hk: ∀s' Z',J s'->Sat Z' (H s')->k (.b (f y)) Z'):Ax P x [ea y] Z (qk k kp):=
 (h y s hd hj Z hs).mono fun r Z' ⟨e,s',hj',h'⟩=>by rw[e];exact hk s' Z' hj' h'
def Nx {α:Type} (f:α->Bool):List α->Nat->Int
 | [],_=> -1
 | y::r,k=>if f y then(k:Int)else Nx f r (k+1)
def V1 {α:Type} (f:α->Bool): ∀(xs:List α) (k:Nat),decide (Nx f xs k≥0)=xs.any f
 | [],_=>rfl
 | y::r,k=>by
   rw[Nx,Q1];cases f y
   .exact V1 f r (k+1)
   .simp
end Go.Gl
namespace Go.Proofs
open Go.Shelf
def Tryz.We:Go.Shelf.Ren:=⟨fun|189=>279|125=>309|257=>308|128=>351|129=>352|294=>342|295=>343|296=>344|297=>345|298=>346|299=>347|216=>348|300=>349|301=>350|328=>374|329=>375|330=>376|331=>377|332=>378|215=>379|343=>389|n=>n,fun|28=>23|3=>3|46=>222|0=>0|51=>294|53=>297|4=>4|183=>399|182=>398|131=>292|5=>5|9=>9|218=>414|222=>393|228=>426|229=>427|n=>n,fun|n=>n⟩
def Tryz.mA:Go.Proofs.Lays.n189 Tryz.prog Tryz.We:={
 mixed:=by kernel_rfl
 f125:=Tryz.func309.trans (congrArg some (by kernel_rfl))
 f128:=Tryz.func351.trans (congrArg some (by kernel_rfl))
 f129:=Tryz.func352.trans (congrArg some (by kernel_rfl))
 f189:=Tryz.func279.trans (congrArg some (by kernel_rfl))
 f215:=Tryz.func379.trans (congrArg some (by kernel_rfl))
 f216:=Tryz.func348.trans (congrArg some (by kernel_rfl))
 f257:=Tryz.func308.trans (congrArg some (by kernel_rfl))
 f294:=Tryz.func342.trans (congrArg some (by kernel_rfl))
 f295:=Tryz.func343.trans (congrArg some (by kernel_rfl))
 f296:=Tryz.func344.trans (congrArg some (by kernel_rfl))
 f297:=Tryz.func345.trans (congrArg some (by kernel_rfl))
 f298:=Tryz.func346.trans (congrArg some (by kernel_rfl))
 f299:=Tryz.func347.trans (congrArg some (by kernel_rfl))
 f300:=Tryz.func349.trans (congrArg some (by kernel_rfl))
 f301:=Tryz.func350.trans (congrArg some (by kernel_rfl))
 f328:=Tryz.func374.trans (congrArg some (by kernel_rfl))
 f329:=Tryz.func375.trans (congrArg some (by kernel_rfl))
 f330:=Tryz.func376.trans (congrArg some (by kernel_rfl))
 f331:=Tryz.func377.trans (congrArg some (by kernel_rfl))
 f332:=Tryz.func378.trans (congrArg some (by kernel_rfl))
 f343:=Tryz.func389.trans (congrArg some (by kernel_rfl))
 t0:=Tryz.underlying0
 a0:=Tryz.isAgg0
 z0:=Tryz.sizeOf0
 v0:=Tryz.zeroValue0
 t3:=Tryz.underlying3
 a3:=Tryz.isAgg3
 z3:=Tryz.sizeOf3
 v3:=Tryz.zeroValue3
 t4:=Tryz.underlying4
 a4:=Tryz.isAgg4
 z4:=Tryz.sizeOf4
 v4:=Tryz.zeroValue4
 t5:=Tryz.underlying5
 a5:=Tryz.isAgg5
 z5:=Tryz.sizeOf5
 v5:=Tryz.zeroValue5
 t9:=Tryz.underlying9
 a9:=Tryz.isAgg9
 z9:=Tryz.sizeOf9
 v9:=Tryz.zeroValue9
 t28:=Tryz.underlying23
 a28:=Tryz.isAgg23
 z28:=Tryz.sizeOf23
 v28:=Tryz.zeroValue23
 t46:=Tryz.underlying222
 a46:=Tryz.isAgg222
 z46:=Tryz.sizeOf222
 v46:=Tryz.zeroValue222
 t51:=Tryz.underlying294
 a51:=Tryz.isAgg294
 z51:=Tryz.sizeOf294
 v51:=Tryz.zeroValue294
 t53:=Tryz.underlying297
 a53:=Tryz.isAgg297
 z53:=Tryz.sizeOf297
 v53:=Tryz.zeroValue297
 t131:=Tryz.underlying292
 a131:=Tryz.isAgg292
 z131:=Tryz.sizeOf292
 v131:=Tryz.zeroValue292
 t182:=Tryz.underlying398
 a182:=Tryz.isAgg398
 z182:=Tryz.sizeOf398
 v182:=Tryz.zeroValue398
 t183:=Tryz.underlying399
 a183:=Tryz.isAgg399
 z183:=Tryz.sizeOf399
 v183:=Tryz.zeroValue399
 t218:=Tryz.underlying414
 a218:=Tryz.isAgg414
 z218:=Tryz.sizeOf414
 v218:=Tryz.zeroValue414
 t222:=Tryz.underlying393
 a222:=Tryz.isAgg393
 z222:=Tryz.sizeOf393
 v222:=Tryz.zeroValue393
 t228:=Tryz.underlying426
 a228:=Tryz.isAgg426
 z228:=Tryz.sizeOf426
 v228:=Tryz.zeroValue426
 t229:=Tryz.underlying427
 a229:=Tryz.isAgg427
 z229:=Tryz.sizeOf427
 v229:=Tryz.zeroValue427}
end Go.Proofs
