import Derived.Test.YtegbmnmnaijioaaGreatA7
import Derived.Test.YtegbmnmnaijioaaGreatA8
set_option linter.all false
set_option linter.defProp false
noncomputable section
namespace Go.Gl
open Go.Proofs
attribute [local irreducible] BC Aw Ai AV AM Ah AU AW AN Ag AQ AS A3 BA Sat Ab A8 Ak W
def Iq (w:AL) (x:Fact):Prop:= ∃g,Bo w g=true∧CH g=true∧(x=g∨x=Eo g)
def Fs {g:Fact} (h:CH g=true):g.op=2∨g.op=3∨g.op=4:=by
 simp only[CH,Fo,D9]at h;omega
def Ef {w : AL} (f:Fact):Bo w f=true→ ∀c,∀l∈BN f c,∀x∈l,Iq w x:=by
 induction f using Fact.ind with
 | h f ih=>
   intro h c;have har:=Cm f h;have h':=h;rw[Cz,BJ,Em]at h';rw[F3,FJ];by_cases h1:f.op=1
   ·rw[if_pos h1]
    cases c
    ·rw[if_neg (by decide)]
     intro l hl x hx;simp at hl;subst hl;cases hx
    ·rw[if_pos rfl]
     intro l hl;cases hl
   rw[if_neg h1];by_cases h5:f.op=5
   ·obtain⟨a,ha,hb⟩:=H9 har h5
    rw[if_pos h5,ha];exact ih a (by rw[ha];exact .head _) (h'.2 a (by rw[ha];exact .head _)) (!c)
   rw[if_neg h5];by_cases h6:f.op=6∨f.op=7
   ·obtain⟨a,b,ha,hb1,hb2⟩:=H8 har h6
    rw[if_pos h6,ha];have i1:=ih a (by rw[ha];exact .head _) (h'.2 a (by rw[ha];exact .head _)) c;have j1:=ih b (by rw[ha];exact .tail _ (.head _)) (h'.2 b (by rw[ha];exact .tail _ (.head _))) c;simp only[E3,List.map_nil,List.getD_cons_zero,List.getD_cons_succ];split
    ·intro l hl
     rcases E7.1 hl with hl|hl
     ·exact i1 l hl
     ·exact j1 l hl
    ·intro l hl x hx
     simp only[Dn,List.mem_flatMap,MN]at hl;obtain⟨y,hy,z,hz,rfl⟩:=hl;rcases R1 _ _ _ hx with h|h
     ·exact i1 y hy x h
     ·exact j1 z hz x h
   ·rw [if_neg h6]
    have hlf:CH f=true:=by
     have ho:Wj w f=true:=by
      have:=h'.1;simp only[DI,BJ]at this;exact this.1
     simp only[CH,Fo,D9];unfold Wj at ho;split at ho
     ·omega
     ·split at ho
      ·omega
      ·simp only[Fo,D9]at ho
       omega
    cases c
    ·rw[if_neg (by decide)]
     intro l hl x hx;simp at hl;subst hl;simp at hx;subst hx;exact⟨x,h,hlf,.inl rfl⟩
    ·rw[if_pos rfl]
     intro l hl x hx;simp at hl;subst hl;simp at hx;subst hx;exact⟨f,h,hlf,.inr rfl⟩
def Hd {w:AL} {x:Fact} (h:Iq w x):GA x∧Bo w (Az x).1=true∧CH (Az x).1=true:=by
 obtain⟨g,hn,hl,rfl|rfl⟩:=h
 ·have:=Fs hl
  have h5: ¬x.op=5:=by omega
  exact⟨fun e=>absurd e h5,by simp only[Az,if_neg h5];exact⟨hn,hl⟩⟩
 ·exact⟨fun _ e=>(by cases e),hn,hl⟩
def JK {w:AL} {l:List Fact} (h: ∀x∈l,Iq w x):(∀x∈l,GA x)∧Ut w l∧KN l∧Sy l 2:=by
 refine⟨fun x hx=>(Hd (h x hx)).1,fun x hx h2=>?_,fun x hx=>?_,fun x hx=>?_⟩
 all_goals
  obtain⟨-,hn,hl⟩:=Hd (h x hx);have hlo:=Fs hl;generalize (Az x).1=g at *;rw[Cz,BJ]at hn;have hn:=hn.1;simp only[DI,BJ]at hn;obtain⟨ho,-,-,-,hp,-⟩:=hn
 ·unfold Wj at ho
  rw[if_pos h2]at ho;simp only[Qh,BJ,Cn]at ho;exact ho.2
 ·unfold Wj at ho
  split at ho
  ·simp only[BJ,D9]at ho
   omega
  ·split at ho
   ·simp only[BJ,Cn]at ho
    omega
   ·omega
 ·simp only[E8,BJ,Cn]at hp
  omega
def Qe (w:AL) (f:Fact):Bool:=(BN f false).any (Gu w)
def ua (w:AL) (f:Fact) (hw:UA w) (hn:Bo w f=true) (hlv:lv f≤28):Pure Tryz.prog 277 [.a (A7 w),.a (xF f)] (.b (Qe w f)):=by
 have hM:=Mx;have har:=Cm f hn;have hcl:=(Ea f har false).1;have hp:2 ^ lv f≤2 ^ 28:=Nat.pow_le_pow_right (by omega) hlv;have hlits:=Ef f hn false;refine sj kZ ?_;have hs:=Sn
 conv=>whnf
 repeat'((first|apply st|(apply sq;intro K U)|(apply si;intro A B Y Z)|(apply Y;clear Z B Y A)|(apply U;clear U K)|refine⟨kZ,?_⟩|fail)<;>conv=>whnf)
 refine(uf f har hlv false).use (rest:=[]) hs ?_;clear hs;rintro r post σ ⟨v,rfl,rfl⟩ hs;have F:Qe w f=(BN f false).any (Gu w):=rfl
 have hlen: ∀x∈BN f false,x.length≤1000000:=fun x hx=>by
  have:=(Ea f har false).2 x hx;omega
 generalize BN f false=cs at *
 conv=>whnf
 repeat'((first|apply st|(apply Y;clear Z B Y A)|(apply U;clear U K)|refine lo ?_|fail)<;>conv=>whnf)
 refine CA cs.length (fun k (_:Unit)=>[(10,eI (BG k))]) (fun _ _=>[.own v 1 (jg cs)]) (fun k _=>Qe w f=(cs.drop k).any (Gu w)) () rfl F hs ?_;clear hs F;rintro k - σ hk F hs;rcases BI cs hk with⟨x,hx,hlt⟩|hke
 ·obtain⟨q1,q2,q3,q4⟩:=JK (hlits x (B9 hx))
  have htog:=V2 w x q1 (hlen x (B9 hx)) hw q2 q3 q4;rw[drop_cons hx,Qb]at F;cases ht:Gu w x<;>rw[ht]at htog F
  ·conv=>whnf
   repeat'((first|apply st|(apply sq;intro K U)|(apply si;intro A B Y Z)|(apply Y;clear Z B Y A)|(apply U;clear U K)|refine⟨rfl,?_⟩|refine⟨kZ,?_⟩|refine oc ?_|refine Oc ?_|(refine CU (fun hc=>?_)<;>(try rw[hc])<;>clear hc)|refine Pure.use (by assumption) ?_|clear U K)<;>conv=>whnf)
   exact⟨hlt,(),rfl,F,hs⟩
  ·conv=>whnf
   repeat'((first|apply st|(apply sq;intro K U)|(apply si;intro A B Y Z)|(apply Y;clear Z B Y A)|(apply U;clear U K)|refine⟨rfl,?_⟩|refine⟨kZ,?_⟩|refine oc ?_|refine Oc ?_|(refine CU (fun hc=>?_)<;>(try rw[hc])<;>clear hc)|refine Pure.use (by assumption) ?_|clear U K)<;>conv=>whnf)
   exact AI (by rw[F];rfl)
 ·conv=>whnf
  repeat'((first|apply st|(apply sq;intro K U)|(apply si;intro A B Y Z)|(apply Y;clear Z B Y A)|(apply U;clear U K)|refine⟨rfl,?_⟩|(refine Dl (fun hc=>?_)<;>(try rw[hc])<;>clear hc)|clear U K)<;>conv=>whnf)
  exact AI (by rw[F,As hke];rfl)
def Ss (w:AL) (a b:Fact):Bool:= !Qe w (N7 a (Eo b))
def ep (a b:Fact):lv (N7 a (Eo b))=lv a+lv b:=by
 rw[Na];simp only[dC,N7,Fact.op,Fact.kids,E3,List.map_nil,List.getD_cons_zero,List.getD_cons_succ];rw[Na (Eo b)];simp[dC,Eo,Fact.op,Fact.kids]
def PN {w:AL} {a b:Fact} (ha:Bo w a=true) (hb:Bo w b=true):Bo w (N7 a (Eo b))=true:=by
 have hnb:Bo w (Eo b)=true:=by
  rw[Cz];simp[Eo,DI,Wj,Fact.op,Fact.kids,Fact.arg,Fact.path,Fact.cls,Fact.n,CK,E8,CH,hb]
 rw[Cz];simp[N7,DI,Wj,Fact.op,Fact.kids,Fact.arg,Fact.path,Fact.cls,Fact.n,CK,E8,CH,ha,hnb]
def bc (w:AL) (a b:Fact) (hw:UA w) (ha:Bo w a=true) (hb:Bo w b=true) (la:lv a≤12) (lb:lv b≤12):Pure Tryz.prog 204 [.a (A7 w),.a (xF a),.a (xF b)] (.b (Ss w a b)):=by
 refine ta kZ ?_;have hs:=Sn
 conv=>whnf
 repeat'((first|apply st|(apply sq;intro K U)|(apply si;intro A B Y Z)|(apply Y;clear Z B Y A)|(apply U;clear U K)|apply dr|refine rk ?_ ?_|exact fun s e=>by cases e;rfl|refine⟨kZ,?_⟩|refine Pure.use (W7 _) ?_|refine Pure.use (ue _ _) ?_|refine Pure.use (ua _ _ hw (PN ha hb) (by rw[ep];omega)) ?_|fail)<;>conv=>whnf)
 all_goals exact AI rfl
def VD {p:Prog}: ∀ {ms:List Mc} {s:List Int},(runM p ms s).isSome=true→ ∀m∈ms,Od p m=true
 | [],_,_,_,h=>by cases h
 | m ::r,s,h,x,hx=>by
   rw[runM]at h;split at h
   ·rename_i hok
    split at h
    ·cases h
    ·rcases F6.1 hx with rfl|hx
     ·exact hok
     ·exact VD h x hx
   ·cases h
def F1 {p:Prog} (h:(Bb p).isSome=true):C9 p=true∧ ∀m∈p.methods,Od p m=true:=by
 unfold Bb at h;split at h
 ·rename_i hh
  refine⟨hh,?_⟩;split at h
  ·cases h
  ·rename_i s hs
   exact VD (by rw[hs];rfl)
 ·cases h
structure EN (p:Prog):Prop where
 wok:UA (AR p)
 AJ:Bp p.AP≤Ad
 nf:p.AP.length≤1000
 facts: ∀m∈p.methods,Bo (AR p) m.fact=true∧lv m.fact≤12
 many:p.methods.length≤16
def look_ok {p:Prog} (h:(Bb p).isSome=true):EN p:=by
 obtain⟨hh,hm⟩:=F1 h;simp only[C9,BJ,Cn]at hh;have hc:=hh.1;simp only[BE,BJ,Cn]at hc;have hM:=Mx;refine⟨Po hc.1 hc.2.1 hc.2.2.2.1,by have:=(FK _ _ hc.2.1).1;omega,by have:=hc.1;omega,fun m h=>?_,hh.2.2.1⟩;have:=hm m h;simp only[Od,CS,BJ,Cn]at this;have hn:=this.2.2.2.2.1.2.2;refine⟨hn,?_⟩;have hcn:=Kp m.fact 24 (by omega) this.2.2.2.2.1.1;have:=qS m.fact (Cm _ hn);omega
def BQ (p:Prog) (m:Int):Bool:=decide (0≤m)&&decide (m<(p.methods.length:Int))
def Bh (p:Prog) (m:Int):Mc:=p.methods.getD m.toNat default
def B8 {p:Prog} {m:Int} (h:BQ p m=true):p.methods[m.toNat]? =some (Bh p m):=by
 simp only[BQ,BJ,Cn]at h;rw[Bh,DZ,C7 (by omega)];rfl
def Dv (p:Prog) (m n:Int):Bool:=(Bh p m).gen==(Bh p n).gen&&(Bh p m).kind==(Bh p n).kind
def F8 (p:Prog) (m n:Int):Bool:=Ss (AR p) (Bh p m).fact (Bh p n).fact
def A1 (p:Prog) (m n:Int):Bool:=F8 p m n&& !F8 p n m
def hZ (p:Prog) (m:Int):Pure Tryz.prog 51 [.a (BR p),eI m] (.b (BQ p m)):=by
 refine Pure.fit (by kernel_rfl) fun hf=>?_
 have⟨p1,p2,p3,p4⟩:=Er hf.1;refine xB kZ ?_;have hs:=Sn
 conv=>whnf
 repeat'((first|apply st|(apply sq;intro K U)|(apply si;intro A B Y Z)|(apply Y;clear Z B Y A)|(apply U;clear U K)|refine⟨rfl,?_⟩|(constructor<;>intro hc<;>(try rw[hc])<;>(replace hc:=bp hc))|fail)<;>conv=>whnf)
 all_goals exact AI (by simp[BQ, *]<;>omega)
def mz (p:Prog) (m n:Int) (hm:BQ p m=true) (hn:BQ p n=true):Pure Tryz.prog 203 [.a (BR p),eI m,eI n] (.b (Dv p m n)):=by
 refine Pure.fit (by kernel_rfl) fun hf=>?_
 have⟨p1,p2,p3,p4⟩:=Er hf.1;have hxm:=B8 hm;have hxn:=B8 hn;simp only[BQ,BJ,Cn]at hm hn;refine tb kZ ?_;have hs:=Sn
 conv=>whnf
 repeat'((first|apply st|(apply sq;intro K U)|(apply si;intro A B Y Z)|(apply Y;clear Z B Y A)|(apply U;clear U K)|apply dr|refine⟨rfl,?_⟩|refine HI ?_|(constructor<;>intro hc<;>(try rw[hc])<;>(replace hc:=bp hc))|fail)<;>conv=>whnf)
 all_goals exact AI (by simp[Dv, *])
end Go.Gl
namespace Go.Gl
variable {P:Program} {σ:AH}
abbrev eU (n:Nat):V:= .i .u64 (n:Int)
def HZ {n:Nat} (h:n<18446744073709551616):IntKind.u64.wrap (n:Int)=n:=by
 simp only[IntKind.wrap,IntKind.signed,IntKind.bits];simp;omega
def Le {a b:Nat} (ha:a<18446744073709551616) (hb:b<18446744073709551616):bits .or .u64 (a:Int) (b:Int)=((a|||b:Nat):Int):=by
 have h:a|||b<2 ^ 64:=Nat.or_lt_two_pow (n:=64) (by simpa using ha) (by simpa using hb)
 simp only[bits,IntKind.bits]
 have e1:(BitVec.ofInt 64 (a:Int)|||BitVec.ofInt 64 (b:Int)).toNat=a|||b:=by
  simp only[BitVec.ofInt_natCast,BitVec.toNat_or,BitVec.toNat_ofNat];rw[Nat.mod_eq_of_lt (by simpa using ha),Nat.mod_eq_of_lt (by simpa using hb)]
 have e2:=HZ (n:=a|||b) (by simpa using h);rw[←e1]at e2;rw[←e1];exact e2
def L0 {a b:Nat} (ha:a<18446744073709551616) (hb:b<18446744073709551616):bits .and .u64 (a:Int) (b:Int)=((a&&&b:Nat):Int):=by
 have h:a&&&b<2 ^ 64:=Nat.and_lt_two_pow (n:=64) a (by simpa using hb);simp only[bits,IntKind.bits]
 have e1:(BitVec.ofInt 64 (a:Int)&&&BitVec.ofInt 64 (b:Int)).toNat=a&&&b:=by
  simp only[BitVec.ofInt_natCast,BitVec.toNat_and,BitVec.toNat_ofNat];rw[Nat.mod_eq_of_lt (by simpa using ha),Nat.mod_eq_of_lt (by simpa using hb)]
 have e2:=HZ (n:=a&&&b) (by simpa using h);rw[←e1]at e2;rw[←e1];exact e2
def On (a b:Nat):Nat:=(BitVec.ofNat 64 a&&& ~~~BitVec.ofNat 64 b).toNat
def Tp (a b:Nat):On a b<18446744073709551616:=by
 have:=(BitVec.ofNat 64 a&&& ~~~BitVec.ofNat 64 b).isLt;simpa[On]using this
def SP {a b:Nat}:bits .andNot .u64 (a:Int) (b:Int)=((On a b:Nat):Int):=by
 simp only[bits,IntKind.bits]
 have e1:(BitVec.ofInt 64 (a:Int)&&& ~~~BitVec.ofInt 64 (b:Int)).toNat=On a b:=by
  simp only[BitVec.ofInt_natCast,On]
 have e2:=HZ (n:=On a b) (Tp a b);rw[←e1]at e2;rw[←e1];exact e2
def Pj {a b i:Nat} (hi:i<64):(On a b).testBit i=(a.testBit i&& !b.testBit i):=by
 rw[On,BitVec.testBit_toNat,BitVec.getLsbD_and,BitVec.getLsbD_not];rw[BitVec.getLsbD_ofNat,BitVec.getLsbD_ofNat];simp only[hi,decide_true,Il]
def Yo {c:Nat} (h:c<64):IntKind.u64.wrap (1*2 ^ (min c IntKind.u64.bits))=((2 ^ c:Nat):Int):=by
 have hb:IntKind.u64.bits=64:=rfl;rw[hb,Nat.min_eq_left (by omega),Int.one_mul];have:=HZ (n:=2 ^ c) (by have:=Nat.pow_lt_pow_right (show 1<2 by omega) h;simpa using this);rw[←this];simp
def KQ {c:Nat} (h:c<64):2 ^ c<18446744073709551616:=by
 have:=Nat.pow_lt_pow_right (show 1<2 by omega) h;simpa using this
def Yn {a c:Nat} (h:c<64):(a:Int).fdiv (2 ^ (min c IntKind.u64.bits))=((a >>> c:Nat):Int):=by
 have hb:IntKind.u64.bits=64:=rfl;rw[hb,Nat.min_eq_left (by omega),Nat.shiftRight_eq_div_pow,Int.fdiv_eq_ediv_of_nonneg _ (Int.pow_nonneg (by omega))];simp
def DN {v:V} {Q:R→AH→Prop} (h:Q (.Bi v) σ):Ai σ v Q:=⟨v,σ,fun _ _ h=>h,.refl v,h⟩
def B2 {g:FuncId} {fi ca args:List V} {Q:R→AH→Prop} (h:BC P g (fi++args++ca) σ Q):A3 P (.f (.func g) fi ca) args σ Q:=h
def Pure.of {f:FuncId} {args:List V} {v:V} (h:BC P f args emp fun r _=>r= .ret v):Pure P f args v:=by
 refine⟨h.1,fun Λ w cs G hv=>Calls.mono (h.2 Λ w cs G hv) fun e w' ⟨r,σ',hr,h1,h2,h3⟩=>?_⟩;subst hr;obtain⟨c,rfl,hv'⟩:=h1;have hsub:Sub emp σ':=fun n o ho=>by cases ho
 exact⟨.ret v,emp,⟨rfl,rfl⟩,⟨c,rfl,FV.rel h2 hsub (.refl v) hv'⟩,h2.drop hsub,⟨h3.frame,h3.size,h3.os,h3.tape,h3.output,fun _ _ _=>rfl⟩⟩
def DB {α S:Type} (P:Program) (x:V) (ea:α→V) (H:S→List At) (stp:α→S→Bool×S) (D:α→S→Prop):Prop:=
 ∀y s,D y s→ ∀σ,Sat σ (H s)→A3 P x [ea y] σ fun r σ'=>r= .ret (.b (stp y s).1)∧Sat σ' (H (stp y s).2)
def DB.use {α S:Type} {x:V} {ea:α→V} {H:S→List At} {stp:α→S→Bool×S} {D:α→S→Prop} (h:DB P x ea H stp D) {y:α} {s:S} (hd:D y s) (hs:Sat σ (H s)) {k kp:V→AH→Prop} (hk: ∀σ',Sat σ' (H (stp y s).2)→k (.b (stp y s).1) σ'):A3 P x [ea y] σ (qk k kp):=
 (h y s hd σ hs).mono fun r σ' ⟨e,h'⟩=>by rw[e];exact hk σ' h'
def DB.yA {α S:Type} {g:FuncId} {fi ca:List V} {ea:α→V} {H:S→List At} {stp:α→S→Bool×S} {D:α→S→Prop} (h:DB P (.f (.func g) fi ca) ea H stp D) {y:α} {s:S} (hd:D y s) {rest:List At} (hs:Sat σ (H s++rest)) {k kp:V→AH→Prop} (hk: ∀σ',Sat σ' (H (stp y s).2++rest)→k (.b (stp y s).1) σ'):A3 P (.f (.func g) fi ca) [ea y] σ (qk k kp):=by
 refine B2 ?_;have h1:Bj P g (fi++[ea y]++ca) (H s) fun r post=>r= .ret (.b (stp y s).1)∧post=H (stp y s).2:=fun σ hs=>BC.mono (h y s hd σ hs) fun r σ' ⟨e,h2⟩=>⟨_,⟨e,rfl⟩,h2⟩
 refine h1.use hs ?_;rintro r post σ' ⟨rfl,rfl⟩ hs';exact hk σ' hs'
def Bq {α S:Type} (stp:α→S→Bool×S):List α→Nat→S→Int×S
 | [],_,s=>(-1,s)
 | y::r,k,s=>if(stp y s).1 then((k:Int),(stp y s).2)else Bq stp r (k+1) (stp y s).2
def Co {α S:Type} (stp:α→S→Bool×S):List α→S→Bool×S
 | [],s=>(true,s)
 | y::r,s=>if(stp y s).1 then Co stp r (stp y s).2 else(false,(stp y s).2)
def Wk {α S:Type} (stp:α→S→Bool×S) (D:α→S→Prop):List α→S→Prop
 | [],_=>True
 | y::r,s=>D y s∧Wk stp D r (stp y s).2
def NI {α S:Type} {stp:α→S→Bool×S}: ∀(xs:List α) (k:Nat) (s:S),(Bq (fun y s=>(!(stp y s).1,(stp y s).2)) xs k s).2=(Co stp xs s).2∧(decide ((Bq (fun y s=>(!(stp y s).1,(stp y s).2)) xs k s).1≥0)= !(Co stp xs s).1)
 | [],_,_=>⟨rfl,rfl⟩
 | y::r,k,s=>by
   simp only[Bq,Co];cases h:(stp y s).1
   ·simp
   ·simpa using NI r (k+1) (stp y s).2
def TV {α S:Type} {stp:α→S→Bool×S} {D:α→S→Prop}: ∀(xs:List α) (s:S),Wk stp D xs s→Wk (fun y s=>(!(stp y s).1,(stp y s).2)) D xs s
 | [],_,_=>trivial
 | _::r,_,h=>⟨h.1,TV r _ h.2⟩
def Js {α:Type} (f:α→Bool): ∀(xs:List α),Co (fun y (_:Unit)=>(f y,())) xs ()=(xs.all f,())
 | []=>rfl
 | y::r=>by
   simp only[Co,NS];cases f y
   ·rfl
   ·simpa using Js f r
def G0 {α S:Type} {stp:α→S→Bool×S} {D:α→S→Prop}: ∀ {xs:List α} {s:S},(∀y∈xs,∀s,D y s)→Wk stp D xs s
 | [],_,_=>trivial
 | y::r,s,h=>⟨h y (.head _) s,G0 fun z hz=>h z (.tail _ hz)⟩
end Go.Gl
namespace Go.Gl
open Go.Proofs
attribute [local irreducible] BC Aw Ai AV AM Ah AU AW AN Ag AQ AS A3 BA Sat Ab A8 Ak W
def JF {xs:List Int} {f:Bool} (h:E4 (.l (iL xs) f)):xs.length≤Ad:=LK h
def gx:Pure Tryz.prog 283 [.b true] (.t []):=by
 refine fQ kZ ?_;have hs:=Sn
 conv=>whnf
 repeat'((first|apply st|(apply sq;intro K U)|(apply si;intro A B Y Z)|(apply Y;clear Z B Y A)|(apply U;clear U K)|refine FP ?_|fail)<;>conv=>whnf)
 all_goals exact AI rfl
abbrev Dw:V:= .E2 377 (.a [])
def o5 (xs:List Int) (x:Int):Int:=(Bq (fun y (_:Unit)=>(x==y,())) xs 0 ()).1
def Lz {α:Type} (f:α→Bool): ∀(xs:List α) (k:Nat),(decide ((Bq (fun y (_:Unit)=>(f y,())) xs k ()).1≥0))=xs.any f
 | [],_=>rfl
 | y::r,k=>by
   simp only[Bq,Qb];cases f y
   ·simpa using Lz f r (k+1)
   ·simp
def T4 (xs:List Int) (x:Int):xs.any (x== ·)=xs.contains x:=by
 induction xs with
 | nil=>rfl
 | cons y r ih=>rw[Qb,List.contains_cons,ih]
def lZ (xs:List Int) (x:Int):decide (o5 xs x≥0)=xs.contains x:=by
 rw[←T4];exact Lz (x== ·) xs 0
def iN (xs:List Int) (f:Bool) (x:Int):Pure Tryz.prog 96 [.l (iL xs) f,eI x] (eI (o5 xs x)):=by
 refine Pure.fit (by kernel_rfl) fun hf=>?_
 have hxl:=JF hf.1;have hM:=Mx;refine wb kZ ?_;have hs:=Sn
 conv=>whnf
 repeat'((first|apply st|(apply sq;intro K U)|(apply si;intro A B Y Z)|(apply Y;clear Z B Y A)|(apply U;clear U K)|fail)<;>conv=>whnf)
 refine CA xs.length (fun k (_:Unit)=>[(8,eI (BG k))]) (fun _ _=>[]) (fun k _=>o5 xs x=(Bq (fun y (_:Unit)=>(x==y,())) (xs.drop k) k ()).1) () rfl rfl hs ?_;clear hs;rintro k - σ hk hn hs;have hck:BG k=k:=AK (by omega);rcases BI xs hk with⟨y,hy,hlt⟩|hke
 ·rw[drop_cons hy,Bq]at hn
  conv=>whnf
  repeat'((first|apply st|(apply sq;intro K U)|(apply si;intro A B Y Z)|(apply Y;clear Z B Y A)|(apply U;clear U K)|refine⟨rfl,?_⟩|refine ix ?_|(refine CU (fun hc=>?_)<;>(try rw[hc])<;>clear hc)|(constructor<;>intro hc<;>(try rw[hc])<;>(replace hc:=bp hc))|clear U K)<;>conv=>whnf)
  ·exact AI (by rw[hn,hc,hck];simp)
  ·exact⟨hlt,(),rfl,by rw[hn];simp[hc],hs⟩
 ·rw[As hke,Bq]at hn
  conv=>whnf
  repeat'((first|apply st|(apply sq;intro K U)|(apply si;intro A B Y Z)|(apply Y;clear Z B Y A)|(apply U;clear U K)|refine⟨rfl,?_⟩|(refine Dl (fun hc=>?_)<;>(try rw[hc])<;>clear hc)|clear U K)<;>conv=>whnf)
  exact AI (by rw[hn])
def C1 (xs:List Int) (f:Bool) (x:Int):Pure Tryz.prog 34 [.l (iL xs) f,eI x] (.b (xs.contains x)):=by
 refine xE kZ ?_;have hs:=Sn
 conv=>whnf
 repeat'((first|apply st|(apply sq;intro K U)|(apply si;intro A B Y Z)|(apply Y;clear Z B Y A)|(apply U;clear U K)|refine⟨rfl,?_⟩|refine Pure.use (iN _ _ _) ?_|fail)<;>conv=>whnf)
 all_goals exact AI (by rw[←lZ])
def QU (n:Int):Pure Tryz.prog 326 [eI n] (.b (Sv n)):=by
 refine rz kZ ?_;have hs:=Sn
 conv=>whnf
 repeat'((first|apply st|(apply sq;intro K U)|(apply si;intro A B Y Z)|(apply Y;clear Z B Y A)|(apply U;clear U K)|refine⟨rfl,?_⟩|(constructor<;>intro hc<;>(try rw[hc])<;>(replace hc:=bp hc))|fail)<;>conv=>whnf)
 all_goals exact AI (by simp[Sv, *]<;>omega)
def PQ (f:Fact):CH f=(decide (2≤f.op)&&decide (f.op≤4)):=by
 rw[JU];simp only[CH,Fo,BJ,D9,Cn];omega
def TZ (f:Fact):Pure Tryz.prog 180 [.a (xF f)] (.b (CH f)):=by
 refine tt kZ ?_;have hs:=Sn
 conv=>whnf
 repeat'((first|apply st|(apply sq;intro K U)|(apply si;intro A B Y Z)|(apply Y;clear Z B Y A)|(apply U;clear U K)|refine⟨rfl,?_⟩|(constructor<;>intro hc<;>(try rw[hc])<;>(replace hc:=bp hc))|fail)<;>conv=>whnf)
 all_goals exact AI (by rw[PQ];simp[*]<;>omega)
def Yi (s c:Nat) (hs0:s<18446744073709551616) (hc:c<64):Pure Tryz.prog 245 [eU s,eI c] (eU (s|||2 ^ c)):=by
 refine tH kZ ?_;have hs:=Sn
 conv=>whnf
 repeat'((first|(apply sq;intro K U)|(apply si;intro A B Y Z)|(apply Y;clear Z B Y A)|(apply U;clear U K)|fail)<;>conv=>whnf)
 refine⟨Int.natCast_nonneg _,?_⟩
 conv=>whnf
 repeat'((first|apply st|(apply Y;clear Z B Y A)|(apply U;clear U K)|refine⟨rfl,?_⟩|fail)<;>conv=>whnf)
 exact AI (by rw[Iv,Yo hc,Le hs0 (KQ hc)])
def S8 (s c:Nat) (hs0:s<18446744073709551616) (hc:c<64):Pure Tryz.prog 182 [eU s,eI c] (.b (s.testBit c)):=by
 refine ts kZ ?_;have hs:=Sn
 conv=>whnf
 repeat'((first|(apply sq;intro K U)|(apply si;intro A B Y Z)|(apply Y;clear Z B Y A)|(apply U;clear U K)|fail)<;>conv=>whnf)
 refine⟨Int.natCast_nonneg _,?_⟩
 conv=>whnf
 repeat'((first|apply st|(apply Y;clear Z B Y A)|(apply U;clear U K)|refine⟨rfl,?_⟩|fail)<;>conv=>whnf)
 refine AI ?_;rw[Iv,Yn hc];have h1:s >>> c<18446744073709551616:=by rw[Nat.shiftRight_eq_div_pow];exact Nat.lt_of_le_of_lt (Nat.div_le_self _ _) hs0
 have h2:bits .and .u64 ((s >>> c:Nat):Int) 1=((s >>> c&&&1:Nat):Int):=L0 h1 (show 1<_ by decide);rw[h2];simp only[Nat.testBit,Nat.and_comm 1];congr 1;rcases Nat.mod_two_eq_zero_or_one (s >>> c)with h|h<;>simp[Nat.and_one_is_mod,h]
def lW (op:Int):Pure Tryz.prog 303 [eI op] (eI (CK op)):=by
 refine sP kZ ?_;have hs:=Sn
 conv=>whnf
 repeat'((first|apply st|(apply sq;intro K U)|(apply si;intro A B Y Z)|(apply Y;clear Z B Y A)|(apply U;clear U K)|refine⟨rfl,?_⟩|(constructor<;>intro hc<;>(try rw[hc])<;>(replace hc:=bp hc))|clear U K)<;>conv=>whnf)
 all_goals exact AI (by simp[CK, *])
def Xb (b:Bool):Pure Tryz.prog 218 [.b b] (eI (if b then 0 else 2)):=by
 refine tZ kZ ?_;have hs:=Sn
 conv=>whnf
 repeat'((first|apply st|(apply sq;intro K U)|(apply si;intro A B Y Z)|(apply Y;clear Z B Y A)|(apply U;clear U K)|(constructor<;>intro hc<;>(try rw[hc])<;>(replace hc:=bp hc))|clear U K)<;>conv=>whnf)
 all_goals exact AI (by simp[*])
def IQ {S:Type} (g:FuncId) (fi ca:List V) (H:S→List At) (stp:Int→S→Bool×S) (D:Int→S→Prop) (hx:DB Tryz.prog (.f (.func g) fi ca) eI H stp D) (xs:List Int) (f:Bool) (s0:S) (hd:Wk stp D xs s0) :
    Bj Tryz.prog 117 [.l (iL xs) f,.f (.func g) fi ca] (H s0) fun r post=>r= .ret (eI (Bq stp xs 0 s0).1)∧post=H (Bq stp xs 0 s0).2:=by
 intro σ hs;refine BC.fit (by kernel_rfl) fun hf=>?_
 have hxl:=JF hf.1;have hM:=Mx;refine fZ kZ ?_
 conv=>whnf
 repeat'((first|apply st|(apply sq;intro K U)|(apply si;intro A B Y Z)|(apply Y;clear Z B Y A)|(apply U;clear U K)|fail)<;>conv=>whnf)
 refine CA xs.length (fun k (_:S)=>[(8,eI (BG k))]) (fun _ s=>H s) (fun k s=>Wk stp D (xs.drop k) s∧Bq stp xs 0 s0=Bq stp (xs.drop k) k s) s0 rfl ⟨hd,rfl⟩ hs ?_;clear hs;rintro k s σ hk ⟨hd,hn⟩ hs;have hck:BG k=k:=AK (by omega);rcases BI xs hk with⟨y,hy,hlt⟩|hke
 ·rw[drop_cons hy]at hn hd
  obtain⟨hd1,hd2⟩:=hd;rw[Bq]at hn
  conv=>whnf
  repeat'((first|apply st|(apply sq;intro K U)|(apply si;intro A B Y Z)|(apply Y;clear Z B Y A)|(apply U;clear U K)|refine⟨rfl,?_⟩|refine ix ?_|(refine CU (fun hc=>?_)<;>(try rw[hc])<;>clear hc)|fail)<;>conv=>whnf)
  refine hx.use hd1 hs ?_;clear hs;intro σ hs
  conv=>whnf
  repeat'((first|apply st|(apply sq;intro K U)|(apply si;intro A B Y Z)|(apply Y;clear Z B Y A)|(apply U;clear U K)|refine⟨rfl,?_⟩|(constructor<;>intro hc<;>(try rw[hc])<;>(replace hc:=bp hc))|clear U K)<;>conv=>whnf)
  ·rw[hc,if_pos rfl]at hn
   rw[hn];exact Av hs (List.Sublist.refl _) (by rw[hck];exact .refl _) fun σ' hs'=>⟨_,⟨rfl,rfl⟩,hs'⟩
  ·rw[hc,if_neg (by decide)]at hn
   exact⟨hlt,_,rfl,⟨hd2,hn⟩,hs⟩
 ·rw[As hke,Bq]at hn
  conv=>whnf
  repeat'((first|apply st|(apply sq;intro K U)|(apply si;intro A B Y Z)|(apply Y;clear Z B Y A)|(apply U;clear U K)|refine⟨rfl,?_⟩|(refine Dl (fun hc=>?_)<;>(try rw[hc])<;>clear hc)|clear U K)<;>conv=>whnf)
  rw[hn];exact Av hs (List.Sublist.refl _) (.refl _) fun σ' hs'=>⟨_,⟨rfl,rfl⟩,hs'⟩
section
variable {S:Type} (g:FuncId) (fi ca:List V) (H:S→List At)
def GS (stp:Int→S→Bool×S) (D:Int→S→Prop) (hx:DB Tryz.prog (.f (.func g) fi ca) eI H stp D) (xs:List Int) (f:Bool) (s0:S) (hd:Wk stp D xs s0) :
    Bj Tryz.prog 49 [.l (iL xs) f,.f (.func g) fi ca] (H s0) fun r post=>r= .ret (.b (decide ((Bq stp xs 0 s0).1≥0)))∧post=H (Bq stp xs 0 s0).2:=by
 intro σ hs;refine oE kZ ?_
 conv=>whnf
 repeat'((first|(apply sq;intro K U)|(apply si;intro A B Y Z)|(apply Y;clear Z B Y A)|(apply U;clear U K)|fail)<;>conv=>whnf)
 refine(IQ g fi ca H stp D hx xs f s0 hd).use (rest:=[]) (by simpa using hs) ?_;rintro r post σ ⟨rfl,rfl⟩ hs
 conv=>whnf
 repeat'((first|apply st|(apply Y;clear Z B Y A)|(apply U;clear U K)|refine⟨rfl,?_⟩|fail)<;>conv=>whnf)
 exact Av hs (by simp) (.refl _) fun σ' hs'=>⟨_,⟨rfl,rfl⟩,hs'⟩
def qP (stp:Int→S→Bool×S) (D:Int→S→Prop) (hx:DB Tryz.prog (.f (.func g) fi ca) eI H stp D):DB Tryz.prog (.f (.func 301) [] [.rp [.f (.func g) fi ca]]) eI H (fun y s=>(!(stp y s).1,(stp y s).2)) D:=by
 intro y s hd σ hs;refine B2 ?_;show BC Tryz.prog 301 ([]++[eI y]++[.rp [.f (.func g) fi ca]]) σ _;refine fP kZ ?_
 conv=>whnf
 repeat'((first|apply st|(apply sq;intro K U)|(apply si;intro A B Y Z)|(apply Y;clear Z B Y A)|(apply U;clear U K)|fail)<;>conv=>whnf)
 refine hx.use hd hs ?_;clear hs;intro σ hs
 conv=>whnf
 repeat'((first|apply st|(apply Y;clear Z B Y A)|(apply U;clear U K)|fail)<;>conv=>whnf)
 exact Av hs (List.Sublist.refl _) (.refl _) fun σ' hs'=>⟨rfl,hs'⟩
def fl (stp:Int→S→Bool×S) (D:Int→S→Prop) (hx:DB Tryz.prog (.f (.func g) fi ca) eI H stp D) (xs:List Int) (f:Bool) (s0:S) (hd:Wk stp D xs s0) :
    Bj Tryz.prog 246 [.l (iL xs) f,.f (.func g) fi ca] (H s0) fun r post=>r= .ret (.b (Co stp xs s0).1)∧post=H (Co stp xs s0).2:=by
 intro σ hs;obtain⟨e1,e2⟩:=NI (stp:=stp) xs 0 s0;refine fT kZ ?_
 conv=>whnf
 repeat'((first|(apply sq;intro K U)|(apply si;intro A B Y Z)|(apply Y;clear Z B Y A)|(apply U;clear U K)|fail)<;>conv=>whnf)
 refine(GS 301 [] [.rp [.f (.func g) fi ca]] H _ D (qP g fi ca H stp D hx) xs f s0 (TV xs s0 hd)).use (rest:=[]) (by simpa using hs) ?_;rintro r post σ ⟨rfl,rfl⟩ hs;rw[e2];rw[e1]at hs
 conv=>whnf
 repeat'((first|apply st|(apply Y;clear Z B Y A)|(apply U;clear U K)|fail)<;>conv=>whnf)
 exact Av hs (by simp) (by rw[Bool.not_not];exact .refl _) fun σ' hs'=>⟨_,⟨rfl,rfl⟩,hs'⟩
def Ty (stp:Fact→S→Bool×S) (D:Fact→S→Prop) (hx:DB Tryz.prog (.f (.func g) fi ca) (fun y=> .a (xF y)) H stp D) (xs:List Fact) (f:Bool) (s0:S) (hxl:xs.length≤Ad) (hd:Wk stp D xs s0) :
    Bj Tryz.prog 330 [.l (facts xs) f,.f (.func g) fi ca] (H s0) fun r post=>r= .ret (eI (Bq stp xs 0 s0).1)∧post=H (Bq stp xs 0 s0).2:=by
 intro σ hs;have hM:=Mx;refine rn kZ ?_
 conv=>whnf
 repeat'((first|apply st|(apply sq;intro K U)|(apply si;intro A B Y Z)|(apply Y;clear Z B Y A)|(apply U;clear U K)|fail)<;>conv=>whnf)
 refine CA xs.length (fun k (_:S)=>[(8,eI (BG k))]) (fun _ s=>H s) (fun k s=>Wk stp D (xs.drop k) s∧Bq stp xs 0 s0=Bq stp (xs.drop k) k s) s0 rfl ⟨hd,rfl⟩ hs ?_;clear hs;rintro k s σ hk ⟨hd,hn⟩ hs;have hck:BG k=k:=AK (by omega);rcases BI xs hk with⟨y,hy,hlt⟩|hke
 ·rw[drop_cons hy]at hn hd
  obtain⟨hd1,hd2⟩:=hd;rw[Bq]at hn
  conv=>whnf
  repeat'((first|apply st|(apply sq;intro K U)|(apply si;intro A B Y Z)|(apply Y;clear Z B Y A)|(apply U;clear U K)|refine⟨rfl,?_⟩|refine⟨kZ,?_⟩|refine Qx ?_|(refine CU (fun hc=>?_)<;>(try rw[hc])<;>clear hc)|fail)<;>conv=>whnf)
  refine hx.use hd1 hs ?_;clear hs;intro σ hs
  conv=>whnf
  repeat'((first|apply st|(apply sq;intro K U)|(apply si;intro A B Y Z)|(apply Y;clear Z B Y A)|(apply U;clear U K)|refine⟨rfl,?_⟩|(constructor<;>intro hc<;>(try rw[hc])<;>(replace hc:=bp hc))|clear U K)<;>conv=>whnf)
  ·rw[hc,if_pos rfl]at hn
   rw[hn];exact Av hs (List.Sublist.refl _) (by rw[hck];exact .refl _) fun σ' hs'=>⟨_,⟨rfl,rfl⟩,hs'⟩
  ·rw[hc,if_neg (by decide)]at hn
   exact⟨hlt,_,rfl,⟨hd2,hn⟩,hs⟩
 ·rw[As hke,Bq]at hn
  conv=>whnf
  repeat'((first|apply st|(apply sq;intro K U)|(apply si;intro A B Y Z)|(apply Y;clear Z B Y A)|(apply U;clear U K)|refine⟨rfl,?_⟩|(refine Dl (fun hc=>?_)<;>(try rw[hc])<;>clear hc)|clear U K)<;>conv=>whnf)
  rw[hn];exact Av hs (List.Sublist.refl _) (.refl _) fun σ' hs'=>⟨_,⟨rfl,rfl⟩,hs'⟩
def OD (stp:Fact→S→Bool×S) (D:Fact→S→Prop) (hx:DB Tryz.prog (.f (.func g) fi ca) (fun y=> .a (xF y)) H stp D) (xs:List Fact) (f:Bool) (s0:S) (hxl:xs.length≤Ad) (hd:Wk stp D xs s0) :
    Bj Tryz.prog 291 [.l (facts xs) f,.f (.func g) fi ca] (H s0) fun r post=>r= .ret (.b (decide ((Bq stp xs 0 s0).1≥0)))∧post=H (Bq stp xs 0 s0).2:=by
 intro σ hs;refine sX kZ ?_
 conv=>whnf
 repeat'((first|(apply sq;intro K U)|(apply si;intro A B Y Z)|(apply Y;clear Z B Y A)|(apply U;clear U K)|fail)<;>conv=>whnf)
 refine(Ty g fi ca H stp D hx xs f s0 hxl hd).use (rest:=[]) (by simpa using hs) ?_;rintro r post σ ⟨rfl,rfl⟩ hs
 conv=>whnf
 repeat'((first|apply st|(apply Y;clear Z B Y A)|(apply U;clear U K)|refine⟨rfl,?_⟩|fail)<;>conv=>whnf)
 exact Av hs (by simp) (.refl _) fun σ' hs'=>⟨_,⟨rfl,rfl⟩,hs'⟩
def qO (stp:Fact→S→Bool×S) (D:Fact→S→Prop) (hx:DB Tryz.prog (.f (.func g) fi ca) (fun y=> .a (xF y)) H stp D):DB Tryz.prog (.f (.func 302) [] [.rp [.f (.func g) fi ca]]) (fun y=> .a (xF y)) H (fun y s=>(!(stp y s).1,(stp y s).2)) D:=by
 intro y s hd σ hs;refine B2 ?_;show BC Tryz.prog 302 ([]++[.a (xF y)]++[.rp [.f (.func g) fi ca]]) σ _;refine sQ kZ ?_
 conv=>whnf
 repeat'((first|apply st|(apply sq;intro K U)|(apply si;intro A B Y Z)|(apply Y;clear Z B Y A)|(apply U;clear U K)|refine⟨kZ,?_⟩|fail)<;>conv=>whnf)
 refine hx.use hd hs ?_;clear hs;intro σ hs
 conv=>whnf
 repeat'((first|apply st|(apply Y;clear Z B Y A)|(apply U;clear U K)|fail)<;>conv=>whnf)
 exact Av hs (List.Sublist.refl _) (.refl _) fun σ' hs'=>⟨rfl,hs'⟩
def fk (stp:Fact→S→Bool×S) (D:Fact→S→Prop) (hx:DB Tryz.prog (.f (.func g) fi ca) (fun y=> .a (xF y)) H stp D) (xs:List Fact) (f:Bool) (s0:S) (hxl:xs.length≤Ad) (hd:Wk stp D xs s0) :
    Bj Tryz.prog 248 [.l (facts xs) f,.f (.func g) fi ca] (H s0) fun r post=>r= .ret (.b (Co stp xs s0).1)∧post=H (Co stp xs s0).2:=by
 intro σ hs;obtain⟨e1,e2⟩:=NI (stp:=stp) xs 0 s0;refine tF kZ ?_
 conv=>whnf
 repeat'((first|(apply sq;intro K U)|(apply si;intro A B Y Z)|(apply Y;clear Z B Y A)|(apply U;clear U K)|fail)<;>conv=>whnf)
 refine(OD 302 [] [.rp [.f (.func g) fi ca]] H _ D (qO g fi ca H stp D hx) xs f s0 hxl (TV xs s0 hd)).use (rest:=[]) (by simpa using hs) ?_;rintro r post σ ⟨rfl,rfl⟩ hs;rw[e2];rw[e1]at hs
 conv=>whnf
 repeat'((first|apply st|(apply Y;clear Z B Y A)|(apply U;clear U K)|fail)<;>conv=>whnf)
 exact Av hs (by simp) (by rw[Bool.not_not];exact .refl _) fun σ' hs'=>⟨_,⟨rfl,rfl⟩,hs'⟩
end
abbrev Ue (f:Int→Bool):Int→Unit→Bool×Unit:=fun y _=>(f y,())
def Pt {g:FuncId} {fi ca:List V} {f:Int→Bool} {D:Int→Unit→Prop} (h: ∀y,D y ()→Pure Tryz.prog g (fi++[eI y]++ca) (.b (f y))):DB Tryz.prog (.f (.func g) fi ca) eI (fun _=>[]) (Ue f) D:=by
 intro y s hd σ hs;refine B2 ?_;show BC Tryz.prog g (fi++[eI y]++ca) σ _;refine BC.mono ((h y hd).use (k:=fun v σ'=>v= .b (f y)∧Sat σ' []) (kp:=fun _ _=>False) ⟨rfl,Sat.nil⟩) ?_;rintro(v|v) σ' hq
 ·obtain⟨rfl,h⟩:=hq
  exact⟨rfl,h⟩
 ·exact hq.elim
def mw {g:FuncId} {fi ca:List V} {f:Int→Bool} {xs:List Int} (b:Bool) (h: ∀y∈xs,Pure Tryz.prog g (fi++[eI y]++ca) (.b (f y))):Pure Tryz.prog 246 [.l (iL xs) b,.f (.func g) fi ca] (.b (xs.all f)):=by
 have:=fl g fi ca (fun _=>[]) (Ue f) (fun y _=>y∈xs) (Pt fun y hy=>h y hy) xs b () (G0 fun y hy _=>hy);rw[Js]at this;exact Pure.of (BC.mono (this emp Sat.nil) fun r σ' ⟨post,⟨h1,h2⟩,h3⟩=>h1)
def Uu (g:FuncId) (fi ca:List V) (f:Int→Bool):Prop:= ∀y:Int,Pure Tryz.prog g (fi++[eI y]++ca) (.b (f y))
def Uu.use {g:FuncId} {fi ca:List V} {f:Int→Bool} (h:Uu g fi ca f) {y:Int} {σ:AH} {k kp:V→AH→Prop} (hk:k (.b (f y)) σ):A3 Tryz.prog (.f (.func g) fi ca) [eI y] σ (qk k kp):=B2 ((h y).use hk)
def lY (g:FuncId) (fi ca:List V) (L:List At) (p:Int→Bool) (hx:DB Tryz.prog (.f (.func g) fi ca) eI (fun _:Unit=>L) (Ue p) (fun _ _=>True)) (xs:List Int) (f:Bool):Bj Tryz.prog 380 [.l (iL xs) f,.f (.func g) fi ca] L fun r post=>r= .ret (.l (iL (xs.filter p)) false)∧post=L:=by
 intro σ hs;refine BC.fit (by kernel_rfl) fun hf=>?_
 have hxl:=JF hf.1;have hM:=Mx;refine fM kZ ?_
 conv=>whnf
 repeat'((first|apply st|(apply sq;intro K U)|(apply si;intro A B Y Z)|(apply Y;clear Z B Y A)|(apply U;clear U K)|fail)<;>conv=>whnf)
 refine CA xs.length (fun k v=>[(5,v),(10,eI (BG k))]) (fun k v=>L++[.own v 1 (iL ((xs.take k).filter p))]) (fun _ _=>True) (.l [] true) rfl trivial (EM hs 1) ?_;clear hs;rintro k v σ hk - hs;have hfl:=Oa p (xs.take k);rw[K1]at hfl;rcases BI xs hk with⟨y,hy,hlt⟩|hke
 ·have hst:(xs.take (k+1)).filter p=if p y then(xs.take k).filter p++[y]else(xs.take k).filter p:=by
   rw[AO hy,List.filter_append];cases hp:p y<;>simp[hp]
  generalize (xs.take k).filter p=zs at *
  conv=>whnf
  repeat'((first|apply st|(apply sq;intro K U)|(apply si;intro A B Y Z)|(apply Y;clear Z B Y A)|(apply U;clear U K)|refine⟨rfl,?_⟩|refine ix ?_|(refine CU (fun hc=>?_)<;>(try rw[hc])<;>clear hc)|refine hx.yA (s:=()) (rest:=[_]) trivial hs (fun σ hs=>?_)|(constructor<;>intro hc<;>(try rw[hc])<;>(replace hc:=bp hc)<;>(try simp(disch:=omega) only[A9,wrap64,AK]at hc))|clear U K)<;>conv=>whnf)
  ·refine GL (Fk hs L.length (xs:=zs) (x:=y) List.getElem?_concat_length (by omega) Bk fun v' σ' hs' hsl=>?_)
   rw[List.set_append_right _ _ (Iu _),Nat.sub_self]at hs';replace hs:=hs'
   conv=>whnf
   repeat'((first|(apply si;intro A B Y Z)|(apply Y;clear Z B Y A)|(apply U;clear U K)|refine⟨rfl,?_⟩|clear U K)<;>conv=>whnf)
   rw[if_pos (by assumption)]at hst;exact⟨hlt,_,rfl,trivial,by rw[hst];exact hs⟩
  ·rw[if_neg (by simp[*])]at hst
   exact⟨hlt,_,rfl,trivial,by rw[hst];exact hs⟩
 ·conv=>whnf
  repeat'((first|apply st|(apply sq;intro K U)|(apply si;intro A B Y Z)|(apply Y;clear Z B Y A)|(apply U;clear U K)|refine⟨rfl,?_⟩|(refine Dl (fun hc=>?_)<;>(try rw[hc])<;>clear hc)|clear U K)<;>conv=>whnf)
  rw[Ap hke]at hs;obtain⟨σ2,h1,h2,h3⟩:=I5 hs L.length List.getElem?_concat_length;refine Gp h1 h2 ⟨_,⟨rfl,rfl⟩,?_⟩;rw[List.eraseIdx_append_of_length_le (Iu _),Nat.sub_self]at h3;simpa using h3
def iI (g:FuncId) (fi ca:List V) (p:Int→Bool) (hpf:Uu g fi ca p) (xs:List Int) (u:V) (hxl:xs.length≤Ad):Bj Tryz.prog 380 [u,.f (.func g) fi ca] [.own u 1 (iL xs)] fun r post=>r= .ret (.l (iL (xs.filter p)) false)∧post= [.own u 1 (iL xs)]:=by
 intro σ hs;have hM:=Mx;refine fM kZ ?_
 conv=>whnf
 repeat'((first|apply st|(apply sq;intro K U)|(apply si;intro A B Y Z)|(apply Y;clear Z B Y A)|(apply U;clear U K)|refine lo ?_|fail)<;>conv=>whnf)
 refine CA xs.length (fun k v=>[(5,v),(10,eI (BG k))]) (fun k v=>[.own u 1 (iL xs),.own v 1 (iL ((xs.take k).filter p))]) (fun _ _=>True) (.l [] true) rfl trivial (EM hs 1) ?_;clear hs;rintro k v σ hk - hs;have hfl:=Oa p (xs.take k);rw[K1]at hfl;rcases BI xs hk with⟨y,hy,hlt⟩|hke
 ·have hst:(xs.take (k+1)).filter p=if p y then(xs.take k).filter p++[y]else(xs.take k).filter p:=by
   rw[AO hy,List.filter_append];cases hp:p y<;>simp[hp]
  generalize (xs.take k).filter p=zs at *
  conv=>whnf
  repeat'((first|apply st|(apply sq;intro K U)|(apply si;intro A B Y Z)|(apply Y;clear Z B Y A)|(apply U;clear U K)|refine⟨rfl,?_⟩|refine oc ?_|refine Oc ?_|refine aq fun v σ hs hsl=>?_|(refine CU (fun hc=>?_)<;>(try rw[hc])<;>clear hc)|refine Uu.use hpf ?_|(constructor<;>intro hc<;>(try rw[hc])<;>(replace hc:=bp hc))|clear U K)<;>conv=>whnf)
  ·rw[if_pos (by assumption)]at hst
   exact⟨hlt,_,rfl,trivial,by rw[hst];exact hs.take 2⟩
  ·rw[if_neg (by simp[*])]at hst
   exact⟨hlt,_,rfl,trivial,by rw[hst];exact hs.take 2⟩
 ·conv=>whnf
  repeat'((first|apply st|(apply sq;intro K U)|(apply si;intro A B Y Z)|(apply Y;clear Z B Y A)|(apply U;clear U K)|refine⟨rfl,?_⟩|(refine Dl (fun hc=>?_)<;>(try rw[hc])<;>clear hc)|clear U K)<;>conv=>whnf)
  rw[Ap hke]at hs;obtain⟨σ2,h1,h2,h3⟩:=I5 hs 1 rfl;exact Gp h1 h2 ⟨_,⟨rfl,rfl⟩,h3⟩
def wK:Uu 382 [] [] (· != 0):=by
 intro y;refine rA kZ ?_;have hs:=Sn
 conv=>whnf
 repeat'((first|apply st|(apply sq;intro K U)|(apply si;intro A B Y Z)|(apply Y;clear Z B Y A)|(apply U;clear U K)|refine⟨rfl,?_⟩|fail)<;>conv=>whnf)
 all_goals exact AI rfl
def jE (xs:List Int) (u:V) (hxl:xs.length≤Ad):Bj Tryz.prog 379 [u] [.own u 1 (iL xs)] fun r post=>r= .ret (.l (iL (xs.filter (· != 0))) false)∧post= [.own u 1 (iL xs)]:=by
 intro σ hs;refine rC kZ ?_
 conv=>whnf
 repeat'((first|(apply sq;intro K U)|(apply si;intro A B Y Z)|(apply Y;clear Z B Y A)|(apply U;clear U K)|fail)<;>conv=>whnf)
 refine(iI 382 [] [] (· != 0) wK xs u hxl).use (rest:=[]) hs ?_;clear hs;rintro r post σ ⟨rfl,rfl⟩ hs
 conv=>whnf
 repeat'((first|apply st|(apply Y;clear Z B Y A)|(apply U;clear U K)|fail)<;>conv=>whnf)
 exact Av hs (by simp) (.refl _) fun σ' hs'=>⟨_,⟨rfl,rfl⟩,hs'⟩
def ZZ (g : List (List Int)) (f:Bool):Pure Tryz.prog 352 [.l (Eh g) f] (.b (Dq g)):=by
 refine Pure.fit (by kernel_rfl) fun hf=>?_
 have⟨g1,g2⟩:=TB hf.1;have hM:=Mx;refine rW kZ ?_;have hs:=Sn;by_cases h16:g.length≤16
 ·conv=>whnf
  repeat'((first|apply st|(apply sq;intro K U)|(apply si;intro A B Y Z)|(apply Y;clear Z B Y A)|(apply U;clear U K)|refine⟨rfl,?_⟩|(constructor<;>intro hc<;>(try rw[hc])<;>(replace hc:=bp hc)<;>(try simp(disch:=omega) only[A9,wrap64,AK]at hc)<;>try(exfalso;omega))|fail)<;>conv=>whnf)
  all_goals try(exfalso;omega)
  refine CA g.length (fun k (_:Unit)=>[(12,eI (BG k))]) (fun _ _=>[]) (fun k _=>Dq g=IY k (g.drop k)) () rfl (by simp[Dq,h16]) hs ?_;clear hs;rintro k - σ hk hn hs;have hck:BG k=k:=AK (by omega);rcases BI g hk with⟨l,hl,hlt⟩|hke
  ·have hll:=g2 l (B9 hl)
   rw[drop_cons hl,IY]at hn;by_cases h3:l.length≤3
   ·rw[decide_eq_true h3,Il]at hn
    conv=>whnf
    repeat'((first|apply st|(apply sq;intro K U)|(apply si;intro A B Y Z)|(apply Y;clear Z B Y A)|(apply U;clear U K)|refine⟨rfl,?_⟩|refine ix ?_|(refine CU (fun hc=>?_)<;>(try rw[hc])<;>clear hc)|(constructor<;>intro hc<;>(try rw[hc])<;>(replace hc:=bp hc)<;>(try simp(disch:=omega) only[A9,wrap64,AK]at hc)<;>try(exfalso;omega))|fail)<;>conv=>whnf)
    all_goals try(exfalso;omega)
    refine CA l.length (fun j (_:Unit)=>[(22,eI (BG j))]) (fun _ _=>[]) (fun j _=>Dq g=(Ma k (l.take j) (l.drop j)&&IY (k+1) (g.drop (k+1)))) () rfl hn hs ?_;clear hs hn;rintro j - σ hj hn hs;rcases BI l hj with⟨c,hc0,hjlt⟩|hje
    ·rw[drop_cons hc0,Ma,oZ]at hn
     have hw:IntKind.i64.wrap (3+BG k)=3+(k:Int):=by rw[hck,wrap64 (by omega) (by omega)]
     conv=>whnf
     repeat'((first|apply st|(apply sq;intro K U)|(apply si;intro A B Y Z)|(apply Y;clear Z B Y A)|(apply U;clear U K)|refine⟨rfl,?_⟩|refine ix ?_|refine xp ?_|(refine CU (fun hc=>?_)<;>(try rw[hc])<;>clear hc)|refine Pure.use (C1 _ _ _) ?_|(constructor<;>intro hc<;>(try rw[hc])<;>(replace hc:=bp hc)<;>(try simp(disch:=omega) only[A9,wrap64,AK]at hc))|clear U K)<;>conv=>whnf)
     ·exact AI (by rw[hn,hc];simp)
     ·exact⟨hjlt,(),rfl,by rw[hn,hc,AO hc0];simp[*],hs⟩
     ·exact AI (by(rw[hn];have: ¬c<3+(k:Int):=by omega);simp[this])
     ·exact AI (by(rw[hn];have: ¬3≤c:=by omega);simp[this])
    ·conv=>whnf
     repeat'((first|apply st|(apply sq;intro K U)|(apply si;intro A B Y Z)|(apply Y;clear Z B Y A)|(apply U;clear U K)|refine⟨rfl,?_⟩|(refine Dl (fun hc=>?_)<;>(try rw[hc])<;>clear hc)|clear U K)<;>conv=>whnf)
     exact⟨hlt,(),rfl,by rw[hn,As hje];rfl,hs⟩
   ·conv=>whnf
    repeat'((first|apply st|(apply sq;intro K U)|(apply si;intro A B Y Z)|(apply Y;clear Z B Y A)|(apply U;clear U K)|refine⟨rfl,?_⟩|refine ix ?_|(refine CU (fun hc=>?_)<;>(try rw[hc])<;>clear hc)|(constructor<;>intro hc<;>(try rw[hc])<;>(replace hc:=bp hc)<;>(try simp(disch:=omega) only[A9,wrap64,AK]at hc)<;>try(exfalso;omega))|clear U K)<;>conv=>whnf)
    all_goals try(exfalso;omega)
    exact AI (by rw[hn];simp[h3])
  ·conv=>whnf
   repeat'((first|apply st|(apply sq;intro K U)|(apply si;intro A B Y Z)|(apply Y;clear Z B Y A)|(apply U;clear U K)|refine⟨rfl,?_⟩|(refine Dl (fun hc=>?_)<;>(try rw[hc])<;>clear hc)|clear U K)<;>conv=>whnf)
   exact AI (by rw[hn,As hke];rfl)
 ·conv=>whnf
  repeat'((first|apply st|(apply sq;intro K U)|(apply si;intro A B Y Z)|(apply Y;clear Z B Y A)|(apply U;clear U K)|refine⟨rfl,?_⟩|(constructor<;>intro hc<;>(try rw[hc])<;>(replace hc:=bp hc)<;>(try simp(disch:=omega) only[A9,wrap64,AK]at hc)<;>try(exfalso;omega))|clear U K)<;>conv=>whnf)
  all_goals try(exfalso;omega)
  exact AI (by simp[Dq,h16])
def Vk (g:List (List Int)) (f:Bool):Pure Tryz.prog 323 [.l (Eh g) f] (eI (if Dq g then 0 else 2)):=by
 refine r9 kZ ?_;have hs:=Sn
 conv=>whnf
 repeat'((first|apply st|(apply sq;intro K U)|(apply si;intro A B Y Z)|(apply Y;clear Z B Y A)|(apply U;clear U K)|refine Pure.use (ZZ _ _) ?_|(constructor<;>intro hc<;>(try rw[hc])<;>(replace hc:=bp hc))|clear U K)<;>conv=>whnf)
 all_goals exact AI (by simp[*])
def wL (n:Nat) (h:Int):DB Tryz.prog (.f (.func 381) [] [.p n 0]) eI (fun _:Unit=>[.box n [eI h]]) (Ue (· != h)) (fun _ _=>True):=by
 intro y s _ σ hs;refine B2 ?_;show BC Tryz.prog 381 ([]++[eI y]++[.p n 0]) σ _;refine rB kZ ?_
 conv=>whnf
 repeat'((first|apply st|(apply sq;intro K U)|(apply si;intro A B Y Z)|(apply Y;clear Z B Y A)|(apply U;clear U K)|refine⟨rfl,?_⟩|refine ld ?_|fail)<;>conv=>whnf)
 exact Av hs (List.Sublist.refl _) (.refl _) fun σ' hs'=>⟨rfl,hs'⟩
def bu (ls:List (List Int)):FC ls []=false:=rfl
def Xw (ls:List (List Int)) (x:Int) (r:List Int):FC ls (x::r)=free ls x:=rfl
def cD {α:Type} {p:α→Bool} {xs:List α} {k:Nat} {x:α} (hx:xs[k]? =some x) (h:(xs.take k).find? p=none):(xs.take (k+1)).find? p=if p x then some x else none:=by
 rw[AO hx,List.find?_append,h];simp only[List.find?_cons,List.find?_nil,Option.none_or];cases p x<;>rfl
def cC {α:Type} {p:α→Bool} {xs:List α} {k:Nat} {x:α} (h:(xs.take k).find? p=some x):xs.find? p=some x:=by
 conv=>lhs;rw[←List.take_append_drop k xs]
 rw[List.find?_append,h];rfl
def Y2 (ls:List (List Int)):pick ls=(ls.find? (FC ls)).bind List.head? :=rfl
set_option maxHeartbeats 4000000 in
def iA (ls:List (List Int)) (f:Bool) (hok:MU ls) (ht:total ls<Ad):Pure Tryz.prog 377 [.l (Eh ls) f] (.t [.l (iL (CM ls).1) false,.b (CM ls).2]):=by
 have hM:=Mx;refine rE kZ ?_;have hs:=Sn
 conv=>whnf
 repeat'((first|apply st|(apply sq;intro K U)|(apply si;intro A B Y Z)|(apply Y;clear Z B Y A)|(apply U;clear U K)|fail)<;>conv=>whnf)
 refine EA (fun(x:List (List Int)×Bool×V×List Int)=>total x.1) (fun x=>[(0,.l (Eh x.1) x.2.1),(4,x.2.2.1)]) (fun x=>[.own x.2.2.1 1 (iL x.2.2.2)])
  (fun x=>MU x.1∧x.2.2.2.length+total x.1≤total ls∧DL (total x.1) x.1 x.2.2.2=CM ls) (ls,f,.l [] true,[]) rfl ⟨hok,by simp,rfl⟩ (EM hs 1) ?_
 clear hs;rintro⟨ls',f',v,out⟩ σ ⟨hok',hlen,hm⟩ hs;dsimp only at hok' hlen hm hs;dsimp only;have hol:=hok'.1
 conv=>whnf
 repeat'((first|apply st|(apply sq;intro K U)|(apply si;intro A B Y Z)|(apply Y;clear Z B Y A)|(apply U;clear U K)|fail)<;>conv=>whnf)
 refine CA ls'.length (fun k (t:Bool)=>[(5,.b t),(16,eI (BG k))]) (fun _ _=>[.own v 1 (iL out)]) (fun k t=>(ls'.take k).find? (FC ls')=none∧t=(ls'.take k).any fun l=> !l.isEmpty) false rfl ⟨rfl,rfl⟩ hs ?_;clear hs;rintro k t σ hk ⟨hfd,hta⟩ hs;rcases BI ls' hk with⟨l,hl,hlt⟩|hke
 ·have hfs:=cD (p:=FC ls') hl hfd
  have has:((ls'.take (k+1)).any fun l=> !l.isEmpty)=(t|| !l.isEmpty):=by rw[AO hl,List.any_append,←hta];simp
  have hb:=hok'.2 _ (B9 hl);cases l with
  | nil=>
    have hnl:([]:List Int).length=0:=rfl;rw[bu,if_neg (by decide)]at hfs
    conv=>whnf
    repeat'((first|apply st|(apply sq;intro K U)|(apply si;intro A B Y Z)|(apply Y;clear Z B Y A)|(apply U;clear U K)|refine⟨rfl,?_⟩|refine ix ?_|(refine CU (fun hc=>?_)<;>(try rw[hc])<;>clear hc)|(constructor<;>intro hc<;>(try rw[hc])<;>(replace hc:=bp hc)<;>(try simp(disch:=omega) only[A9,wrap64,AK]at hc)<;>try(exfalso;omega))|clear U K)<;>conv=>whnf)
    exact⟨hlt,_,rfl,⟨hfs,by rw[has];simp⟩,hs⟩
  | cons x r=>
    have hx0:(x::r)[Int.toNat 0]? =some x:=rfl;have hnl:(x::r).length=r.length+1:=rfl;rw[Xw]at hfs;simp only[List.isEmpty_cons,Bool.not_false,Bool.or_true]at has
    conv=>whnf
    repeat'((first|apply st|(apply sq;intro K U)|(apply si;intro A B Y Z)|(apply Y;clear Z B Y A)|(apply U;clear U K)|refine⟨rfl,?_⟩|refine ix ?_|(refine CU (fun hc=>?_)<;>(try rw[hc])<;>clear hc)|(constructor<;>intro hc<;>(try rw[hc])<;>(replace hc:=bp hc)<;>(try simp(disch:=omega) only[A9,wrap64,AK]at hc)<;>try(exfalso;omega))|fail)<;>conv=>whnf)
    refine CA ls'.length (fun j (_:Unit)=>[(25,eI (BG j))]) (fun _ _=>[.own v 1 (iL out)]) (fun j _=>free ls' x=(ls'.drop j).all fun m=> !(m.drop 1).contains x) () rfl rfl hs ?_;clear hs;rintro j - σ hj hfr hs;rcases BI ls' hj with⟨m,hm0,hjlt⟩|hje
    ·have hmb:=(hok'.2 _ (B9 hm0)).1
     rw[drop_cons hm0,NS]at hfr;cases m with
     | nil=>
       have hml:([]:List Int).length=0:=rfl
       conv=>whnf
       repeat'((first|apply st|(apply sq;intro K U)|(apply si;intro A B Y Z)|(apply Y;clear Z B Y A)|(apply U;clear U K)|apply dr|refine⟨rfl,?_⟩|refine ix ?_|(refine CU (fun hc=>?_)<;>(try rw[hc])<;>clear hc)|(constructor<;>intro hc<;>(try rw[hc])<;>(replace hc:=bp hc)<;>(try simp(disch:=omega) only[A9,wrap64,AK]at hc)<;>try(exfalso;omega))|clear U K)<;>conv=>whnf)
       exact⟨hjlt,(),rfl,by rw[hfr];rfl,hs⟩
     | cons y s=>
       have hml:(y::s).length=s.length+1:=rfl
       conv=>whnf
       repeat'((first|apply st|(apply sq;intro K U)|(apply si;intro A B Y Z)|(apply Y;clear Z B Y A)|(apply U;clear U K)|apply dr|refine⟨rfl,?_⟩|refine ix ?_|(refine CU (fun hc=>?_)<;>(try rw[hc])<;>clear hc)|(constructor<;>intro hc<;>(try rw[hc])<;>(replace hc:=bp hc)<;>(try simp(disch:=omega) only[A9,wrap64,AK]at hc)<;>try(exfalso;omega))|fail)<;>conv=>whnf)
       refine U9 1 rfl (by omega) (fun _=>rfl) ?_
       conv=>whnf
       repeat'((first|apply st|(apply si;intro A B Y Z)|(apply Y;clear Z B Y A)|(apply U;clear U K)|apply dr|refine⟨rfl,?_⟩|refine HI ?_|refine Pure.use (C1 _ _ _) ?_|(constructor<;>intro hc<;>(try rw[hc])<;>(replace hc:=bp hc))|clear U K)<;>conv=>whnf)
       ·rw[hc]at hfr
        have hfr2:free ls' x=false:=by rw[hfr];rfl
        rw[hfr2,if_neg (by decide)]at hfs;exact⟨hlt,true,rfl,⟨hfs,by rw[has]⟩,hs⟩
       ·exact⟨hjlt,(),rfl,by rw[hfr,hc];rfl,hs⟩
    ·rw[As hje]at hfr
     have hgood:free ls' x=true:=hfr;rw[hgood,if_pos rfl]at hfs;have hp:pick ls'=some x:=by rw[Y2,cC hfs];rfl
     have htp:=IB hp
     conv=>whnf
     repeat'((first|apply st|(apply sq;intro K U)|(apply si;intro A B Y Z)|(apply Y;clear Z B Y A)|(apply U;clear U K)|refine⟨rfl,?_⟩|refine HI ?_|refine ld ?_|refine s1 fun σ hs=>?_|refine aq fun v σ hs hsl=>?_|(refine Dl (fun hc=>?_)<;>(try rw[hc])<;>clear hc)|(intro nn hnn;generalize hg:A0 _ nn _=σ;refine al hg fun hs=>?_;clear hg)|clear U K)<;>conv=>whnf)
     have hs2:Sat σ [.own v 1 (iL (out++[x])),.box nn [eI x]]:=hs;refine CA ls'.length (fun k u=>[(11,u),(50,eI (BG k))]) (fun k u=>[.own v 1 (iL (out++[x])),.box nn [eI x],.own u 1 (Eh ((ls'.take k).map fun l=>l.filter (· != x)))]) (fun _ _=>True) (.l [] true) rfl trivial (EM hs2 1) ?_;clear hs hs2;rintro q u σ hq - hs;rcases BI ls' hq with⟨w,hw,hqlt⟩|hqe
     ·conv=>whnf
      repeat'((first|apply st|(apply sq;intro K U)|(apply si;intro A B Y Z)|(apply Y;clear Z B Y A)|(apply U;clear U K)|refine⟨rfl,?_⟩|refine ix ?_|(refine CU (fun hc=>?_)<;>(try rw[hc])<;>clear hc)|fail)<;>conv=>whnf)
      refine(lY 381 [] [.p nn 0] [.box nn [eI x]] (· != x) (wL nn x) w false).use (rest:=[_,_]) (hs.perm (.swap _ _ _)) ?_;clear hs;rintro rr post σ ⟨rfl,rfl⟩ hs
      conv=>whnf
      repeat'((first|(apply si;intro A B Y Z)|(apply Y;clear Z B Y A)|(apply U;clear U K)|refine⟨rfl,?_⟩|refine aq fun v σ hs hsl=>?_|clear U K)<;>conv=>whnf)
      refine⟨hqlt,_,rfl,trivial,?_⟩;rw[AO hw,Sd];exact hs.perm (.swap _ _ _)
     ·conv=>whnf
      repeat'((first|apply st|(apply sq;intro K U)|(apply si;intro A B Y Z)|(apply Y;clear Z B Y A)|(apply U;clear U K)|refine⟨rfl,?_⟩|(refine Dl (fun hc=>?_)<;>(try rw[hc])<;>clear hc)|clear U K)<;>conv=>whnf)
      rw[Ap hqe]at hs;refine o7 hs 2 rfl fun σ' hs'=>?_
      conv=>whnf
      repeat'((first|apply st|(apply Y;clear Z B Y A)|(apply U;clear U K)|clear U K)<;>conv=>whnf)
      refine⟨(ls'.map fun l=>l.filter (· != x),false,v,out++[x]),htp,rfl,⟨hok'.filter x,by simp;omega,?_⟩,hs'.take 1⟩;rw[←Nq hp];exact hm
 ·rw[Ap hke]at hfd hta
  have hp:pick ls'=none:=by rw[Y2,hfd];rfl
  rw[P6 hp]at hm
  conv=>whnf
  repeat'((first|apply st|(apply sq;intro K U)|(apply si;intro A B Y Z)|(apply Y;clear Z B Y A)|(apply U;clear U K)|refine⟨rfl,?_⟩|(refine Dl (fun hc=>?_)<;>(try rw[hc])<;>clear hc)|clear U K)<;>conv=>whnf)
  refine Al ?_;rw[←hm];refine .t (.cons (hs.GX 0 rfl) (.cons ?_ .nil));have:(!t)=ls'.all List.isEmpty:=by rw[hta];simp[List.all_eq_not_any_not]
  rw[←this];exact .refl _
end Go.Gl
namespace Go.Gl
variable {P:Program} {σ:AH}
def Sat.vJ {l:List At} {a:At} (h:Sat σ (l++[a])):Sat σ (a::l):=h.perm (by
 have:=Qu (l₁:=l) (l₂:=[a])
 simpa using this)
def DA {l:List At} (h:Sat σ l) (sz:Nat):Sat σ (.own (.l [] true) sz []::l):=(EM h sz).vJ
def np {l:List At} (h:Sat σ l) {sz:Nat} {es:List (List V)} (hs: ∀e∈es,e.length=sz):Sat σ (.own (.l es true) sz es::l):=(jv h hs).vJ
def CZ {l:List At} {o:O} {n:Nat} {K:Prop} {σ':AH} (e:A0 σ n o=σ') (hk:Sat σ' (.obj n o::l)→K) (hn:σ n=none:=by assumption) (h:Sat σ l:=by assumption):K:=hk (e ▸ (dY h hn).vJ)
def IE {α:Type}: ∀ {l:List α} {j:Nat} {a:α},l[j]? =some a→l.Perm (a::l.eraseIdx j)
 | x::r,0,a,h=>by simp at h;subst h;simp
 | x::r,j+1,a,h=>by
   simp only[uu]at h;simp only[List.eraseIdx_cons_succ];exact((IE h).cons x).trans (.swap _ _ _)
def Sat.front {l:List At} {j:Nat} {a:At} (h:Sat σ l) (hj:l[j]? =some a):Sat σ (a::l.eraseIdx j):=h.perm (IE hj)
def Sat.back {l:List At} {j:Nat} {a:At} (h:Sat σ (a::l.eraseIdx j)) (hj:l[j]? =some a):Sat σ l:=h.perm (IE hj).symm
def Bj.nK {f:FuncId} {args:List V} {a:At} {Φ:R→Prop} (h:Bj P f args [a] fun r post=>Φ r∧post= [a]) {l:List At} {j:Nat} (hs:Sat σ l) (hj:l[j]? =some a) {Q:R→AH→Prop} (hk: ∀r σ',Φ r→Sat σ' l→Q r σ'):BC P f args σ Q:=by
 refine h.use (rest:=l.eraseIdx j) (hs.front hj) ?_;rintro r post σ' ⟨hr,rfl⟩ hs';exact hk r σ' hr (Sat.back hs' hj)
def GV {l:List At} {i n off:Nat} {vs:List V} {x:V} {K:AH→Prop} (hk: ∀σ',Sat σ' (l.set i (.box n (vs.set off x)))→K σ') (h:Sat σ l:=by assumption)
    (hi:l[i]? =some (.box n vs):=by first|exact Q4|exact Q3|exact Q2|exact Q1|exact Qz|exact Qy)
    (h1:CL x=true:=by first|rfl|exact Gw (by assumption) 0 rfl|exact Gw (by assumption) 1 rfl|exact Gw (by assumption) 2 rfl|exact Gw (by assumption) 3 rfl|(simp<;>fail)) (ho:off+1≤vs.length:=by exact Nat.le_of_ble_eq_true rfl):AW σ 1 (.p n off) x K:=
 LV h i hi h1 ho hk
def Cw {l:List At} {i n off sz:Nat} {vs vc:List V} {x:V} {K:AH→Prop} (hk: ∀σ',Sat σ' (l.set i (.box n (putAt vs off vc)))→K σ') (h:Sat σ l:=by assumption)
    (hi:l[i]? =some (.box n vs):=by first|exact Q4|exact Q3|exact Q2|exact Q1|exact Qz|exact Qy)
    (hc:cellsOf x=some vc:=by rfl) (hl:vc.length=sz:=by rfl) (h1:vc.all CL=true:=by first|rfl|(simp<;>fail)|(simp[*]<;>fail)) (ho:off+sz≤vs.length:=by exact Nat.le_of_ble_eq_true rfl):AW σ sz (.p n off) x K:=
 G1 h i hi hc hl h1 ho hk
def Wf {sz m n o:Nat} {ki:IntKind} {j:Int} {K:V→Prop} (h:K (.p n (o+j.toNat*sz))) (h0:0≤j:=by omega) (h1:j<m:=by omega):AV sz (some m) (.p n o) (.i ki j) K:=⟨h0,h1,h⟩
def iar {sz m:Nat} {cs:List V} {ki:IntKind} {j:Int} {K:V→Prop} (h:K (.rp (cs.drop (j.toNat*sz)))) (h0:0≤j:=by omega) (h1:j<m:=by omega):AV sz (some m) (.rp cs) (.i ki j) K:=⟨h0,h1,h⟩
def qY {l:List At} (h:Sat σ l) (i:Nat) {v:V} {sz:Nat} {es es':List (List V)} (hi:l[i]? =some (.own v sz es)) (he: ∀σ2,E6 σ σ2 es es'): ∃σ2,Sub σ2 σ∧FV σ σ2 v (.l es' false)∧Sat σ2 (l.eraseIdx i):=by
 rcases h.get hi with⟨rfl,_⟩|⟨n,cap,rfl,hn⟩
 ·exact⟨σ,fun _ _ h=>h,.l (fun h=>(by cases h)) (he _),h.less (List.eraseIdx_sublist _ _)⟩
 ·refine⟨del σ n,Fp σ n,.arr hn (DS σ n) rfl (he _),?_⟩
  refine⟨fun b hb=>?_,h.2.sublist (List.eraseIdx_sublist _ _)⟩;refine E9 (h.1 b (List.mem_of_mem_eraseIdx hb)) fun m hm=>?_
  rw[G5];intro e;subst e;exact E0 h.2 hi b hb m rfl hm
def ju {l:List At} (h:Sat σ l) {sz:Nat} {z:List V} {n m:Nat} {K:V→AH→Prop} (hnm:n≤m) (hn:m≤1073741824) (hk: ∀v σ',Sat σ' (.own v sz (List.replicate n z)::l)→(∃id,v= .sl id n m)→K v σ') {ki kj:IntKind} :
    AN σ sz z (.i ki (n:Int)) (.i kj (m:Int)) K:=by
 refine⟨by omega,by omega,by omega,fun id hid=>?_⟩;simp only[Iv];refine hk _ _ (h.add (a:= .own (.sl id n m) sz (List.replicate n z)) (fun b hb=>E9 hb fun m hm=>?_) (fun b hb m hm hb'=>?_) (.inr ⟨id,m,by simp,by simp[A0]⟩)).vJ ⟨id,rfl⟩
 ·obtain⟨o,ho⟩:=C0 hb hm
  rw[Ch];intro e;subst e;rw[hid]at ho;cases ho
 ·cases hm
  obtain⟨o,ho⟩:=C0 hb hb';rw[hid]at ho;cases ho
def oF {σ:AH} {l:List At} {i:Nat} {v:V} {sz:Nat} {es:List (List V)} (hs:Sat σ l) (hi:l[i]? =some (.own v sz es)) (he: ∀e∈es,e.length=sz) (hm:es.length≤Ad) {K:V→AH→Prop} (hk: ∀σ',Sat σ' (l.eraseIdx i)→K (.l es true) σ'):AU σ sz v none (some (.i .i64 (es.length:Int))) (some (.i .i64 (es.length:Int))) K:=by
 rcases hs.get hi with⟨rfl,_⟩|⟨n,cap,rfl,hn⟩
 ·refine⟨he,?_⟩
  simp only[NV];refine⟨Int.le_refl _,Int.natCast_nonneg _,Int.le_refl _,trivial,?_⟩;have:=hk σ (hs.less (List.eraseIdx_sublist _ _));simpa using this
 ·unfold AU
  simp only[NV];refine⟨Int.le_refl _,Int.natCast_nonneg _,Int.le_refl _,trivial,trivial,trivial,?_⟩;rw[hn];refine⟨rfl,rfl,rfl,.inl (hk _ ?_)⟩;refine⟨fun b hb=>?_,hs.2.sublist (List.eraseIdx_sublist _ _)⟩;refine E9 (hs.1 b (List.mem_of_mem_eraseIdx hb)) fun m hm=>?_
  rw[G5];intro e;subst e;exact E0 hs.2 hi b hb m rfl hm
end Go.Gl
namespace Go.Gl
open Go.Proofs
attribute [local irreducible] BC Aw Ai AV AM Ah AU AW AN Ag AQ AS A3 BA Sat Ab A8 Ak W
abbrev Ord:=Int×V×List Int
def je (e:Ord):V×V:=(eI e.1,e.2.1)
def dG (e:Ord):At:= .own e.2.1 1 (iL e.2.2)
abbrev pL (ps:List (List Int×Bool)):List (List V):=ps.map fun p=>[.l (iL p.1) p.2]
abbrev gH (n mm:Nat) (vp vu:V) (ps:List (List Int×Bool)) (us:List Nat) (M:List Ord):List At:=
 .box n [vp,vu,.m mm]:: .own vp 1 (pL ps):: .own vu 1 (us.map fun u=>[eU u]):: .map mm (M.map je)::M.map dG
def CD (M:List Ord) (c:Int):List Int:=((M.find? fun e=>c==e.1).map fun e=>e.2.2).getD []
def Ix (M:List Ord) (c:Int):V:=((M.find? fun e=>c==e.1).map fun e=>e.2.1).getD (.l [] true)
def iG (M:List Ord) (c:Int):found (.l [] true) false (Cj (eI c) (M.map je))=Ix M c:=by
 induction M with
 | nil=>rfl
 | cons e r ih=>
   simp only[E3,je,Cj,Ix,List.find?_cons]at *;have he:Ds (eI c) (eI e.1)=(c==e.1):=rfl;rw[he];cases c==e.1
   ·exact ih
   ·rfl
def XA (M:List Ord): ∀kv∈M.map je,BX (.i .i64) kv.1=true:=by
 intro kv h;obtain⟨e,_,rfl⟩:=MN.1 h;rfl
def lP {M:List Ord} {c:Int} (v:V) (l:List Int) (h: ∀e∈M,e.1≠c):De (eI c) v (M.map je)=(M++[(c,v,l)]).map je:=by
 induction M with
 | nil=>rfl
 | cons e r ih=>
   simp only[E3,List.cons_append,je,De];have he:Ds (eI c) (eI e.1)=(c==e.1):=rfl;rw[he,beq_false_of_ne (fun e'=>h e (.head _) e'.symm)];simp only[cond_false];rw[ih fun e he=>h e (.tail _ he)]
def PF (M:List Ord) (c:Int):(CD M c= []∧Ix M c= .l [] true)∨ ∃j:Nat,(M.map dG)[j]? =some (At.own (Ix M c) 1 (iL (CD M c))):=by
 unfold CD Ix;cases h:M.find? fun e=>c==e.1 with
 | none=>exact .inl ⟨rfl,rfl⟩
 | some e=>
   refine .inr ?_;obtain⟨j,hj⟩:=List.getElem?_of_mem (List.mem_of_find?_eq_some h);refine⟨j,?_⟩;rw[MP,hj];rfl
def PG {M:List Ord} {c:Int} {σ:AH} {fx:List At} (hs:Sat σ (fx++M.map dG)) (hl:(CD M c).length≤Ad) {K:V→Prop} (hk:K (.i .i64 (CD M c).length)):A8 (Ix M c) K:=by
 rcases PF M c with⟨h1,h2⟩|⟨j,hj⟩
 ·rw[h2]
  rw[h1]at hk;exact FB hk
 ·have hj':(fx++M.map dG)[fx.length+j]? =some (At.own (Ix M c) 1 (iL (CD M c))):=by
   rw[List.getElem?_append_right (by omega),Nat.add_sub_cancel_left,hj]
  exact vg hs _ hj' (by simpa using hl) (by simpa using hk)
def xx {σ:AH} {l:List At} {i mm:Nat} {M:List Ord} {c:Int} {K:V→Prop} (hk:K (Ix M c)) (h:Sat σ l:=by assumption)
    (hi:l[i]? =some (.map mm (M.map je)):=by first|exact Q4|exact Q3|exact Q2|exact Q1|exact Qz|exact Qy):AQ σ (.i .i64) (.l [] true) false (.m mm) (eI c) K:=
 Ja h i hi rfl (XA M) (by rw[iG];exact hk)
def xK {M:List Ord} {c:Int} {σ:AH} {fx:List At} (hs:Sat σ (fx++M.map dG)) (hl:(CD M c).length≤Ad) (hne:CD M c≠[]) {k kp:V→AH→Prop} (hk: ∀σ',Sat σ' (fx++M.map dG)→k (.l (iL ((CD M c).filter (· != 0))) false) σ'):BC Tryz.prog 379 [Ix M c] σ (qk k kp):=by
 rcases PF M c with⟨h1,h2⟩|⟨j,hj⟩
 ·exact absurd h1 hne
 ·have hj':(fx++M.map dG)[fx.length+j]? =some (At.own (Ix M c) 1 (iL (CD M c))):=by
   rw[List.getElem?_append_right (by omega),Nat.add_sub_cancel_left,hj]
  refine(jE (CD M c) (Ix M c) hl).nK hs hj' ?_;rintro r σ' rfl hs';exact hk σ' hs'
def Vy {σ σ2:AH}: ∀ {a a' b b':List (List V)},E6 σ σ2 a a'→E6 σ σ2 b b'→E6 σ σ2 (a++b) (a'++b')
 | [],[],_,_,.nil,h=>h
 | _::_,_::_,_,_,.cons h1 h2,h=> .cons h1 (Vy h2 h)
def iE (n mm:Nat) (vp vu:V) (ps:List (List Int×Bool)) (us:List Nat) (M:List Ord) (c:Int) (l:List Int) (b:Bool) (hc0:0≤c) (hl:ps[c.toNat]? =some (l,b)) (hll:l.length≤3) (hol: ∀c,(CD M c).length≤Ad) :
    Bj Tryz.prog 376 [.p n 0,eI c] (gH n mm vp vu ps us M) fun r post=>r= .ret (if l.any fun p=>(CD M p).isEmpty then .t [.l [] true,.b false]else .t [.l (Eh (l.map (fun p=>(CD M p).filter (· != 0))++[l])) false,.b true])∧post=gH n mm vp vu ps us M:=by
 intro σ hs;have hM:=Mx;have hci:c<ps.length:=by have:=(IS.1 hl).1;omega
 refine rF kZ ?_
 conv=>whnf
 repeat'((first|apply st|(apply sq;intro K U)|(apply si;intro A B Y Z)|(apply Y;clear Z B Y A)|(apply U;clear U K)|refine ld ?_|refine oi ?_|refine Oc ?_|fail)<;>conv=>whnf)
 refine CA l.length (fun k v=>[(6,v),(17,eI (BG k))]) (fun k v=> .own v 1 (Eh ((l.take k).map fun p=>(CD M p).filter (· != 0)))::gH n mm vp vu ps us M) (fun k _=>((l.take k).any fun p=>(CD M p).isEmpty)=false) (.l [] true) rfl rfl (DA hs 1) ?_;clear hs;rintro k v σ hk hne hs;rcases BI l hk with⟨p,hp,hlt⟩|hke
 ·have han:((l.take (k+1)).any fun p=>(CD M p).isEmpty)=(CD M p).isEmpty:=by rw[AO hp,List.any_append,hne];simp
  have hap:(l.take k).length≤3:=by rw[K1];omega
  conv=>whnf
  repeat'((first|apply st|(apply sq;intro K U)|(apply si;intro A B Y Z)|(apply Y;clear Z B Y A)|(apply U;clear U K)|refine⟨rfl,?_⟩|refine ix ?_|refine ld ?_|(refine CU (fun hc=>?_)<;>(try rw[hc])<;>clear hc)|refine xx ?_|refine PG (fx:=_::_::_::_::_:: []) hs (hol _) ?_|(constructor<;>intro hc<;>(try rw[hc])<;>(replace hc:=bp hc))|clear U K)<;>conv=>whnf)
  ·have h0:(CD M p).isEmpty=true:=by rw[List.isEmpty_iff_length_eq_zero];omega
   have hany:(l.any fun p=>(CD M p).isEmpty)=true:=Jy.2 ⟨p,B9 hp,h0⟩;refine Av (l':=gH n mm vp vu ps us M) hs (Jz _ _) (.refl _) fun σ' hs'=>⟨_,⟨?_,rfl⟩,hs'⟩
   rw[if_pos hany]
  ·have h0:(CD M p).isEmpty=false:=by
    cases h:(CD M p).isEmpty
    ·rfl
    ·rw[List.isEmpty_iff_length_eq_zero]at h;omega
   refine xK (fx:=_::_::_::_::_:: []) hs (hol _) (fun e=>by rw[e]at h0;cases h0) fun σ hs=>?_
   conv=>whnf
   repeat'((first|(apply si;intro A B Y Z)|(apply Y;clear Z B Y A)|(apply U;clear U K)|refine⟨rfl,?_⟩|refine aq fun v σ hs hsl=>?_|clear U K)<;>conv=>whnf)
   refine⟨hlt,_,rfl,by rw[han];exact h0,?_⟩;rw[AO hp,Sd];exact hs
 ·rw[Ap hke]at hne hs
  conv=>whnf
  repeat'((first|apply st|(apply sq;intro K U)|(apply si;intro A B Y Z)|(apply Y;clear Z B Y A)|(apply U;clear U K)|refine⟨rfl,?_⟩|refine ld ?_|refine oi ?_|refine Oc ?_|(refine Dl (fun hc=>?_)<;>(try rw[hc])<;>clear hc)|clear U K)<;>conv=>whnf)
  refine hAppend hs 0 rfl (by simp;omega) (fun e he=>by simp at he;subst he;rfl) (fun e he v hv=>by simp at he;subst he;simp at hv;subst hv;rfl) fun v σ hs=>?_
  conv=>whnf
  repeat'((first|apply st|(apply Y;clear Z B Y A)|(apply U;clear U K)|fail)<;>conv=>whnf)
  obtain⟨σ2,h1,h2,h3⟩:=qY (es':=Eh (l.map (fun p=>(CD M p).filter (· != 0))++[l])) hs 0 rfl fun σ2=>by
   have e:Eh (l.map (fun p=>(CD M p).filter (· != 0))++[l])=Eh (l.map fun p=>(CD M p).filter (· != 0))++[[.l (iL l) false]]:=by simp only[Eh,Sd,E3,List.map_nil]
   rw[e];exact Vy (CY _) (.cons (.cons dw .nil) .nil)
  refine Gp h1 (.t (.cons h2 (.cons (.refl _) .nil))) ⟨_,⟨?_,rfl⟩,h3⟩;rw[hne,if_neg (by decide)]
def Sat.yE {σ:AH} {l:List At} {a:At} (h:Sat σ (a::l)):Sat σ (l++[a]):=h.perm (by
 have:=Qu (l₁:=[a]) (l₂:=l)
 simpa using this)
def DD (M:List Ord) (l:List Int):List (List Int):=l.map (fun p=>(CD M p).filter (· != 0))++[l]
def Gv (M:List Ord) (l:List Int) (c:Int):List Int:=
 if c=0 then [0]else if l.any (fun p=>(CD M p).isEmpty)then []else if(CM (DD M l)).2 then [c]++(CM (DD M l)).1++[0]else []
def ZT (n mm:Nat) (vp vu:V) (ps:List (List Int×Bool)) (us:List Nat) (M:List Ord) {c:Int} {v:V} {l:List Int} (hk: ∀e∈M,e.1≠c) {σ:AH}
    (hs:Sat σ (.own v 1 (iL l):: .box n [vp,vu,.m mm]:: .own vp 1 (pL ps):: .own vu 1 (us.map fun u=>[eU u]):: .map mm (De (eI c) v (M.map je))::M.map dG)):Sat σ (gH n mm vp vu ps us (M++[(c,v,l)])):=by
 rw[lP v l hk]at hs;have:=hs.yE;unfold gH;rw[Sd (f:=dG)];exact this
def gl (n mm:Nat) (vp vu:V) (ps:List (List Int×Bool)) (us:List Nat) (M:List Ord) (c:Int) (l:List Int) (b:Bool) (hc0:0≤c) (hl:ps[c.toNat]? =some (l,b)) (hll:l.length≤3) (hol: ∀c,(CD M c).length≤Ad) (hk: ∀e∈M,e.1≠c)
    (hok:MU (DD M l)) (ht:total (DD M l)<1000000000) :
    Bj Tryz.prog 368 [.p n 0,eI c] (gH n mm vp vu ps us M) fun r post=>r= .ret (.t [])∧ ∃M',post=gH n mm vp vu ps us M'∧((M'=M∧Gv M l c= [])∨ ∃v,M'=M++[(c,v,Gv M l c)]∧Gv M l c≠[]):=by
 intro σ hs;have hM:=Mx;refine rM kZ ?_;by_cases hc:c=0
 ·subst hc
  conv=>whnf
  repeat'((first|apply st|(apply sq;intro K U)|(apply si;intro A B Y Z)|(apply Y;clear Z B Y A)|(apply U;clear U K)|refine⟨rfl,?_⟩|refine ld ?_|(constructor<;>intro hc<;>(try rw[hc])<;>(replace hc:=bp hc)<;>(try simp(disch:=omega) only[A9,wrap64,AK]at hc)<;>try(exfalso;omega))|fail)<;>conv=>whnf)
  refine JZ hs 3 rfl rfl (XA M) fun σ hs=>?_
  conv=>whnf
  repeat'((first|apply st|(apply Y;clear Z B Y A)|(apply U;clear U K)|clear U K)<;>conv=>whnf)
  refine Av (l':=gH n mm vp vu ps us (M++[(0,.l [[eI 0]] true,[0])])) ?_ (List.Sublist.refl _) (.refl _) fun σ' hs'=>⟨_,⟨rfl,_,rfl,.inr ⟨.l [[eI 0]] true,?_,?_⟩⟩,hs'⟩
  ·refine ZT n mm vp vu ps us M hk ?_
   exact np hs (fun e he=>by simp at he;subst he;rfl)
  ·rw[Gv,if_pos rfl]
  ·rw[Gv,if_pos rfl];exact fun e=>by cases e
 ·have hoc:Gv M l c=if l.any (fun p=>(CD M p).isEmpty)then []else if(CM (DD M l)).2 then [c]++(CM (DD M l)).1++[0]else []:=by rw[Gv,if_neg hc]
  have hli:=iE n mm vp vu ps us M c l b hc0 hl hll hol;have hmg:=iA (DD M l) false hok (by omega);have hml:=IF (total (DD M l)) (DD M l) [];have hml2:(CM (DD M l)).1.length≤total (DD M l):=by simpa[CM]using hml
  cases hany:l.any fun p=>(CD M p).isEmpty
  ·rw[hany,if_neg (by decide)]at hoc
   simp only[hany,MO,if_false]at hli;have hdn: ∀ {σ:AH} {M':List Ord},Sat σ (gH n mm vp vu ps us M')→((M'=M∧Gv M l c= [])∨ ∃v,M'=M++[(c,v,Gv M l c)]∧Gv M l c≠[])→Aw σ (.t []) fun r σ'=> ∃post,(r= .ret (.t [])∧ ∃M',post=gH n mm vp vu ps us M'∧((M'=M∧Gv M l c= [])∨ ∃v,M'=M++[(c,v,Gv M l c)]∧Gv M l c≠[]))∧Sat σ' post:=fun hs h=>Av hs (List.Sublist.refl _) (.refl _) fun σ' hs'=>⟨_,⟨rfl,_,rfl,h⟩,hs'⟩
   conv=>whnf
   repeat'((first|apply st|(apply sq;intro K U)|(apply si;intro A B Y Z)|(apply Y;clear Z B Y A)|(apply U;clear U K)|refine⟨rfl,?_⟩|(constructor<;>intro hc<;>(try rw[hc])<;>(replace hc:=bp hc)<;>try(exfalso;omega))|fail)<;>conv=>whnf)
   refine hli.use (rest:=[]) (by simpa using hs) ?_;clear hs;rintro r post σ ⟨rfl,rfl⟩ hs;rw[Im]at hs;have hml3:(DD M l)=l.map (fun p=>(CD M p).filter (· != 0))++[l]:=rfl;rw[←hml3];generalize DD M l=ll at *;cases hb:(CM ll).2<;>rw[hb]at hmg hoc
   ·conv=>whnf
    repeat'((first|apply st|(apply sq;intro K U)|(apply si;intro A B Y Z)|(apply Y;clear Z B Y A)|(apply U;clear U K)|refine FP ?_|refine Pure.use (by assumption) ?_|fail)<;>conv=>whnf)
    exact hdn hs (.inl ⟨rfl,by rw[hoc];rfl⟩)
   ·rw[if_pos rfl]at hoc
    conv=>whnf
    repeat'((first|apply st|(apply sq;intro K U)|(apply si;intro A B Y Z)|(apply Y;clear Z B Y A)|(apply U;clear U K)|apply dr|refine ld ?_|refine FP ?_|refine Pure.use (by assumption) ?_|fail)<;>conv=>whnf)
    replace hs:=np hs (sz:=1) (es:=[[eI c]]) (fun e he=>by simp at he;subst he;rfl);refine HU hs 0 (xs:=[c]) (ys:=(CM ll).1) rfl (by simp;omega) Bk fun v σ hs=>?_
    conv=>whnf
    repeat'((first|apply dr|refine rk ?_ ?_|exact fun s e=>by cases e;rfl|refine ld ?_|refine aq fun v σ hs hsl=>?_|fail)<;>conv=>whnf)
    refine JZ hs 4 rfl rfl (XA M) fun σ hs=>?_
    conv=>whnf
    repeat'((first|(apply Y;clear Z B Y A)|apply dr|fail)<;>conv=>whnf)
    refine hdn (ZT n mm vp vu ps us M hk (l:=Gv M l c) ?_) (.inr ⟨v,rfl,by rw[hoc];simp⟩);rw[hoc];exact hs
  ·rw[hany,if_pos rfl]at hoc
   simp only[hany,if_true]at hli
   conv=>whnf
   repeat'((first|apply st|(apply sq;intro K U)|(apply si;intro A B Y Z)|(apply Y;clear Z B Y A)|(apply U;clear U K)|refine⟨rfl,?_⟩|(constructor<;>intro hc<;>(try rw[hc])<;>(replace hc:=bp hc)<;>try(exfalso;omega))|fail)<;>conv=>whnf)
   refine hli.use (rest:=[]) (by simpa using hs) ?_;clear hs;rintro r post σ ⟨rfl,rfl⟩ hs;rw[Im]at hs
   conv=>whnf
   repeat'((first|apply st|(apply sq;intro K U)|(apply si;intro A B Y Z)|(apply Y;clear Z B Y A)|(apply U;clear U K)|refine HK ?_|clear U K)<;>conv=>whnf)
   exact Av hs (List.Sublist.refl _) (.refl _) fun σ' hs'=>⟨_,⟨rfl,_,rfl,.inl ⟨rfl,hoc⟩⟩,hs'⟩
end Go.Gl
namespace Go.Gl
def bG {M:List Ord} {k:Int} {v:V} {o:List Int} (h: ∀e∈M,e.1<k) (d:Int):CD (M++[(k,v,o)]) d=if d=k then o else CD M d:=by
 unfold CD;rw[List.find?_append];split
 ·rename_i e
  have:M.find? (fun e=>d==e.1)=none:=by
   rw[List.find?_eq_none];intro x hx;have:=h x hx;simp;omega
  rw[this];simp[e]
 ·rename_i e
  cases hf:M.find? fun e=>d==e.1 with
  | some x=>simp
  | none=>simp[List.find?_cons,e]
structure Ii (g:List (List Int)) (k:Nat) (M:List Ord):Prop where
 keys: ∀e∈M,0≤e.1∧e.1<(k:Int)
 dT: ∀d:Int,0≤d→d<k→CD M d=(B7 g).getD d.toNat []
def VI {g:List (List Int)} {k:Nat} {M:List Ord} (h:Ii g k M) {d:Int} (hd:d<0∨(k:Int)≤d):CD M d= []:=by
 unfold CD
 have:M.find? (fun e=>d==e.1)=none:=by
  rw[List.find?_eq_none];intro x hx;have:=h.keys x hx;simp;omega
 rw[this];rfl
def Lq {g:List (List Int)} (hg:Ib g) {k:Nat} {M:List Ord} (h:Ii g k M) (d:Int):(CD M d).length≤71744535∧ ∀x∈CD M d,(0:Int)≤x:=by
 by_cases hd:d<0∨(k:Int)≤d
 ·rw[VI h hd]
  exact⟨by simp,fun x hx=>by cases hx⟩
 ·rw[h.dT d (by omega) (by omega)]
  have hb:=IN hg (2+g.length);have hl:=Zo (k:=2+g.length) (by have:=hg.1;omega);unfold B7;exact⟨VV (fun o ho=>Nat.le_trans (hb o ho).1 hl) _,PW (fun o ho=>(hb o ho).2) _⟩
def bR {g:List (List Int)} (hg:Ib g) {k:Nat} {M:List Ord} (h:Ii g k M) {l:List Int} (hl:l.length≤3) (h0: ∀x∈l,(0:Int)≤x):MU (DD M l)∧total (DD M l)<1000000000:=by
 have hM:Ad=17592186044416:=rfl;have hf: ∀p,((CD M p).filter (· != 0)).length≤71744535:=fun p=>Nat.le_trans (Oa _ _) (Lq hg h p).1
 have ht: ∀l:List Int,total (l.map fun p=>(CD M p).filter (· != 0))≤l.length*71744535:=by
  intro l
  induction l with
  | nil=>simp[total]
  | cons p r ih=>
    simp only[total,E3,List.sum_cons,K2]at *;have:=hf p;rw[Nat.add_mul];omega
 refine⟨⟨by simp[DD];omega,fun m hm=>?_⟩,?_⟩
 ·rcases E7.1 hm with hm|hm
  ·obtain⟨p,_,rfl⟩:=MN.1 hm
   refine⟨by have:=hf p;omega,fun x hx=>(Lq hg h p).2 x (K0.1 hx).1⟩
  ·rw[Kz.1 hm]
   exact⟨by omega,h0⟩
 ·have h1:=ht l
  have h2:total (DD M l)=total (l.map fun p=>(CD M p).filter (· != 0))+l.length:=by simp[DD,total]
  have h3:=T7 71744535 hl;omega
def k8 {g:List (List Int)} {k:Nat} {M:List Ord} (h:Ii g (k+1) M) {l:List Int} (hl:l=A2 g ((k:Int)+1)) (hp: ∀p∈l,(0:Int)≤p∧p<(k:Int)+1) (hk:k+1<3+g.length) :
    Gv M l ((k:Int)+1)=D3 g (Bd g k) ((k:Int)+1):=by
 have ho: ∀p∈l,CD M p=(Bd g k).getD p.toNat []:=fun p hpl=>by
  obtain⟨h0,h1⟩:=hp p hpl;rw[h.dT p h0 (by omega)];unfold B7;rw[DZ,DZ,Ez (k:=2+g.length) (j:=p.toNat) (by omega),Ez (k:=k) (j:=p.toNat) (by omega)]
 have e1:(l.any fun p=>(CD M p).isEmpty)=(l.any fun p=>((Bd g k).getD p.toNat []).isEmpty):=by
  rw[JU,Jy,Jy];constructor
  ·rintro⟨p,h1,h2⟩;exact⟨p,h1,by rw[←ho p h1];exact h2⟩
  ·rintro⟨p,h1,h2⟩;exact⟨p,h1,by rw[ho p h1];exact h2⟩
 have e2:DD M l=l.map (fun p=>((Bd g k).getD p.toNat []).filter (· != 0))++[l]:=by
  unfold DD;congr 1;exact List.map_congr_left fun p hpl=>by rw[ho p hpl]
 unfold Gv D3 EL;rw[if_neg (by omega),e1,e2,←hl];split<;>rfl
def Ii.nil {g:List (List Int)}:Ii g 0 []:=⟨fun e h=>(by cases h),fun d h0 h1=>by omega⟩
def Ii.step {g:List (List Int)} {k:Nat} {M M':List Ord} (h:Ii g k M) {l:List Int} (hl:l=A2 g (k:Int)) (hp: ∀p∈l,(0:Int)≤p∧p<(k:Int)) (hk:k<3+g.length)
    (hM:(M'=M∧Gv M l k= [])∨ ∃v,M'=M++[((k:Int),v,Gv M l k)]∧Gv M l k≠[]):Ii g (k+1) M':=by
 have hc:Gv M l k=(B7 g).getD k []:=by
  cases k with
  | zero=>
    unfold Gv B7;rw[if_pos (by simp),DZ,Ez (j:=0) (by omega)];rfl
  | succ k=>
    have:=k8 h (by simpa using hl) (fun p hpl=>by have:=hp p hpl;simpa using this) hk;have e:((k+1:Nat):Int)=(k:Int)+1:=by omega
    rw[e,this];unfold B7;rw[DZ,Ez (k:=2+g.length) (j:=k+1) (by omega),Bd,List.getElem?_append_right (by rw[Ck];omega),Ck,Nat.sub_self];rfl
 rcases hM with⟨rfl,he⟩|⟨v,rfl,_⟩
 ·refine⟨fun e he=>by have:=h.keys e he;omega,fun d h0 h1=>?_⟩
  by_cases hd:d=k
  ·subst hd
   rw[VI h (by omega)];rw[Iv,←hc,he]
  ·exact h.dT d h0 (by omega)
 ·refine⟨fun e he=>?_,fun d h0 h1=>?_⟩
  ·rcases E7.1 he with he|he
   ·have:=h.keys e he;omega
   ·rw[Kz.1 he]
    exact⟨by simp,by simp;omega⟩
  ·rw[bG (fun e he=>(h.keys e he).2)]
   split
   ·rename_i hd
    rw[hd,Iv];exact hc
   ·exact h.dT d h0 (by omega)
end Go.Gl
