import Derived.Test.YtegbmnmnaijioaaGreatB7
import Derived.Test.YtegbmnmnaijioaaGreatB8
set_option linter.all false
set_option linter.defProp false
noncomputable section
namespace Go.Gl
open Go.Proofs
attribute [local irreducible] A8 Ap Ag AT AL Ae AS AU AK Ad AO AP Aw A2 Sat AX A0 Ai W
def Ia (w:AM) (x:Fact):Prop:= ∃g,A9 w g=true∧Bt g=true∧(x=g∨x=ED g)
def Gd {g:Fact} (h:Bt g=true):g.op=2∨g.op=3∨g.op=4:=by
 simp only[Bt,Gj,D4]at h;omega
def Gi {w : AM} (f:Fact):A9 w f=true→ ∀c,∀l∈BT f c,∀x∈l,Ia w x:=by
 induction f using Fact.ind with
 | h f ih=>
   intro h c;have har:=A7 f h;have h':=h;rw[CM,BU,GP]at h';rw[Hd,FX];by_cases h1:f.op=1
   ·rw[if_pos h1]
    cases c
    ·rw[if_neg (by decide)]
     intro l hl x hx;simp at hl;subst hl;cases hx
    ·rw[if_pos rfl]
     intro l hl;cases hl
   rw[if_neg h1];by_cases h5:f.op=5
   ·obtain⟨a,ha,hb⟩:=Fj har h5
    rw[if_pos h5,ha];exact ih a (by rw[ha];exact .head _) (h'.2 a (by rw[ha];exact .head _)) (!c)
   rw[if_neg h5];by_cases h6:f.op=6∨f.op=7
   ·obtain⟨a,b,ha,hb1,hb2⟩:=Fi har h6
    rw[if_pos h6,ha];have i1:=ih a (by rw[ha];exact .head _) (h'.2 a (by rw[ha];exact .head _)) c;have j1:=ih b (by rw[ha];exact .tail _ (.head _)) (h'.2 b (by rw[ha];exact .tail _ (.head _))) c;simp only[C0,List.map_nil,List.getD_cons_zero,List.getD_cons_succ];split
    ·intro l hl
     rcases FJ.1 hl with hl|hl
     ·exact i1 l hl
     ·exact j1 l hl
    ·intro l hl x hx
     simp only[D7,List.mem_flatMap,NP]at hl;obtain⟨y,hy,z,hz,rfl⟩:=hl;rcases Qy _ _ _ hx with h|h
     ·exact i1 y hy x h
     ·exact j1 z hz x h
   ·rw [if_neg h6]
    have hlf:Bt f=true:=by
     have ho:RY w f=true:=by
      have:=h'.1;simp only[Cq,BU]at this;exact this.1
     simp only[Bt,Gj,D4];unfold RY at ho;split at ho
     ·omega
     ·split at ho
      ·omega
      ·simp only[Gj,D4]at ho
       omega
    cases c
    ·rw[if_neg (by decide)]
     intro l hl x hx;simp at hl;subst hl;simp at hx;subst hx;exact⟨x,h,hlf,.inl rfl⟩
    ·rw[if_pos rfl]
     intro l hl x hx;simp at hl;subst hl;simp at hx;subst hx;exact⟨f,h,hlf,.inr rfl⟩
def I0 {w:AM} {x:Fact} (h:Ia w x):Fv x∧A9 w (BN x).1=true∧Bt (BN x).1=true:=by
 obtain⟨g,hn,hl,rfl|rfl⟩:=h
 ·have:=Gd hl
  have h5: ¬x.op=5:=by omega
  exact⟨fun e=>absurd e h5,by simp only[BN,if_neg h5];exact⟨hn,hl⟩⟩
 ·exact⟨fun _ e=>(by cases e),hn,hl⟩
def LN {w:AM} {l:List Fact} (h: ∀x∈l,Ia w x):(∀x∈l,Fv x)∧UE w l∧Jx l∧Ry l 2:=by
 refine⟨fun x hx=>(I0 (h x hx)).1,fun x hx h2=>?_,fun x hx=>?_,fun x hx=>?_⟩
 all_goals
  obtain⟨-,hn,hl⟩:=I0 (h x hx);have hlo:=Gd hl;generalize (BN x).1=g at *;rw[CM,BU]at hn;have hn:=hn.1;simp only[Cq,BU]at hn;obtain⟨ho,-,-,-,hp,-⟩:=hn
 ·unfold RY at ho
  rw[if_pos h2]at ho;simp only[P5,BU,DZ]at ho;exact ho.2
 ·unfold RY at ho
  split at ho
  ·simp only[BU,D4]at ho
   omega
  ·split at ho
   ·simp only[BU,DZ]at ho
    omega
   ·omega
 ·simp only[Ee,BU,DZ]at hp
  omega
def Td (w:AM) (f:Fact):Bool:=(BT f false).any (Hg w)
def rz (w:AM) (f:Fact) (hw:gF w) (hn:A9 w f=true) (hlv:lv f≤28):Pure Tryz.prog 277 [.a (BI w),.a (xF f)] (.b (Td w f)):=by
 have hM:=Mx;have har:=A7 f hn;have hcl:=(EN f har false).1;have hp:2 ^ lv f≤2 ^ 28:=Nat.pow_le_pow_right (by omega) hlv;have hlits:=Gi f hn false;refine qP kZ ?_;have hs:=Sn
 conv=>whnf
 repeat'((first|apply st|(apply sq;intro K U)|(apply si;intro A B Y Z)|(apply Y;clear Z B Y A)|(apply U;clear U K)|refine⟨kZ,?_⟩|fail)<;>conv=>whnf)
 refine(sA f har hlv false).use (rest:=[]) hs ?_;clear hs;rintro r post σ ⟨v,rfl,rfl⟩ hs;have F:Td w f=(BT f false).any (Hg w):=rfl
 have hlen: ∀x∈BT f false,x.length≤1000000:=fun x hx=>by
  have:=(EN f har false).2 x hx;omega
 generalize BT f false=cs at *
 conv=>whnf
 repeat'((first|apply st|(apply Y;clear Z B Y A)|(apply U;clear U K)|refine lo ?_|fail)<;>conv=>whnf)
 refine CD cs.length (fun k (_:Unit)=>[(10,eI (BM k))]) (fun _ _=>[.own v 1 (gR cs)]) (fun k _=>Td w f=(cs.drop k).any (Hg w)) () rfl F hs ?_;clear hs F;rintro k - σ hk F hs;rcases BS cs hk with⟨x,hx,hlt⟩|hke
 ·obtain⟨q1,q2,q3,q4⟩:=LN (hlits x (Ck hx))
  have htog:=VK w x q1 (hlen x (Ck hx)) hw q2 q3 q4;rw[drop_cons hx,QH]at F;cases ht:Hg w x<;>rw[ht]at htog F
  ·conv=>whnf
   repeat'((first|apply st|(apply sq;intro K U)|(apply si;intro A B Y Z)|(apply Y;clear Z B Y A)|(apply U;clear U K)|refine⟨rfl,?_⟩|refine⟨kZ,?_⟩|refine oc ?_|refine Vp ?_|(refine C8 (fun hc=>?_)<;>(try rw[hc])<;>clear hc)|refine Pure.use (by assumption) ?_|clear U K)<;>conv=>whnf)
   exact⟨hlt,(),rfl,F,hs⟩
  ·conv=>whnf
   repeat'((first|apply st|(apply sq;intro K U)|(apply si;intro A B Y Z)|(apply Y;clear Z B Y A)|(apply U;clear U K)|refine⟨rfl,?_⟩|refine⟨kZ,?_⟩|refine oc ?_|refine Vp ?_|(refine C8 (fun hc=>?_)<;>(try rw[hc])<;>clear hc)|refine Pure.use (by assumption) ?_|clear U K)<;>conv=>whnf)
   exact AI (by rw[F];rfl)
 ·conv=>whnf
  repeat'((first|apply st|(apply sq;intro K U)|(apply si;intro A B Y Z)|(apply Y;clear Z B Y A)|(apply U;clear U K)|refine⟨rfl,?_⟩|(refine Es (fun hc=>?_)<;>(try rw[hc])<;>clear hc)|clear U K)<;>conv=>whnf)
  exact AI (by rw[F,Al hke];rfl)
def Tj (w:AM) (a b:Fact):Bool:= !Td w (P8 a (ED b))
def cb (a b:Fact):lv (P8 a (ED b))=lv a+lv b:=by
 rw[Km];simp only[ZC,P8,Fact.op,Fact.kids,C0,List.map_nil,List.getD_cons_zero,List.getD_cons_succ];rw[Km (ED b)];simp[ZC,ED,Fact.op,Fact.kids]
def Uj {w:AM} {a b:Fact} (ha:A9 w a=true) (hb:A9 w b=true):A9 w (P8 a (ED b))=true:=by
 have hnb:A9 w (ED b)=true:=by
  rw[CM];simp[ED,Cq,RY,Fact.op,Fact.kids,Fact.arg,Fact.path,Fact.cls,Fact.n,Bw,Ee,Bt,hb]
 rw[CM];simp[P8,Cq,RY,Fact.op,Fact.kids,Fact.arg,Fact.path,Fact.cls,Fact.n,Bw,Ee,Bt,ha,hnb]
def Qz (w:AM) (a b:Fact) (hw:gF w) (ha:A9 w a=true) (hb:A9 w b=true) (la:lv a≤12) (lb:lv b≤12):Pure Tryz.prog 204 [.a (BI w),.a (xF a),.a (xF b)] (.b (Tj w a b)):=by
 refine qv kZ ?_;have hs:=Sn
 conv=>whnf
 repeat'((first|apply st|(apply sq;intro K U)|(apply si;intro A B Y Z)|(apply Y;clear Z B Y A)|(apply U;clear U K)|apply dr|refine rk ?_ ?_|exact fun s e=>by cases e;rfl|refine⟨kZ,?_⟩|refine Pure.use (R5 _) ?_|refine Pure.use (r9 _ _) ?_|refine Pure.use (rz _ _ hw (Uj ha hb) (by rw[cb];omega)) ?_|fail)<;>conv=>whnf)
 all_goals exact AI rfl
def UY {p:Prog}: ∀ {ms:List NW} {s:List Int},(runM p ms s).isSome=true→ ∀m∈ms,P1 p m=true
 | [],_,_,_,h=>by cases h
 | m ::r,s,h,x,hx=>by
   rw[runM]at h;split at h
   ·rename_i hok
    split at h
    ·cases h
    ·rcases G5.1 hx with rfl|hx
     ·exact hok
     ·exact UY h x hx
   ·cases h
def JQ {p:Prog} (h:(Bg p).isSome=true):C3 p=true∧ ∀m∈p.methods,P1 p m=true:=by
 unfold Bg at h;split at h
 ·rename_i hh
  refine⟨hh,?_⟩;split at h
  ·cases h
  ·rename_i s hs
   exact UY (by rw[hs];rfl)
 ·cases h
structure nR (p:Prog):Prop where
 zO:gF (AW p)
 AJ:Bk p.AQ≤Aj
 tP:p.AQ.length≤1000
 facts: ∀m∈p.methods,A9 (AW p) m.fact=true∧lv m.fact≤12
 many:p.methods.length≤16
def look_ok {p:Prog} (h:(Bg p).isSome=true):nR p:=by
 obtain⟨hh,hm⟩:=JQ h;simp only[C3,BU,DZ]at hh;have hc:=hh.1;simp only[BD,BU,DZ]at hc;have hM:=Mx;refine⟨O9 hc.1 hc.2.1 hc.2.2.2.1,by have:=(E7 _ _ hc.2.1).1;omega,by have:=hc.1;omega,fun m h=>?_,hh.2.2.1⟩;have:=hm m h;simp only[P1,Co,BU,DZ]at this;have hn:=this.2.2.2.2.1.2.2;refine⟨hn,?_⟩;have hcn:=Hz m.fact 24 (by omega) this.2.2.2.2.1.1;have:=oE m.fact (A7 _ hn);omega
def Jg (p:Prog) (m:Int):Bool:=decide (0≤m)&&decide (m<(p.methods.length:Int))
def De (p:Prog) (m:Int):NW:=p.methods.getD m.toNat default
def Oo {p:Prog} {m:Int} (h:Jg p m=true):p.methods[m.toNat]? =some (De p m):=by
 simp only[Jg,BU,DZ]at h;rw[De,E2,Et (by omega)];rfl
def dZ (p:Prog) (m n:Int):Bool:=(De p m).gen==(De p n).gen&&(De p m).kind==(De p n).kind
end Go.Gl
namespace Go.Gl
variable {P:Program} {σ:AH}
abbrev eU (n:Nat):V:= .i .u64 (n:Int)
def HM {n:Nat} (h:n<18446744073709551616):IntKind.u64.wrap (n:Int)=n:=by
 simp only[IntKind.wrap,IntKind.signed,IntKind.bits];simp;omega
def LC {a b:Nat} (ha:a<18446744073709551616) (hb:b<18446744073709551616):bits .or .u64 (a:Int) (b:Int)=((a|||b:Nat):Int):=by
 have h:a|||b<2 ^ 64:=Nat.or_lt_two_pow (n:=64) (by simpa using ha) (by simpa using hb)
 simp only[bits,IntKind.bits]
 have e1:(BitVec.ofInt 64 (a:Int)|||BitVec.ofInt 64 (b:Int)).toNat=a|||b:=by
  simp only[BitVec.ofInt_natCast,BitVec.toNat_or,BitVec.toNat_ofNat];rw[Nat.mod_eq_of_lt (by simpa using ha),Nat.mod_eq_of_lt (by simpa using hb)]
 have e2:=HM (n:=a|||b) (by simpa using h);rw[←e1]at e2;rw[←e1];exact e2
def LS {a b:Nat} (ha:a<18446744073709551616) (hb:b<18446744073709551616):bits .and .u64 (a:Int) (b:Int)=((a&&&b:Nat):Int):=by
 have h:a&&&b<2 ^ 64:=Nat.and_lt_two_pow (n:=64) a (by simpa using hb);simp only[bits,IntKind.bits]
 have e1:(BitVec.ofInt 64 (a:Int)&&&BitVec.ofInt 64 (b:Int)).toNat=a&&&b:=by
  simp only[BitVec.ofInt_natCast,BitVec.toNat_and,BitVec.toNat_ofNat];rw[Nat.mod_eq_of_lt (by simpa using ha),Nat.mod_eq_of_lt (by simpa using hb)]
 have e2:=HM (n:=a&&&b) (by simpa using h);rw[←e1]at e2;rw[←e1];exact e2
def OC (a b:Nat):Nat:=(BitVec.ofNat 64 a&&& ~~~BitVec.ofNat 64 b).toNat
def S7 (a b:Nat):OC a b<18446744073709551616:=by
 have:=(BitVec.ofNat 64 a&&& ~~~BitVec.ofNat 64 b).isLt;simpa[OC]using this
def RH {a b:Nat}:bits .andNot .u64 (a:Int) (b:Int)=((OC a b:Nat):Int):=by
 simp only[bits,IntKind.bits]
 have e1:(BitVec.ofInt 64 (a:Int)&&& ~~~BitVec.ofInt 64 (b:Int)).toNat=OC a b:=by
  simp only[BitVec.ofInt_natCast,OC]
 have e2:=HM (n:=OC a b) (S7 a b);rw[←e1]at e2;rw[←e1];exact e2
def O5 {a b i:Nat} (hi:i<64):(OC a b).testBit i=(a.testBit i&& !b.testBit i):=by
 rw[OC,BitVec.testBit_toNat,BitVec.getLsbD_and,BitVec.getLsbD_not];rw[BitVec.getLsbD_ofNat,BitVec.getLsbD_ofNat];simp only[hi,decide_true,I8]
def X0 {c:Nat} (h:c<64):IntKind.u64.wrap (1*2 ^ (min c IntKind.u64.bits))=((2 ^ c:Nat):Int):=by
 have hb:IntKind.u64.bits=64:=rfl;rw[hb,Nat.min_eq_left (by omega),Int.one_mul];have:=HM (n:=2 ^ c) (by have:=Nat.pow_lt_pow_right (show 1<2 by omega) h;simpa using this);rw[←this];simp
def J0 {c:Nat} (h:c<64):2 ^ c<18446744073709551616:=by
 have:=Nat.pow_lt_pow_right (show 1<2 by omega) h;simpa using this
def Xz {a c:Nat} (h:c<64):(a:Int).fdiv (2 ^ (min c IntKind.u64.bits))=((a >>> c:Nat):Int):=by
 have hb:IntKind.u64.bits=64:=rfl;rw[hb,Nat.min_eq_left (by omega),Nat.shiftRight_eq_div_pow,Int.fdiv_eq_ediv_of_nonneg _ (Int.pow_nonneg (by omega))];simp
def DE {v:V} {Q:R→AH→Prop} (h:Q (.Bf v) σ):Ag σ v Q:=⟨v,σ,fun _ _ h=>h,.refl v,h⟩
def Bs {g:FuncId} {fi ca args:List V} {Q:R→AH→Prop} (h:A8 P g (fi++args++ca) σ Q):Aw P (.f (.func g) fi ca) args σ Q:=h
def Pure.of {f:FuncId} {args:List V} {v:V} (h:A8 P f args emp fun r _=>r= .ret v):Pure P f args v:=by
 refine⟨h.1,fun Λ w cs G hv=>Calls.mono (h.2 Λ w cs G hv) fun e w' ⟨r,σ',hr,h1,h2,h3⟩=>?_⟩;subst hr;obtain⟨c,rfl,hv'⟩:=h1;have hsub:Sub emp σ':=fun n o ho=>by cases ho
 exact⟨.ret v,emp,⟨rfl,rfl⟩,⟨c,rfl,FF.rel h2 hsub (.refl v) hv'⟩,h2.drop hsub,⟨h3.frame,h3.size,h3.os,h3.tape,h3.output,fun _ _ _=>rfl⟩⟩
def Cy {α S:Type} (P:Program) (x:V) (ea:α→V) (H:S→List At) (stp:α→S→Bool×S) (D:α→S→Prop):Prop:=
 ∀y s,D y s→ ∀σ,Sat σ (H s)→Aw P x [ea y] σ fun r σ'=>r= .ret (.b (stp y s).1)∧Sat σ' (H (stp y s).2)
def Cy.use {α S:Type} {x:V} {ea:α→V} {H:S→List At} {stp:α→S→Bool×S} {D:α→S→Prop} (h:Cy P x ea H stp D) {y:α} {s:S} (hd:D y s) (hs:Sat σ (H s)) {k kp:V→AH→Prop} (hk: ∀σ',Sat σ' (H (stp y s).2)→k (.b (stp y s).1) σ'):Aw P x [ea y] σ (qk k kp):=
 (h y s hd σ hs).mono fun r σ' ⟨e,h'⟩=>by rw[e];exact hk σ' h'
def Cy.u0 {α S:Type} {g:FuncId} {fi ca:List V} {ea:α→V} {H:S→List At} {stp:α→S→Bool×S} {D:α→S→Prop} (h:Cy P (.f (.func g) fi ca) ea H stp D) {y:α} {s:S} (hd:D y s) {rest:List At} (hs:Sat σ (H s++rest)) {k kp:V→AH→Prop} (hk: ∀σ',Sat σ' (H (stp y s).2++rest)→k (.b (stp y s).1) σ'):Aw P (.f (.func g) fi ca) [ea y] σ (qk k kp):=by
 refine Bs ?_;have h1:By P g (fi++[ea y]++ca) (H s) fun r post=>r= .ret (.b (stp y s).1)∧post=H (stp y s).2:=fun σ hs=>A8.mono (h y s hd σ hs) fun r σ' ⟨e,h2⟩=>⟨_,⟨e,rfl⟩,h2⟩
 refine h1.use hs ?_;rintro r post σ' ⟨rfl,rfl⟩ hs';exact hk σ' hs'
def B8 {α S:Type} (stp:α→S→Bool×S):List α→Nat→S→Int×S
 | [],_,s=>(-1,s)
 | y::r,k,s=>if(stp y s).1 then((k:Int),(stp y s).2)else B8 stp r (k+1) (stp y s).2
def Cd {α S:Type} (stp:α→S→Bool×S):List α→S→Bool×S
 | [],s=>(true,s)
 | y::r,s=>if(stp y s).1 then Cd stp r (stp y s).2 else(false,(stp y s).2)
def RZ {α S:Type} (stp:α→S→Bool×S) (D:α→S→Prop):List α→S→Prop
 | [],_=>True
 | y::r,s=>D y s∧RZ stp D r (stp y s).2
def Mb {α S:Type} {stp:α→S→Bool×S}: ∀(xs:List α) (k:Nat) (s:S),(B8 (fun y s=>(!(stp y s).1,(stp y s).2)) xs k s).2=(Cd stp xs s).2∧(decide ((B8 (fun y s=>(!(stp y s).1,(stp y s).2)) xs k s).1≥0)= !(Cd stp xs s).1)
 | [],_,_=>⟨rfl,rfl⟩
 | y::r,k,s=>by
   simp only[B8,Cd];cases h:(stp y s).1
   ·simp
   ·simpa using Mb r (k+1) (stp y s).2
def Sf {α S:Type} {stp:α→S→Bool×S} {D:α→S→Prop}: ∀(xs:List α) (s:S),RZ stp D xs s→RZ (fun y s=>(!(stp y s).1,(stp y s).2)) D xs s
 | [],_,_=>trivial
 | _::r,_,h=>⟨h.1,Sf r _ h.2⟩
def JU {α:Type} (f:α→Bool): ∀(xs:List α),Cd (fun y (_:Unit)=>(f y,())) xs ()=(xs.all f,())
 | []=>rfl
 | y::r=>by
   simp only[Cd,NN];cases f y
   ·rfl
   ·simpa using JU f r
def L2 {α S:Type} {stp:α→S→Bool×S} {D:α→S→Prop}: ∀ {xs:List α} {s:S},(∀y∈xs,∀s,D y s)→RZ stp D xs s
 | [],_,_=>trivial
 | y::r,s,h=>⟨h y (.head _) s,L2 fun z hz=>h z (.tail _ hz)⟩
end Go.Gl
namespace Go.Gl
open Go.Proofs
attribute [local irreducible] A8 Ap Ag AT AL Ae AS AU AK Ad AO AP Aw A2 Sat AX A0 Ai W
def SE {xs:List Int} {f:Bool} (h:Eu (.l (iL xs) f)):xs.length≤Aj:=Kq h
def eg:Pure Tryz.prog 283 [.b true] (.t []):=by
 refine dH kZ ?_;have hs:=Sn
 conv=>whnf
 repeat'((first|apply st|(apply sq;intro K U)|(apply si;intro A B Y Z)|(apply Y;clear Z B Y A)|(apply U;clear U K)|refine G3 ?_|fail)<;>conv=>whnf)
 all_goals exact AI rfl
abbrev Dj:V:= .Er 377 (.a [])
def ma (xs:List Int) (x:Int):Int:=(B8 (fun y (_:Unit)=>(x==y,())) xs 0 ()).1
def Ox {α:Type} (f:α→Bool): ∀(xs:List α) (k:Nat),(decide ((B8 (fun y (_:Unit)=>(f y,())) xs k ()).1≥0))=xs.any f
 | [],_=>rfl
 | y::r,k=>by
   simp only[B8,QH];cases f y
   ·simpa using Ox f r (k+1)
   ·simp
def TM (xs:List Int) (x:Int):xs.any (x== ·)=xs.contains x:=by
 induction xs with
 | nil=>rfl
 | cons y r ih=>rw[QH,List.contains_cons,ih]
def jQ (xs:List Int) (x:Int):decide (ma xs x≥0)=xs.contains x:=by
 rw[←TM];exact Ox (x== ·) xs 0
def fH (xs:List Int) (f:Bool) (x:Int):Pure Tryz.prog 96 [.l (iL xs) f,eI x] (eI (ma xs x)):=by
 refine Pure.fit (by kernel_rfl) fun hf=>?_
 have hxl:=SE hf.1;have hM:=Mx;refine td kZ ?_;have hs:=Sn
 conv=>whnf
 repeat'((first|apply st|(apply sq;intro K U)|(apply si;intro A B Y Z)|(apply Y;clear Z B Y A)|(apply U;clear U K)|fail)<;>conv=>whnf)
 refine CD xs.length (fun k (_:Unit)=>[(8,eI (BM k))]) (fun _ _=>[]) (fun k _=>ma xs x=(B8 (fun y (_:Unit)=>(x==y,())) (xs.drop k) k ()).1) () rfl rfl hs ?_;clear hs;rintro k - σ hk hn hs;have hck:BM k=k:=AN (by omega);rcases BS xs hk with⟨y,hy,hlt⟩|hke
 ·rw[drop_cons hy,B8]at hn
  conv=>whnf
  repeat'((first|apply st|(apply sq;intro K U)|(apply si;intro A B Y Z)|(apply Y;clear Z B Y A)|(apply U;clear U K)|refine⟨rfl,?_⟩|refine ix ?_|(refine C8 (fun hc=>?_)<;>(try rw[hc])<;>clear hc)|(constructor<;>intro hc<;>(try rw[hc])<;>(replace hc:=bp hc))|clear U K)<;>conv=>whnf)
  ·exact AI (by rw[hn,hc,hck];simp)
  ·exact⟨hlt,(),rfl,by rw[hn];simp[hc],hs⟩
 ·rw[Al hke,B8]at hn
  conv=>whnf
  repeat'((first|apply st|(apply sq;intro K U)|(apply si;intro A B Y Z)|(apply Y;clear Z B Y A)|(apply U;clear U K)|refine⟨rfl,?_⟩|(refine Es (fun hc=>?_)<;>(try rw[hc])<;>clear hc)|clear U K)<;>conv=>whnf)
  exact AI (by rw[hn])
def Dp (xs:List Int) (f:Bool) (x:Int):Pure Tryz.prog 34 [.l (iL xs) f,eI x] (.b (xs.contains x)):=by
 refine tw kZ ?_;have hs:=Sn
 conv=>whnf
 repeat'((first|apply st|(apply sq;intro K U)|(apply si;intro A B Y Z)|(apply Y;clear Z B Y A)|(apply U;clear U K)|refine⟨rfl,?_⟩|refine Pure.use (fH _ _ _) ?_|fail)<;>conv=>whnf)
 all_goals exact AI (by rw[←jQ])
def Pq (n:Int):Pure Tryz.prog 326 [eI n] (.b (Rt n)):=by
 refine pY kZ ?_;have hs:=Sn
 conv=>whnf
 repeat'((first|apply st|(apply sq;intro K U)|(apply si;intro A B Y Z)|(apply Y;clear Z B Y A)|(apply U;clear U K)|refine⟨rfl,?_⟩|(constructor<;>intro hc<;>(try rw[hc])<;>(replace hc:=bp hc))|fail)<;>conv=>whnf)
 all_goals exact AI (by simp[Rt, *]<;>omega)
def Oq (f:Fact):Bt f=(decide (2≤f.op)&&decide (f.op≤4)):=by
 rw[JZ];simp only[Bt,Gj,BU,D4,DZ];omega
def Sm (f:Fact):Pure Tryz.prog 180 [.a (xF f)] (.b (Bt f)):=by
 refine rI kZ ?_;have hs:=Sn
 conv=>whnf
 repeat'((first|apply st|(apply sq;intro K U)|(apply si;intro A B Y Z)|(apply Y;clear Z B Y A)|(apply U;clear U K)|refine⟨rfl,?_⟩|(constructor<;>intro hc<;>(try rw[hc])<;>(replace hc:=bp hc))|fail)<;>conv=>whnf)
 all_goals exact AI (by rw[Oq];simp[*]<;>omega)
def Xv (s c:Nat) (hs0:s<18446744073709551616) (hc:c<64):Pure Tryz.prog 245 [eU s,eI c] (eU (s|||2 ^ c)):=by
 refine qb kZ ?_;have hs:=Sn
 conv=>whnf
 repeat'((first|(apply sq;intro K U)|(apply si;intro A B Y Z)|(apply Y;clear Z B Y A)|(apply U;clear U K)|fail)<;>conv=>whnf)
 refine⟨Int.natCast_nonneg _,?_⟩
 conv=>whnf
 repeat'((first|apply st|(apply Y;clear Z B Y A)|(apply U;clear U K)|refine⟨rfl,?_⟩|fail)<;>conv=>whnf)
 exact AI (by rw[Lm,X0 hc,LC hs0 (J0 hc)])
def SB (s c:Nat) (hs0:s<18446744073709551616) (hc:c<64):Pure Tryz.prog 182 [eU s,eI c] (.b (s.testBit c)):=by
 refine rH kZ ?_;have hs:=Sn
 conv=>whnf
 repeat'((first|(apply sq;intro K U)|(apply si;intro A B Y Z)|(apply Y;clear Z B Y A)|(apply U;clear U K)|fail)<;>conv=>whnf)
 refine⟨Int.natCast_nonneg _,?_⟩
 conv=>whnf
 repeat'((first|apply st|(apply Y;clear Z B Y A)|(apply U;clear U K)|refine⟨rfl,?_⟩|fail)<;>conv=>whnf)
 refine AI ?_;rw[Lm,Xz hc];have h1:s >>> c<18446744073709551616:=by rw[Nat.shiftRight_eq_div_pow];exact Nat.lt_of_le_of_lt (Nat.div_le_self _ _) hs0
 have h2:bits .and .u64 ((s >>> c:Nat):Int) 1=((s >>> c&&&1:Nat):Int):=LS h1 (show 1<_ by decide);rw[h2];simp only[Nat.testBit,Nat.and_comm 1];congr 1;rcases Nat.mod_two_eq_zero_or_one (s >>> c)with h|h<;>simp[Nat.and_one_is_mod,h]
def jM (op:Int):Pure Tryz.prog 303 [eI op] (eI (Bw op)):=by
 refine pv kZ ?_;have hs:=Sn
 conv=>whnf
 repeat'((first|apply st|(apply sq;intro K U)|(apply si;intro A B Y Z)|(apply Y;clear Z B Y A)|(apply U;clear U K)|refine⟨rfl,?_⟩|(constructor<;>intro hc<;>(try rw[hc])<;>(replace hc:=bp hc))|clear U K)<;>conv=>whnf)
 all_goals exact AI (by simp[Bw, *])
def Ws (b:Bool):Pure Tryz.prog 218 [.b b] (eI (if b then 0 else 2)):=by
 refine qu kZ ?_;have hs:=Sn
 conv=>whnf
 repeat'((first|apply st|(apply sq;intro K U)|(apply si;intro A B Y Z)|(apply Y;clear Z B Y A)|(apply U;clear U K)|(constructor<;>intro hc<;>(try rw[hc])<;>(replace hc:=bp hc))|clear U K)<;>conv=>whnf)
 all_goals exact AI (by simp[*])
def TG {S:Type} (g:FuncId) (fi ca:List V) (H:S→List At) (stp:Int→S→Bool×S) (D:Int→S→Prop) (hx:Cy Tryz.prog (.f (.func g) fi ca) eI H stp D) (xs:List Int) (f:Bool) (s0:S) (hd:RZ stp D xs s0) :
    By Tryz.prog 117 [.l (iL xs) f,.f (.func g) fi ca] (H s0) fun r post=>r= .ret (eI (B8 stp xs 0 s0).1)∧post=H (B8 stp xs 0 s0).2:=by
 intro σ hs;refine A8.fit (by kernel_rfl) fun hf=>?_
 have hxl:=SE hf.1;have hM:=Mx;refine dS kZ ?_
 conv=>whnf
 repeat'((first|apply st|(apply sq;intro K U)|(apply si;intro A B Y Z)|(apply Y;clear Z B Y A)|(apply U;clear U K)|fail)<;>conv=>whnf)
 refine CD xs.length (fun k (_:S)=>[(8,eI (BM k))]) (fun _ s=>H s) (fun k s=>RZ stp D (xs.drop k) s∧B8 stp xs 0 s0=B8 stp (xs.drop k) k s) s0 rfl ⟨hd,rfl⟩ hs ?_;clear hs;rintro k s σ hk ⟨hd,hn⟩ hs;have hck:BM k=k:=AN (by omega);rcases BS xs hk with⟨y,hy,hlt⟩|hke
 ·rw[drop_cons hy]at hn hd
  obtain⟨hd1,hd2⟩:=hd;rw[B8]at hn
  conv=>whnf
  repeat'((first|apply st|(apply sq;intro K U)|(apply si;intro A B Y Z)|(apply Y;clear Z B Y A)|(apply U;clear U K)|refine⟨rfl,?_⟩|refine ix ?_|(refine C8 (fun hc=>?_)<;>(try rw[hc])<;>clear hc)|fail)<;>conv=>whnf)
  refine hx.use hd1 hs ?_;clear hs;intro σ hs
  conv=>whnf
  repeat'((first|apply st|(apply sq;intro K U)|(apply si;intro A B Y Z)|(apply Y;clear Z B Y A)|(apply U;clear U K)|refine⟨rfl,?_⟩|(constructor<;>intro hc<;>(try rw[hc])<;>(replace hc:=bp hc))|clear U K)<;>conv=>whnf)
  ·rw[hc,if_pos rfl]at hn
   rw[hn];exact A5 hs (List.Sublist.refl _) (by rw[hck];exact .refl _) fun σ' hs'=>⟨_,⟨rfl,rfl⟩,hs'⟩
  ·rw[hc,if_neg (by decide)]at hn
   exact⟨hlt,_,rfl,⟨hd2,hn⟩,hs⟩
 ·rw[Al hke,B8]at hn
  conv=>whnf
  repeat'((first|apply st|(apply sq;intro K U)|(apply si;intro A B Y Z)|(apply Y;clear Z B Y A)|(apply U;clear U K)|refine⟨rfl,?_⟩|(refine Es (fun hc=>?_)<;>(try rw[hc])<;>clear hc)|clear U K)<;>conv=>whnf)
  rw[hn];exact A5 hs (List.Sublist.refl _) (.refl _) fun σ' hs'=>⟨_,⟨rfl,rfl⟩,hs'⟩
section
variable {S:Type} (g:FuncId) (fi ca:List V) (H:S→List At)
def Pv (stp:Int→S→Bool×S) (D:Int→S→Prop) (hx:Cy Tryz.prog (.f (.func g) fi ca) eI H stp D) (xs:List Int) (f:Bool) (s0:S) (hd:RZ stp D xs s0) :
    By Tryz.prog 49 [.l (iL xs) f,.f (.func g) fi ca] (H s0) fun r post=>r= .ret (.b (decide ((B8 stp xs 0 s0).1≥0)))∧post=H (B8 stp xs 0 s0).2:=by
 intro σ hs;refine lk kZ ?_
 conv=>whnf
 repeat'((first|(apply sq;intro K U)|(apply si;intro A B Y Z)|(apply Y;clear Z B Y A)|(apply U;clear U K)|fail)<;>conv=>whnf)
 refine(TG g fi ca H stp D hx xs f s0 hd).use (rest:=[]) (by simpa using hs) ?_;rintro r post σ ⟨rfl,rfl⟩ hs
 conv=>whnf
 repeat'((first|apply st|(apply Y;clear Z B Y A)|(apply U;clear U K)|refine⟨rfl,?_⟩|fail)<;>conv=>whnf)
 exact A5 hs (by simp) (.refl _) fun σ' hs'=>⟨_,⟨rfl,rfl⟩,hs'⟩
def oA (stp:Int→S→Bool×S) (D:Int→S→Prop) (hx:Cy Tryz.prog (.f (.func g) fi ca) eI H stp D):Cy Tryz.prog (.f (.func 301) [] [.rp [.f (.func g) fi ca]]) eI H (fun y s=>(!(stp y s).1,(stp y s).2)) D:=by
 intro y s hd σ hs;refine Bs ?_;show A8 Tryz.prog 301 ([]++[eI y]++[.rp [.f (.func g) fi ca]]) σ _;refine dF kZ ?_
 conv=>whnf
 repeat'((first|apply st|(apply sq;intro K U)|(apply si;intro A B Y Z)|(apply Y;clear Z B Y A)|(apply U;clear U K)|fail)<;>conv=>whnf)
 refine hx.use hd hs ?_;clear hs;intro σ hs
 conv=>whnf
 repeat'((first|apply st|(apply Y;clear Z B Y A)|(apply U;clear U K)|fail)<;>conv=>whnf)
 exact A5 hs (List.Sublist.refl _) (.refl _) fun σ' hs'=>⟨rfl,hs'⟩
def dY (stp:Int→S→Bool×S) (D:Int→S→Prop) (hx:Cy Tryz.prog (.f (.func g) fi ca) eI H stp D) (xs:List Int) (f:Bool) (s0:S) (hd:RZ stp D xs s0) :
    By Tryz.prog 246 [.l (iL xs) f,.f (.func g) fi ca] (H s0) fun r post=>r= .ret (.b (Cd stp xs s0).1)∧post=H (Cd stp xs s0).2:=by
 intro σ hs;obtain⟨e1,e2⟩:=Mb (stp:=stp) xs 0 s0;refine dJ kZ ?_
 conv=>whnf
 repeat'((first|(apply sq;intro K U)|(apply si;intro A B Y Z)|(apply Y;clear Z B Y A)|(apply U;clear U K)|fail)<;>conv=>whnf)
 refine(Pv 301 [] [.rp [.f (.func g) fi ca]] H _ D (oA g fi ca H stp D hx) xs f s0 (Sf xs s0 hd)).use (rest:=[]) (by simpa using hs) ?_;rintro r post σ ⟨rfl,rfl⟩ hs;rw[e2];rw[e1]at hs
 conv=>whnf
 repeat'((first|apply st|(apply Y;clear Z B Y A)|(apply U;clear U K)|fail)<;>conv=>whnf)
 exact A5 hs (by simp) (by rw[Bool.not_not];exact .refl _) fun σ' hs'=>⟨_,⟨rfl,rfl⟩,hs'⟩
def TF (stp:Fact→S→Bool×S) (D:Fact→S→Prop) (hx:Cy Tryz.prog (.f (.func g) fi ca) (fun y=> .a (xF y)) H stp D) (xs:List Fact) (f:Bool) (s0:S) (hxl:xs.length≤Aj) (hd:RZ stp D xs s0) :
    By Tryz.prog 330 [.l (facts xs) f,.f (.func g) fi ca] (H s0) fun r post=>r= .ret (eI (B8 stp xs 0 s0).1)∧post=H (B8 stp xs 0 s0).2:=by
 intro σ hs;have hM:=Mx;refine pV kZ ?_
 conv=>whnf
 repeat'((first|apply st|(apply sq;intro K U)|(apply si;intro A B Y Z)|(apply Y;clear Z B Y A)|(apply U;clear U K)|fail)<;>conv=>whnf)
 refine CD xs.length (fun k (_:S)=>[(8,eI (BM k))]) (fun _ s=>H s) (fun k s=>RZ stp D (xs.drop k) s∧B8 stp xs 0 s0=B8 stp (xs.drop k) k s) s0 rfl ⟨hd,rfl⟩ hs ?_;clear hs;rintro k s σ hk ⟨hd,hn⟩ hs;have hck:BM k=k:=AN (by omega);rcases BS xs hk with⟨y,hy,hlt⟩|hke
 ·rw[drop_cons hy]at hn hd
  obtain⟨hd1,hd2⟩:=hd;rw[B8]at hn
  conv=>whnf
  repeat'((first|apply st|(apply sq;intro K U)|(apply si;intro A B Y Z)|(apply Y;clear Z B Y A)|(apply U;clear U K)|refine⟨rfl,?_⟩|refine⟨kZ,?_⟩|refine Nc ?_|(refine C8 (fun hc=>?_)<;>(try rw[hc])<;>clear hc)|fail)<;>conv=>whnf)
  refine hx.use hd1 hs ?_;clear hs;intro σ hs
  conv=>whnf
  repeat'((first|apply st|(apply sq;intro K U)|(apply si;intro A B Y Z)|(apply Y;clear Z B Y A)|(apply U;clear U K)|refine⟨rfl,?_⟩|(constructor<;>intro hc<;>(try rw[hc])<;>(replace hc:=bp hc))|clear U K)<;>conv=>whnf)
  ·rw[hc,if_pos rfl]at hn
   rw[hn];exact A5 hs (List.Sublist.refl _) (by rw[hck];exact .refl _) fun σ' hs'=>⟨_,⟨rfl,rfl⟩,hs'⟩
  ·rw[hc,if_neg (by decide)]at hn
   exact⟨hlt,_,rfl,⟨hd2,hn⟩,hs⟩
 ·rw[Al hke,B8]at hn
  conv=>whnf
  repeat'((first|apply st|(apply sq;intro K U)|(apply si;intro A B Y Z)|(apply Y;clear Z B Y A)|(apply U;clear U K)|refine⟨rfl,?_⟩|(refine Es (fun hc=>?_)<;>(try rw[hc])<;>clear hc)|clear U K)<;>conv=>whnf)
  rw[hn];exact A5 hs (List.Sublist.refl _) (.refl _) fun σ' hs'=>⟨_,⟨rfl,rfl⟩,hs'⟩
def IS (stp:Fact→S→Bool×S) (D:Fact→S→Prop) (hx:Cy Tryz.prog (.f (.func g) fi ca) (fun y=> .a (xF y)) H stp D) (xs:List Fact) (f:Bool) (s0:S) (hxl:xs.length≤Aj) (hd:RZ stp D xs s0) :
    By Tryz.prog 291 [.l (facts xs) f,.f (.func g) fi ca] (H s0) fun r post=>r= .ret (.b (decide ((B8 stp xs 0 s0).1≥0)))∧post=H (B8 stp xs 0 s0).2:=by
 intro σ hs;refine qE kZ ?_
 conv=>whnf
 repeat'((first|(apply sq;intro K U)|(apply si;intro A B Y Z)|(apply Y;clear Z B Y A)|(apply U;clear U K)|fail)<;>conv=>whnf)
 refine(TF g fi ca H stp D hx xs f s0 hxl hd).use (rest:=[]) (by simpa using hs) ?_;rintro r post σ ⟨rfl,rfl⟩ hs
 conv=>whnf
 repeat'((first|apply st|(apply Y;clear Z B Y A)|(apply U;clear U K)|refine⟨rfl,?_⟩|fail)<;>conv=>whnf)
 exact A5 hs (by simp) (.refl _) fun σ' hs'=>⟨_,⟨rfl,rfl⟩,hs'⟩
def n9 (stp:Fact→S→Bool×S) (D:Fact→S→Prop) (hx:Cy Tryz.prog (.f (.func g) fi ca) (fun y=> .a (xF y)) H stp D):Cy Tryz.prog (.f (.func 302) [] [.rp [.f (.func g) fi ca]]) (fun y=> .a (xF y)) H (fun y s=>(!(stp y s).1,(stp y s).2)) D:=by
 intro y s hd σ hs;refine Bs ?_;show A8 Tryz.prog 302 ([]++[.a (xF y)]++[.rp [.f (.func g) fi ca]]) σ _;refine pw kZ ?_
 conv=>whnf
 repeat'((first|apply st|(apply sq;intro K U)|(apply si;intro A B Y Z)|(apply Y;clear Z B Y A)|(apply U;clear U K)|refine⟨kZ,?_⟩|fail)<;>conv=>whnf)
 refine hx.use hd hs ?_;clear hs;intro σ hs
 conv=>whnf
 repeat'((first|apply st|(apply Y;clear Z B Y A)|(apply U;clear U K)|fail)<;>conv=>whnf)
 exact A5 hs (List.Sublist.refl _) (.refl _) fun σ' hs'=>⟨rfl,hs'⟩
def dX (stp:Fact→S→Bool×S) (D:Fact→S→Prop) (hx:Cy Tryz.prog (.f (.func g) fi ca) (fun y=> .a (xF y)) H stp D) (xs:List Fact) (f:Bool) (s0:S) (hxl:xs.length≤Aj) (hd:RZ stp D xs s0) :
    By Tryz.prog 248 [.l (facts xs) f,.f (.func g) fi ca] (H s0) fun r post=>r= .ret (.b (Cd stp xs s0).1)∧post=H (Cd stp xs s0).2:=by
 intro σ hs;obtain⟨e1,e2⟩:=Mb (stp:=stp) xs 0 s0;refine qZ kZ ?_
 conv=>whnf
 repeat'((first|(apply sq;intro K U)|(apply si;intro A B Y Z)|(apply Y;clear Z B Y A)|(apply U;clear U K)|fail)<;>conv=>whnf)
 refine(IS 302 [] [.rp [.f (.func g) fi ca]] H _ D (n9 g fi ca H stp D hx) xs f s0 hxl (Sf xs s0 hd)).use (rest:=[]) (by simpa using hs) ?_;rintro r post σ ⟨rfl,rfl⟩ hs;rw[e2];rw[e1]at hs
 conv=>whnf
 repeat'((first|apply st|(apply Y;clear Z B Y A)|(apply U;clear U K)|fail)<;>conv=>whnf)
 exact A5 hs (by simp) (by rw[Bool.not_not];exact .refl _) fun σ' hs'=>⟨_,⟨rfl,rfl⟩,hs'⟩
end
abbrev T0 (f:Int→Bool):Int→Unit→Bool×Unit:=fun y _=>(f y,())
def Wm {g:FuncId} {fi ca:List V} {f:Int→Bool} {D:Int→Unit→Prop} (h: ∀y,D y ()→Pure Tryz.prog g (fi++[eI y]++ca) (.b (f y))):Cy Tryz.prog (.f (.func g) fi ca) eI (fun _=>[]) (T0 f) D:=by
 intro y s hd σ hs;refine Bs ?_;show A8 Tryz.prog g (fi++[eI y]++ca) σ _;refine A8.mono ((h y hd).use (k:=fun v σ'=>v= .b (f y)∧Sat σ' []) (kp:=fun _ _=>False) ⟨rfl,Sat.nil⟩) ?_;rintro(v|v) σ' hq
 ·obtain⟨rfl,h⟩:=hq
  exact⟨rfl,h⟩
 ·exact hq.elim
def kQ {g:FuncId} {fi ca:List V} {f:Int→Bool} {xs:List Int} (b:Bool) (h: ∀y∈xs,Pure Tryz.prog g (fi++[eI y]++ca) (.b (f y))):Pure Tryz.prog 246 [.l (iL xs) b,.f (.func g) fi ca] (.b (xs.all f)):=by
 have:=dY g fi ca (fun _=>[]) (T0 f) (fun y _=>y∈xs) (Wm fun y hy=>h y hy) xs b () (L2 fun y hy _=>hy);rw[JU]at this;exact Pure.of (A8.mono (this emp Sat.nil) fun r σ' ⟨post,⟨h1,h2⟩,h3⟩=>h1)
def UG (g:FuncId) (fi ca:List V) (f:Int→Bool):Prop:= ∀y:Int,Pure Tryz.prog g (fi++[eI y]++ca) (.b (f y))
def UG.use {g:FuncId} {fi ca:List V} {f:Int→Bool} (h:UG g fi ca f) {y:Int} {σ:AH} {k kp:V→AH→Prop} (hk:k (.b (f y)) σ):Aw Tryz.prog (.f (.func g) fi ca) [eI y] σ (qk k kp):=Bs ((h y).use hk)
def jP (g:FuncId) (fi ca:List V) (L:List At) (p:Int→Bool) (hx:Cy Tryz.prog (.f (.func g) fi ca) eI (fun _:Unit=>L) (T0 p) (fun _ _=>True)) (xs:List Int) (f:Bool):By Tryz.prog 380 [.l (iL xs) f,.f (.func g) fi ca] L fun r post=>r= .ret (.l (iL (xs.filter p)) false)∧post=L:=by
 intro σ hs;refine A8.fit (by kernel_rfl) fun hf=>?_
 have hxl:=SE hf.1;have hM:=Mx;refine dC kZ ?_
 conv=>whnf
 repeat'((first|apply st|(apply sq;intro K U)|(apply si;intro A B Y Z)|(apply Y;clear Z B Y A)|(apply U;clear U K)|fail)<;>conv=>whnf)
 refine CD xs.length (fun k v=>[(5,v),(10,eI (BM k))]) (fun k v=>L++[.own v 1 (iL ((xs.take k).filter p))]) (fun _ _=>True) (.l [] true) rfl trivial (Ed hs 1) ?_;clear hs;rintro k v σ hk - hs;have hfl:=QJ p (xs.take k);rw[Mo]at hfl;rcases BS xs hk with⟨y,hy,hlt⟩|hke
 ·have hst:(xs.take (k+1)).filter p=if p y then(xs.take k).filter p++[y]else(xs.take k).filter p:=by
   rw[AR hy,List.filter_append];cases hp:p y<;>simp[hp]
  generalize (xs.take k).filter p=zs at *
  conv=>whnf
  repeat'((first|apply st|(apply sq;intro K U)|(apply si;intro A B Y Z)|(apply Y;clear Z B Y A)|(apply U;clear U K)|refine⟨rfl,?_⟩|refine ix ?_|(refine C8 (fun hc=>?_)<;>(try rw[hc])<;>clear hc)|refine hx.u0 (s:=()) (rest:=[_]) trivial hs (fun σ hs=>?_)|(constructor<;>intro hc<;>(try rw[hc])<;>(replace hc:=bp hc)<;>(try simp(disch:=omega) only[BW,wrap64,AN]at hc))|clear U K)<;>conv=>whnf)
  ·refine GF (Fc hs L.length (xs:=zs) (x:=y) List.getElem?_concat_length (by omega) Cr fun v' σ' hs' hsl=>?_)
   rw[List.set_append_right _ _ (He _),Nat.sub_self]at hs';replace hs:=hs'
   conv=>whnf
   repeat'((first|(apply si;intro A B Y Z)|(apply Y;clear Z B Y A)|(apply U;clear U K)|refine⟨rfl,?_⟩|clear U K)<;>conv=>whnf)
   rw[if_pos (by assumption)]at hst;exact⟨hlt,_,rfl,trivial,by rw[hst];exact hs⟩
  ·rw[if_neg (by simp[*])]at hst
   exact⟨hlt,_,rfl,trivial,by rw[hst];exact hs⟩
 ·conv=>whnf
  repeat'((first|apply st|(apply sq;intro K U)|(apply si;intro A B Y Z)|(apply Y;clear Z B Y A)|(apply U;clear U K)|refine⟨rfl,?_⟩|(refine Es (fun hc=>?_)<;>(try rw[hc])<;>clear hc)|clear U K)<;>conv=>whnf)
  rw[Av hke]at hs;obtain⟨σ2,h1,h2,h3⟩:=OH hs L.length List.getElem?_concat_length;refine Hu h1 h2 ⟨_,⟨rfl,rfl⟩,?_⟩;rw[List.eraseIdx_append_of_length_le (He _),Nat.sub_self]at h3;simpa using h3
def fF (g:FuncId) (fi ca:List V) (p:Int→Bool) (hpf:UG g fi ca p) (xs:List Int) (u:V) (hxl:xs.length≤Aj):By Tryz.prog 380 [u,.f (.func g) fi ca] [.own u 1 (iL xs)] fun r post=>r= .ret (.l (iL (xs.filter p)) false)∧post= [.own u 1 (iL xs)]:=by
 intro σ hs;have hM:=Mx;refine dC kZ ?_
 conv=>whnf
 repeat'((first|apply st|(apply sq;intro K U)|(apply si;intro A B Y Z)|(apply Y;clear Z B Y A)|(apply U;clear U K)|refine lo ?_|fail)<;>conv=>whnf)
 refine CD xs.length (fun k v=>[(5,v),(10,eI (BM k))]) (fun k v=>[.own u 1 (iL xs),.own v 1 (iL ((xs.take k).filter p))]) (fun _ _=>True) (.l [] true) rfl trivial (Ed hs 1) ?_;clear hs;rintro k v σ hk - hs;have hfl:=QJ p (xs.take k);rw[Mo]at hfl;rcases BS xs hk with⟨y,hy,hlt⟩|hke
 ·have hst:(xs.take (k+1)).filter p=if p y then(xs.take k).filter p++[y]else(xs.take k).filter p:=by
   rw[AR hy,List.filter_append];cases hp:p y<;>simp[hp]
  generalize (xs.take k).filter p=zs at *
  conv=>whnf
  repeat'((first|apply st|(apply sq;intro K U)|(apply si;intro A B Y Z)|(apply Y;clear Z B Y A)|(apply U;clear U K)|refine⟨rfl,?_⟩|refine oc ?_|refine Vp ?_|refine aq fun v σ hs hsl=>?_|(refine C8 (fun hc=>?_)<;>(try rw[hc])<;>clear hc)|refine UG.use hpf ?_|(constructor<;>intro hc<;>(try rw[hc])<;>(replace hc:=bp hc))|clear U K)<;>conv=>whnf)
  ·rw[if_pos (by assumption)]at hst
   exact⟨hlt,_,rfl,trivial,by rw[hst];exact hs.take 2⟩
  ·rw[if_neg (by simp[*])]at hst
   exact⟨hlt,_,rfl,trivial,by rw[hst];exact hs.take 2⟩
 ·conv=>whnf
  repeat'((first|apply st|(apply sq;intro K U)|(apply si;intro A B Y Z)|(apply Y;clear Z B Y A)|(apply U;clear U K)|refine⟨rfl,?_⟩|(refine Es (fun hc=>?_)<;>(try rw[hc])<;>clear hc)|clear U K)<;>conv=>whnf)
  rw[Av hke]at hs;obtain⟨σ2,h1,h2,h3⟩:=OH hs 1 rfl;exact Hu h1 h2 ⟨_,⟨rfl,rfl⟩,h3⟩
def tK:UG 382 [] [] (· != 0):=by
 intro y;refine om kZ ?_;have hs:=Sn
 conv=>whnf
 repeat'((first|apply st|(apply sq;intro K U)|(apply si;intro A B Y Z)|(apply Y;clear Z B Y A)|(apply U;clear U K)|refine⟨rfl,?_⟩|fail)<;>conv=>whnf)
 all_goals exact AI rfl
def fq (xs:List Int) (u:V) (hxl:xs.length≤Aj):By Tryz.prog 379 [u] [.own u 1 (iL xs)] fun r post=>r= .ret (.l (iL (xs.filter (· != 0))) false)∧post= [.own u 1 (iL xs)]:=by
 intro σ hs;refine oq kZ ?_
 conv=>whnf
 repeat'((first|(apply sq;intro K U)|(apply si;intro A B Y Z)|(apply Y;clear Z B Y A)|(apply U;clear U K)|fail)<;>conv=>whnf)
 refine(fF 382 [] [] (· != 0) tK xs u hxl).use (rest:=[]) hs ?_;clear hs;rintro r post σ ⟨rfl,rfl⟩ hs
 conv=>whnf
 repeat'((first|apply st|(apply Y;clear Z B Y A)|(apply U;clear U K)|fail)<;>conv=>whnf)
 exact A5 hs (by simp) (.refl _) fun σ' hs'=>⟨_,⟨rfl,rfl⟩,hs'⟩
def Yf (g : List (List Int)) (f:Bool):Pure Tryz.prog 352 [.l (EX g) f] (.b (Df g)):=by
 refine Pure.fit (by kernel_rfl) fun hf=>?_
 have⟨g1,g2⟩:=SD hf.1;have hM:=Mx;refine pK kZ ?_;have hs:=Sn;by_cases h16:g.length≤16
 ·conv=>whnf
  repeat'((first|apply st|(apply sq;intro K U)|(apply si;intro A B Y Z)|(apply Y;clear Z B Y A)|(apply U;clear U K)|refine⟨rfl,?_⟩|(constructor<;>intro hc<;>(try rw[hc])<;>(replace hc:=bp hc)<;>(try simp(disch:=omega) only[BW,wrap64,AN]at hc)<;>try(exfalso;omega))|fail)<;>conv=>whnf)
  all_goals try(exfalso;omega)
  refine CD g.length (fun k (_:Unit)=>[(12,eI (BM k))]) (fun _ _=>[]) (fun k _=>Df g=ID k (g.drop k)) () rfl (by simp[Df,h16]) hs ?_;clear hs;rintro k - σ hk hn hs;have hck:BM k=k:=AN (by omega);rcases BS g hk with⟨l,hl,hlt⟩|hke
  ·have hll:=g2 l (Ck hl)
   rw[drop_cons hl,ID]at hn;by_cases h3:l.length≤3
   ·rw[decide_eq_true h3,I8]at hn
    conv=>whnf
    repeat'((first|apply st|(apply sq;intro K U)|(apply si;intro A B Y Z)|(apply Y;clear Z B Y A)|(apply U;clear U K)|refine⟨rfl,?_⟩|refine ix ?_|(refine C8 (fun hc=>?_)<;>(try rw[hc])<;>clear hc)|(constructor<;>intro hc<;>(try rw[hc])<;>(replace hc:=bp hc)<;>(try simp(disch:=omega) only[BW,wrap64,AN]at hc)<;>try(exfalso;omega))|fail)<;>conv=>whnf)
    all_goals try(exfalso;omega)
    refine CD l.length (fun j (_:Unit)=>[(22,eI (BM j))]) (fun _ _=>[]) (fun j _=>Df g=(Lv k (l.take j) (l.drop j)&&ID (k+1) (g.drop (k+1)))) () rfl hn hs ?_;clear hs hn;rintro j - σ hj hn hs;rcases BS l hj with⟨c,hc0,hjlt⟩|hje
    ·rw[drop_cons hc0,Lv,mL]at hn
     have hw:IntKind.i64.wrap (3+BM k)=3+(k:Int):=by rw[hck,wrap64 (by omega) (by omega)]
     conv=>whnf
     repeat'((first|apply st|(apply sq;intro K U)|(apply si;intro A B Y Z)|(apply Y;clear Z B Y A)|(apply U;clear U K)|refine⟨rfl,?_⟩|refine ix ?_|refine uf ?_|(refine C8 (fun hc=>?_)<;>(try rw[hc])<;>clear hc)|refine Pure.use (Dp _ _ _) ?_|(constructor<;>intro hc<;>(try rw[hc])<;>(replace hc:=bp hc)<;>(try simp(disch:=omega) only[BW,wrap64,AN]at hc))|clear U K)<;>conv=>whnf)
     ·exact AI (by rw[hn,hc];simp)
     ·exact⟨hjlt,(),rfl,by rw[hn,hc,AR hc0];simp[*],hs⟩
     ·exact AI (by(rw[hn];have: ¬c<3+(k:Int):=by omega);simp[this])
     ·exact AI (by(rw[hn];have: ¬3≤c:=by omega);simp[this])
    ·conv=>whnf
     repeat'((first|apply st|(apply sq;intro K U)|(apply si;intro A B Y Z)|(apply Y;clear Z B Y A)|(apply U;clear U K)|refine⟨rfl,?_⟩|(refine Es (fun hc=>?_)<;>(try rw[hc])<;>clear hc)|clear U K)<;>conv=>whnf)
     exact⟨hlt,(),rfl,by rw[hn,Al hje];rfl,hs⟩
   ·conv=>whnf
    repeat'((first|apply st|(apply sq;intro K U)|(apply si;intro A B Y Z)|(apply Y;clear Z B Y A)|(apply U;clear U K)|refine⟨rfl,?_⟩|refine ix ?_|(refine C8 (fun hc=>?_)<;>(try rw[hc])<;>clear hc)|(constructor<;>intro hc<;>(try rw[hc])<;>(replace hc:=bp hc)<;>(try simp(disch:=omega) only[BW,wrap64,AN]at hc)<;>try(exfalso;omega))|clear U K)<;>conv=>whnf)
    all_goals try(exfalso;omega)
    exact AI (by rw[hn];simp[h3])
  ·conv=>whnf
   repeat'((first|apply st|(apply sq;intro K U)|(apply si;intro A B Y Z)|(apply Y;clear Z B Y A)|(apply U;clear U K)|refine⟨rfl,?_⟩|(refine Es (fun hc=>?_)<;>(try rw[hc])<;>clear hc)|clear U K)<;>conv=>whnf)
   exact AI (by rw[hn,Al hke];rfl)
 ·conv=>whnf
  repeat'((first|apply st|(apply sq;intro K U)|(apply si;intro A B Y Z)|(apply Y;clear Z B Y A)|(apply U;clear U K)|refine⟨rfl,?_⟩|(constructor<;>intro hc<;>(try rw[hc])<;>(replace hc:=bp hc)<;>(try simp(disch:=omega) only[BW,wrap64,AN]at hc)<;>try(exfalso;omega))|clear U K)<;>conv=>whnf)
  all_goals try(exfalso;omega)
  exact AI (by simp[Df,h16])
def U6 (g:List (List Int)) (f:Bool):Pure Tryz.prog 323 [.l (EX g) f] (eI (if Df g then 0 else 2)):=by
 refine pc kZ ?_;have hs:=Sn
 conv=>whnf
 repeat'((first|apply st|(apply sq;intro K U)|(apply si;intro A B Y Z)|(apply Y;clear Z B Y A)|(apply U;clear U K)|refine Pure.use (Yf _ _) ?_|(constructor<;>intro hc<;>(try rw[hc])<;>(replace hc:=bp hc))|clear U K)<;>conv=>whnf)
 all_goals exact AI (by simp[*])
def tL (n:Nat) (h:Int):Cy Tryz.prog (.f (.func 381) [] [.p n 0]) eI (fun _:Unit=>[.box n [eI h]]) (T0 (· != h)) (fun _ _=>True):=by
 intro y s _ σ hs;refine Bs ?_;show A8 Tryz.prog 381 ([]++[eI y]++[.p n 0]) σ _;refine oo kZ ?_
 conv=>whnf
 repeat'((first|apply st|(apply sq;intro K U)|(apply si;intro A B Y Z)|(apply Y;clear Z B Y A)|(apply U;clear U K)|refine⟨rfl,?_⟩|refine ld ?_|fail)<;>conv=>whnf)
 exact A5 hs (List.Sublist.refl _) (.refl _) fun σ' hs'=>⟨rfl,hs'⟩
def aF (ls:List (List Int)):Ey ls []=false:=rfl
def XE (ls:List (List Int)) (x:Int) (r:List Int):Ey ls (x::r)=free ls x:=rfl
def aK {α:Type} {p:α→Bool} {xs:List α} {k:Nat} {x:α} (hx:xs[k]? =some x) (h:(xs.take k).find? p=none):(xs.take (k+1)).find? p=if p x then some x else none:=by
 rw[AR hx,List.find?_append,h];simp only[List.find?_cons,List.find?_nil,Option.none_or];cases p x<;>rfl
def aJ {α:Type} {p:α→Bool} {xs:List α} {k:Nat} {x:α} (h:(xs.take k).find? p=some x):xs.find? p=some x:=by
 conv=>lhs;rw[←List.take_append_drop k xs]
 rw[List.find?_append,h];rfl
def YE (ls:List (List Int)):pick ls=(ls.find? (Ey ls)).bind List.head? :=rfl
set_option maxHeartbeats 4000000 in
def ep (ls:List (List Int)) (f:Bool) (hok:Lq ls) (ht:total ls<Aj):Pure Tryz.prog 377 [.l (EX ls) f] (.t [.l (iL (CC ls).1) false,.b (CC ls).2]):=by
 have hM:=Mx;refine ou kZ ?_;have hs:=Sn
 conv=>whnf
 repeat'((first|apply st|(apply sq;intro K U)|(apply si;intro A B Y Z)|(apply Y;clear Z B Y A)|(apply U;clear U K)|fail)<;>conv=>whnf)
 refine It (fun(x:List (List Int)×Bool×V×List Int)=>total x.1) (fun x=>[(0,.l (EX x.1) x.2.1),(4,x.2.2.1)]) (fun x=>[.own x.2.2.1 1 (iL x.2.2.2)])
  (fun x=>Lq x.1∧x.2.2.2.length+total x.1≤total ls∧DC (total x.1) x.1 x.2.2.2=CC ls) (ls,f,.l [] true,[]) rfl ⟨hok,by simp,rfl⟩ (Ed hs 1) ?_
 clear hs;rintro⟨ls',f',v,out⟩ σ ⟨hok',hlen,hm⟩ hs;dsimp only at hok' hlen hm hs;dsimp only;have hol:=hok'.1
 conv=>whnf
 repeat'((first|apply st|(apply sq;intro K U)|(apply si;intro A B Y Z)|(apply Y;clear Z B Y A)|(apply U;clear U K)|fail)<;>conv=>whnf)
 refine CD ls'.length (fun k (t:Bool)=>[(5,.b t),(16,eI (BM k))]) (fun _ _=>[.own v 1 (iL out)]) (fun k t=>(ls'.take k).find? (Ey ls')=none∧t=(ls'.take k).any fun l=> !l.isEmpty) false rfl ⟨rfl,rfl⟩ hs ?_;clear hs;rintro k t σ hk ⟨hfd,hta⟩ hs;rcases BS ls' hk with⟨l,hl,hlt⟩|hke
 ·have hfs:=aK (p:=Ey ls') hl hfd
  have has:((ls'.take (k+1)).any fun l=> !l.isEmpty)=(t|| !l.isEmpty):=by rw[AR hl,List.any_append,←hta];simp
  have hb:=hok'.2 _ (Ck hl);cases l with
  | nil=>
    have hnl:([]:List Int).length=0:=rfl;rw[aF,if_neg (by decide)]at hfs
    conv=>whnf
    repeat'((first|apply st|(apply sq;intro K U)|(apply si;intro A B Y Z)|(apply Y;clear Z B Y A)|(apply U;clear U K)|refine⟨rfl,?_⟩|refine ix ?_|(refine C8 (fun hc=>?_)<;>(try rw[hc])<;>clear hc)|(constructor<;>intro hc<;>(try rw[hc])<;>(replace hc:=bp hc)<;>(try simp(disch:=omega) only[BW,wrap64,AN]at hc)<;>try(exfalso;omega))|clear U K)<;>conv=>whnf)
    exact⟨hlt,_,rfl,⟨hfs,by rw[has];simp⟩,hs⟩
  | cons x r=>
    have hx0:(x::r)[Int.toNat 0]? =some x:=rfl;have hnl:(x::r).length=r.length+1:=rfl;rw[XE]at hfs;simp only[List.isEmpty_cons,Bool.not_false,Bool.or_true]at has
    conv=>whnf
    repeat'((first|apply st|(apply sq;intro K U)|(apply si;intro A B Y Z)|(apply Y;clear Z B Y A)|(apply U;clear U K)|refine⟨rfl,?_⟩|refine ix ?_|(refine C8 (fun hc=>?_)<;>(try rw[hc])<;>clear hc)|(constructor<;>intro hc<;>(try rw[hc])<;>(replace hc:=bp hc)<;>(try simp(disch:=omega) only[BW,wrap64,AN]at hc)<;>try(exfalso;omega))|fail)<;>conv=>whnf)
    refine CD ls'.length (fun j (_:Unit)=>[(25,eI (BM j))]) (fun _ _=>[.own v 1 (iL out)]) (fun j _=>free ls' x=(ls'.drop j).all fun m=> !(m.drop 1).contains x) () rfl rfl hs ?_;clear hs;rintro j - σ hj hfr hs;rcases BS ls' hj with⟨m,hm0,hjlt⟩|hje
    ·have hmb:=(hok'.2 _ (Ck hm0)).1
     rw[drop_cons hm0,NN]at hfr;cases m with
     | nil=>
       have hml:([]:List Int).length=0:=rfl
       conv=>whnf
       repeat'((first|apply st|(apply sq;intro K U)|(apply si;intro A B Y Z)|(apply Y;clear Z B Y A)|(apply U;clear U K)|apply dr|refine⟨rfl,?_⟩|refine ix ?_|(refine C8 (fun hc=>?_)<;>(try rw[hc])<;>clear hc)|(constructor<;>intro hc<;>(try rw[hc])<;>(replace hc:=bp hc)<;>(try simp(disch:=omega) only[BW,wrap64,AN]at hc)<;>try(exfalso;omega))|clear U K)<;>conv=>whnf)
       exact⟨hjlt,(),rfl,by rw[hfr];rfl,hs⟩
     | cons y s=>
       have hml:(y::s).length=s.length+1:=rfl
       conv=>whnf
       repeat'((first|apply st|(apply sq;intro K U)|(apply si;intro A B Y Z)|(apply Y;clear Z B Y A)|(apply U;clear U K)|apply dr|refine⟨rfl,?_⟩|refine ix ?_|(refine C8 (fun hc=>?_)<;>(try rw[hc])<;>clear hc)|(constructor<;>intro hc<;>(try rw[hc])<;>(replace hc:=bp hc)<;>(try simp(disch:=omega) only[BW,wrap64,AN]at hc)<;>try(exfalso;omega))|fail)<;>conv=>whnf)
       refine UW 1 rfl (by omega) (fun _=>rfl) ?_
       conv=>whnf
       repeat'((first|apply st|(apply si;intro A B Y Z)|(apply Y;clear Z B Y A)|(apply U;clear U K)|apply dr|refine⟨rfl,?_⟩|refine TX ?_|refine Pure.use (Dp _ _ _) ?_|(constructor<;>intro hc<;>(try rw[hc])<;>(replace hc:=bp hc))|clear U K)<;>conv=>whnf)
       ·rw[hc]at hfr
        have hfr2:free ls' x=false:=by rw[hfr];rfl
        rw[hfr2,if_neg (by decide)]at hfs;exact⟨hlt,true,rfl,⟨hfs,by rw[has]⟩,hs⟩
       ·exact⟨hjlt,(),rfl,by rw[hfr,hc];rfl,hs⟩
    ·rw[Al hje]at hfr
     have hgood:free ls' x=true:=hfr;rw[hgood,if_pos rfl]at hfs;have hp:pick ls'=some x:=by rw[YE,aJ hfs];rfl
     have htp:=Hw hp
     conv=>whnf
     repeat'((first|apply st|(apply sq;intro K U)|(apply si;intro A B Y Z)|(apply Y;clear Z B Y A)|(apply U;clear U K)|refine⟨rfl,?_⟩|refine TX ?_|refine ld ?_|refine s1 fun σ hs=>?_|refine aq fun v σ hs hsl=>?_|(refine Es (fun hc=>?_)<;>(try rw[hc])<;>clear hc)|(intro nn hnn;generalize hg:Az _ nn _=σ;refine al hg fun hs=>?_;clear hg)|clear U K)<;>conv=>whnf)
     have hs2:Sat σ [.own v 1 (iL (out++[x])),.box nn [eI x]]:=hs;refine CD ls'.length (fun k u=>[(11,u),(50,eI (BM k))]) (fun k u=>[.own v 1 (iL (out++[x])),.box nn [eI x],.own u 1 (EX ((ls'.take k).map fun l=>l.filter (· != x)))]) (fun _ _=>True) (.l [] true) rfl trivial (Ed hs2 1) ?_;clear hs hs2;rintro q u σ hq - hs;rcases BS ls' hq with⟨w,hw,hqlt⟩|hqe
     ·conv=>whnf
      repeat'((first|apply st|(apply sq;intro K U)|(apply si;intro A B Y Z)|(apply Y;clear Z B Y A)|(apply U;clear U K)|refine⟨rfl,?_⟩|refine ix ?_|(refine C8 (fun hc=>?_)<;>(try rw[hc])<;>clear hc)|fail)<;>conv=>whnf)
      refine(jP 381 [] [.p nn 0] [.box nn [eI x]] (· != x) (tL nn x) w false).use (rest:=[_,_]) (hs.perm (.swap _ _ _)) ?_;clear hs;rintro rr post σ ⟨rfl,rfl⟩ hs
      conv=>whnf
      repeat'((first|(apply si;intro A B Y Z)|(apply Y;clear Z B Y A)|(apply U;clear U K)|refine⟨rfl,?_⟩|refine aq fun v σ hs hsl=>?_|clear U K)<;>conv=>whnf)
      refine⟨hqlt,_,rfl,trivial,?_⟩;rw[AR hw,Pw];exact hs.perm (.swap _ _ _)
     ·conv=>whnf
      repeat'((first|apply st|(apply sq;intro K U)|(apply si;intro A B Y Z)|(apply Y;clear Z B Y A)|(apply U;clear U K)|refine⟨rfl,?_⟩|(refine Es (fun hc=>?_)<;>(try rw[hc])<;>clear hc)|clear U K)<;>conv=>whnf)
      rw[Av hqe]at hs;refine mb hs 2 rfl fun σ' hs'=>?_
      conv=>whnf
      repeat'((first|apply st|(apply Y;clear Z B Y A)|(apply U;clear U K)|clear U K)<;>conv=>whnf)
      refine⟨(ls'.map fun l=>l.filter (· != x),false,v,out++[x]),htp,rfl,⟨hok'.filter x,by simp;omega,?_⟩,hs'.take 1⟩;rw[←M9 hp];exact hm
 ·rw[Av hke]at hfd hta
  have hp:pick ls'=none:=by rw[YE,hfd];rfl
  rw[PW hp]at hm
  conv=>whnf
  repeat'((first|apply st|(apply sq;intro K U)|(apply si;intro A B Y Z)|(apply Y;clear Z B Y A)|(apply U;clear U K)|refine⟨rfl,?_⟩|(refine Es (fun hc=>?_)<;>(try rw[hc])<;>clear hc)|clear U K)<;>conv=>whnf)
  refine An ?_;rw[←hm];refine .t (.cons (hs.G7 0 rfl) (.cons ?_ .nil));have:(!t)=ls'.all List.isEmpty:=by rw[hta];simp[List.all_eq_not_any_not]
  rw[←this];exact .refl _
end Go.Gl
namespace Go.Gl
variable {P:Program} {σ:AH}
def Sat.sV {l:List At} {a:At} (h:Sat σ (l++[a])):Sat σ (a::l):=h.perm (by
 have:=TO (l₁:=l) (l₂:=[a])
 simpa using this)
def FN {l:List At} (h:Sat σ l) (sz:Nat):Sat σ (.own (.l [] true) sz []::l):=(Ed h sz).sV
def lQ {l:List At} (h:Sat σ l) {sz:Nat} {es:List (List V)} (hs: ∀e∈es,e.length=sz):Sat σ (.own (.l es true) sz es::l):=(gi h hs).sV
def CN {l:List At} {o:O} {n:Nat} {K:Prop} {σ':AH} (e:Az σ n o=σ') (hk:Sat σ' (.obj n o::l)→K) (hn:σ n=none:=by assumption) (h:Sat σ l:=by assumption):K:=hk (e ▸ (bZ h hn).sV)
def KJ {α:Type}: ∀ {l:List α} {j:Nat} {a:α},l[j]? =some a→l.Perm (a::l.eraseIdx j)
 | x::r,0,a,h=>by simp at h;subst h;simp
 | x::r,j+1,a,h=>by
   simp only[sH]at h;simp only[List.eraseIdx_cons_succ];exact((KJ h).cons x).trans (.swap _ _ _)
def Sat.front {l:List At} {j:Nat} {a:At} (h:Sat σ l) (hj:l[j]? =some a):Sat σ (a::l.eraseIdx j):=h.perm (KJ hj)
def Sat.back {l:List At} {j:Nat} {a:At} (h:Sat σ (a::l.eraseIdx j)) (hj:l[j]? =some a):Sat σ l:=h.perm (KJ hj).symm
def By.k7 {f:FuncId} {args:List V} {a:At} {Φ:R→Prop} (h:By P f args [a] fun r post=>Φ r∧post= [a]) {l:List At} {j:Nat} (hs:Sat σ l) (hj:l[j]? =some a) {Q:R→AH→Prop} (hk: ∀r σ',Φ r→Sat σ' l→Q r σ'):A8 P f args σ Q:=by
 refine h.use (rest:=l.eraseIdx j) (hs.front hj) ?_;rintro r post σ' ⟨hr,rfl⟩ hs';exact hk r σ' hr (Sat.back hs' hj)
def IA {l:List At} {i n off:Nat} {vs:List V} {x:V} {K:AH→Prop} (hk: ∀σ',Sat σ' (l.set i (.box n (vs.set off x)))→K σ') (h:Sat σ l:=by assumption)
    (hi:l[i]? =some (.box n vs):=by first|exact Rg|exact Rf|exact Re|exact Rc|exact Rb|exact Ra)
    (h1:CE x=true:=by first|rfl|exact Ft (by assumption) 0 rfl|exact Ft (by assumption) 1 rfl|exact Ft (by assumption) 2 rfl|exact Ft (by assumption) 3 rfl|(simp<;>fail)) (ho:off+1≤vs.length:=by exact Nat.le_of_ble_eq_true rfl):AU σ 1 (.p n off) x K:=
 K2 h i hi h1 ho hk
def CX {l:List At} {i n off sz:Nat} {vs vc:List V} {x:V} {K:AH→Prop} (hk: ∀σ',Sat σ' (l.set i (.box n (putAt vs off vc)))→K σ') (h:Sat σ l:=by assumption)
    (hi:l[i]? =some (.box n vs):=by first|exact Rg|exact Rf|exact Re|exact Rc|exact Rb|exact Ra)
    (hc:cellsOf x=some vc:=by rfl) (hl:vc.length=sz:=by rfl) (h1:vc.all CE=true:=by first|rfl|(simp<;>fail)|(simp[*]<;>fail)) (ho:off+sz≤vs.length:=by exact Nat.le_of_ble_eq_true rfl):AU σ sz (.p n off) x K:=
 F4 h i hi hc hl h1 ho hk
def mJ {sz m n o:Nat} {ki:IntKind} {j:Int} {K:V→Prop} (h:K (.p n (o+j.toNat*sz))) (h0:0≤j:=by omega) (h1:j<m:=by omega):AT sz (some m) (.p n o) (.i ki j) K:=⟨h0,h1,h⟩
def zG {sz m:Nat} {cs:List V} {ki:IntKind} {j:Int} {K:V→Prop} (h:K (.rp (cs.drop (j.toNat*sz)))) (h0:0≤j:=by omega) (h1:j<m:=by omega):AT sz (some m) (.rp cs) (.i ki j) K:=⟨h0,h1,h⟩
def oJ {l:List At} (h:Sat σ l) (i:Nat) {v:V} {sz:Nat} {es es':List (List V)} (hi:l[i]? =some (.own v sz es)) (he: ∀σ2,E3 σ σ2 es es'): ∃σ2,Sub σ2 σ∧FF σ σ2 v (.l es' false)∧Sat σ2 (l.eraseIdx i):=by
 rcases h.get hi with⟨rfl,_⟩|⟨n,cap,rfl,hn⟩
 ·exact⟨σ,fun _ _ h=>h,.l (fun h=>(by cases h)) (he _),h.less (List.eraseIdx_sublist _ _)⟩
 ·refine⟨del σ n,Fg σ n,.arr hn (DK σ n) rfl (he _),?_⟩
  refine⟨fun b hb=>?_,h.2.sublist (List.eraseIdx_sublist _ _)⟩;refine FK (h.1 b (List.mem_of_mem_eraseIdx hb)) fun m hm=>?_
  rw[Gv];intro e;subst e;exact Ep h.2 hi b hb m rfl hm
def ss {l:List At} (h:Sat σ l) {sz:Nat} {z:List V} {n m:Nat} {K:V→AH→Prop} (hnm:n≤m) (hn:m≤1073741824) (hk: ∀v σ',Sat σ' (.own v sz (List.replicate n z)::l)→(∃id,v= .sl id n m)→K v σ') {ki kj:IntKind} :
    AK σ sz z (.i ki (n:Int)) (.i kj (m:Int)) K:=by
 refine⟨by omega,by omega,by omega,fun id hid=>?_⟩;simp only[Lm];refine hk _ _ (h.add (a:= .own (.sl id n m) sz (List.replicate n z)) (fun b hb=>FK hb fun m hm=>?_) (fun b hb m hm hb'=>?_) (.inr ⟨id,m,by simp,by simp[Az]⟩)).sV ⟨id,rfl⟩
 ·obtain⟨o,ho⟩:=Cs hb hm
  rw[CZ];intro e;subst e;rw[hid]at ho;cases ho
 ·cases hm
  obtain⟨o,ho⟩:=Cs hb hb';rw[hid]at ho;cases ho
def ln {σ:AH} {l:List At} {i:Nat} {v:V} {sz:Nat} {es:List (List V)} (hs:Sat σ l) (hi:l[i]? =some (.own v sz es)) (he: ∀e∈es,e.length=sz) (hm:es.length≤Aj) {K:V→AH→Prop} (hk: ∀σ',Sat σ' (l.eraseIdx i)→K (.l es true) σ'):AS σ sz v none (some (.i .i64 (es.length:Int))) (some (.i .i64 (es.length:Int))) K:=by
 rcases hs.get hi with⟨rfl,_⟩|⟨n,cap,rfl,hn⟩
 ·refine⟨he,?_⟩
  simp only[N2];refine⟨Int.le_refl _,Int.natCast_nonneg _,Int.le_refl _,trivial,?_⟩;have:=hk σ (hs.less (List.eraseIdx_sublist _ _));simpa using this
 ·unfold AS
  simp only[N2];refine⟨Int.le_refl _,Int.natCast_nonneg _,Int.le_refl _,trivial,trivial,trivial,?_⟩;rw[hn];refine⟨rfl,rfl,rfl,.inl (hk _ ?_)⟩;refine⟨fun b hb=>?_,hs.2.sublist (List.eraseIdx_sublist _ _)⟩;refine FK (hs.1 b (List.mem_of_mem_eraseIdx hb)) fun m hm=>?_
  rw[Gv];intro e;subst e;exact Ep hs.2 hi b hb m rfl hm
end Go.Gl
namespace Go.Gl
open Go.Proofs
attribute [local irreducible] A8 Ap Ag AT AL Ae AS AU AK Ad AO AP Aw A2 Sat AX A0 Ai W
abbrev Ord:=Int×V×List Int
def gP (e:Ord):V×V:=(eI e.1,e.2.1)
def bH (e:Ord):At:= .own e.2.1 1 (iL e.2.2)
abbrev pL (ps:List (List Int×Bool)):List (List V):=ps.map fun p=>[.l (iL p.1) p.2]
abbrev gH (n mm:Nat) (vp vu:V) (ps:List (List Int×Bool)) (us:List Nat) (M:List Ord):List At:=
 .box n [vp,vu,.m mm]:: .own vp 1 (pL ps):: .own vu 1 (us.map fun u=>[eU u]):: .map mm (M.map gP)::M.map bH
def B1 (M:List Ord) (c:Int):List Int:=((M.find? fun e=>c==e.1).map fun e=>e.2.2).getD []
def IY (M:List Ord) (c:Int):V:=((M.find? fun e=>c==e.1).map fun e=>e.2.1).getD (.l [] true)
def fD (M:List Ord) (c:Int):found (.l [] true) false (Cp (eI c) (M.map gP))=IY M c:=by
 induction M with
 | nil=>rfl
 | cons e r ih=>
   simp only[C0,gP,Cp,IY,List.find?_cons]at *;have he:EU (eI c) (eI e.1)=(c==e.1):=rfl;rw[he];cases c==e.1
   ·exact ih
   ·rfl
def WQ (M:List Ord): ∀kv∈M.map gP,BV (.i .i64) kv.1=true:=by
 intro kv h;obtain⟨e,_,rfl⟩:=NP.1 h;rfl
def jC {M:List Ord} {c:Int} (v:V) (l:List Int) (h: ∀e∈M,e.1≠c):ET (eI c) v (M.map gP)=(M++[(c,v,l)]).map gP:=by
 induction M with
 | nil=>rfl
 | cons e r ih=>
   simp only[C0,List.cons_append,gP,ET];have he:EU (eI c) (eI e.1)=(c==e.1):=rfl;rw[he,beq_false_of_ne (fun e'=>h e (.head _) e'.symm)];simp only[cond_false];rw[ih fun e he=>h e (.tail _ he)]
def Oc (M:List Ord) (c:Int):(B1 M c= []∧IY M c= .l [] true)∨ ∃j:Nat,(M.map bH)[j]? =some (At.own (IY M c) 1 (iL (B1 M c))):=by
 unfold B1 IY;cases h:M.find? fun e=>c==e.1 with
 | none=>exact .inl ⟨rfl,rfl⟩
 | some e=>
   refine .inr ?_;obtain⟨j,hj⟩:=List.getElem?_of_mem (List.mem_of_find?_eq_some h);refine⟨j,?_⟩;rw[QK,hj];rfl
def Od {M:List Ord} {c:Int} {σ:AH} {fx:List At} (hs:Sat σ (fx++M.map bH)) (hl:(B1 M c).length≤Aj) {K:V→Prop} (hk:K (.i .i64 (B1 M c).length)):A0 (IY M c) K:=by
 rcases Oc M c with⟨h1,h2⟩|⟨j,hj⟩
 ·rw[h2]
  rw[h1]at hk;exact Ex hk
 ·have hj':(fx++M.map bH)[fx.length+j]? =some (At.own (IY M c) 1 (iL (B1 M c))):=by
   rw[List.getElem?_append_right (by omega),Nat.add_sub_cancel_left,hj]
  exact su hs _ hj' (by simpa using hl) (by simpa using hk)
def uk {σ:AH} {l:List At} {i mm:Nat} {M:List Ord} {c:Int} {K:V→Prop} (hk:K (IY M c)) (h:Sat σ l:=by assumption)
    (hi:l[i]? =some (.map mm (M.map gP)):=by first|exact Rg|exact Rf|exact Re|exact Rc|exact Rb|exact Ra):AO σ (.i .i64) (.l [] true) false (.m mm) (eI c) K:=
 Sv h i hi rfl (WQ M) (by rw[fD];exact hk)
def uD {M:List Ord} {c:Int} {σ:AH} {fx:List At} (hs:Sat σ (fx++M.map bH)) (hl:(B1 M c).length≤Aj) (hne:B1 M c≠[]) {k kp:V→AH→Prop} (hk: ∀σ',Sat σ' (fx++M.map bH)→k (.l (iL ((B1 M c).filter (· != 0))) false) σ'):A8 Tryz.prog 379 [IY M c] σ (qk k kp):=by
 rcases Oc M c with⟨h1,h2⟩|⟨j,hj⟩
 ·exact absurd h1 hne
 ·have hj':(fx++M.map bH)[fx.length+j]? =some (At.own (IY M c) 1 (iL (B1 M c))):=by
   rw[List.getElem?_append_right (by omega),Nat.add_sub_cancel_left,hj]
  refine(fq (B1 M c) (IY M c) hl).k7 hs hj' ?_;rintro r σ' rfl hs';exact hk σ' hs'
def VG {σ σ2:AH}: ∀ {a a' b b':List (List V)},E3 σ σ2 a a'→E3 σ σ2 b b'→E3 σ σ2 (a++b) (a'++b')
 | [],[],_,_,.nil,h=>h
 | _::_,_::_,_,_,.cons h1 h2,h=> .cons h1 (VG h2 h)
def fA (n mm:Nat) (vp vu:V) (ps:List (List Int×Bool)) (us:List Nat) (M:List Ord) (c:Int) (l:List Int) (b:Bool) (hc0:0≤c) (hl:ps[c.toNat]? =some (l,b)) (hll:l.length≤3) (hol: ∀c,(B1 M c).length≤Aj) :
    By Tryz.prog 376 [.p n 0,eI c] (gH n mm vp vu ps us M) fun r post=>r= .ret (if l.any fun p=>(B1 M p).isEmpty then .t [.l [] true,.b false]else .t [.l (EX (l.map (fun p=>(B1 M p).filter (· != 0))++[l])) false,.b true])∧post=gH n mm vp vu ps us M:=by
 intro σ hs;have hM:=Mx;have hci:c<ps.length:=by have:=(Mn.1 hl).1;omega
 refine ow kZ ?_
 conv=>whnf
 repeat'((first|apply st|(apply sq;intro K U)|(apply si;intro A B Y Z)|(apply Y;clear Z B Y A)|(apply U;clear U K)|refine ld ?_|refine oi ?_|refine Vp ?_|fail)<;>conv=>whnf)
 refine CD l.length (fun k v=>[(6,v),(17,eI (BM k))]) (fun k v=> .own v 1 (EX ((l.take k).map fun p=>(B1 M p).filter (· != 0)))::gH n mm vp vu ps us M) (fun k _=>((l.take k).any fun p=>(B1 M p).isEmpty)=false) (.l [] true) rfl rfl (FN hs 1) ?_;clear hs;rintro k v σ hk hne hs;rcases BS l hk with⟨p,hp,hlt⟩|hke
 ·have han:((l.take (k+1)).any fun p=>(B1 M p).isEmpty)=(B1 M p).isEmpty:=by rw[AR hp,List.any_append,hne];simp
  have hap:(l.take k).length≤3:=by rw[Mo];omega
  conv=>whnf
  repeat'((first|apply st|(apply sq;intro K U)|(apply si;intro A B Y Z)|(apply Y;clear Z B Y A)|(apply U;clear U K)|refine⟨rfl,?_⟩|refine ix ?_|refine ld ?_|(refine C8 (fun hc=>?_)<;>(try rw[hc])<;>clear hc)|refine uk ?_|refine Od (fx:=_::_::_::_::_:: []) hs (hol _) ?_|(constructor<;>intro hc<;>(try rw[hc])<;>(replace hc:=bp hc))|clear U K)<;>conv=>whnf)
  ·have h0:(B1 M p).isEmpty=true:=by rw[List.isEmpty_iff_length_eq_zero];omega
   have hany:(l.any fun p=>(B1 M p).isEmpty)=true:=NO.2 ⟨p,Ck hp,h0⟩;refine A5 (l':=gH n mm vp vu ps us M) hs (IV _ _) (.refl _) fun σ' hs'=>⟨_,⟨?_,rfl⟩,hs'⟩
   rw[if_pos hany]
  ·have h0:(B1 M p).isEmpty=false:=by
    cases h:(B1 M p).isEmpty
    ·rfl
    ·rw[List.isEmpty_iff_length_eq_zero]at h;omega
   refine uD (fx:=_::_::_::_::_:: []) hs (hol _) (fun e=>by rw[e]at h0;cases h0) fun σ hs=>?_
   conv=>whnf
   repeat'((first|(apply si;intro A B Y Z)|(apply Y;clear Z B Y A)|(apply U;clear U K)|refine⟨rfl,?_⟩|refine aq fun v σ hs hsl=>?_|clear U K)<;>conv=>whnf)
   refine⟨hlt,_,rfl,by rw[han];exact h0,?_⟩;rw[AR hp,Pw];exact hs
 ·rw[Av hke]at hne hs
  conv=>whnf
  repeat'((first|apply st|(apply sq;intro K U)|(apply si;intro A B Y Z)|(apply Y;clear Z B Y A)|(apply U;clear U K)|refine⟨rfl,?_⟩|refine ld ?_|refine oi ?_|refine Vp ?_|(refine Es (fun hc=>?_)<;>(try rw[hc])<;>clear hc)|clear U K)<;>conv=>whnf)
  refine hAppend hs 0 rfl (by simp;omega) (fun e he=>by simp at he;subst he;rfl) (fun e he v hv=>by simp at he;subst he;simp at hv;subst hv;rfl) fun v σ hs=>?_
  conv=>whnf
  repeat'((first|apply st|(apply Y;clear Z B Y A)|(apply U;clear U K)|fail)<;>conv=>whnf)
  obtain⟨σ2,h1,h2,h3⟩:=oJ (es':=EX (l.map (fun p=>(B1 M p).filter (· != 0))++[l])) hs 0 rfl fun σ2=>by
   have e:EX (l.map (fun p=>(B1 M p).filter (· != 0))++[l])=EX (l.map fun p=>(B1 M p).filter (· != 0))++[[.l (iL l) false]]:=by simp only[EX,Pw,C0,List.map_nil]
   rw[e];exact VG (CA _) (.cons (.cons b6 .nil) .nil)
  refine Hu h1 (.t (.cons h2 (.cons (.refl _) .nil))) ⟨_,⟨?_,rfl⟩,h3⟩;rw[hne,if_neg (by decide)]
def Sat.vA {σ:AH} {l:List At} {a:At} (h:Sat σ (a::l)):Sat σ (l++[a]):=h.perm (by
 have:=TO (l₁:=[a]) (l₂:=l)
 simpa using this)
def C5 (M:List Ord) (l:List Int):List (List Int):=l.map (fun p=>(B1 M p).filter (· != 0))++[l]
def Gk (M:List Ord) (l:List Int) (c:Int):List Int:=
 if c=0 then [0]else if l.any (fun p=>(B1 M p).isEmpty)then []else if(CC (C5 M l)).2 then [c]++(CC (C5 M l)).1++[0]else []
def YZ (n mm:Nat) (vp vu:V) (ps:List (List Int×Bool)) (us:List Nat) (M:List Ord) {c:Int} {v:V} {l:List Int} (hk: ∀e∈M,e.1≠c) {σ:AH}
    (hs:Sat σ (.own v 1 (iL l):: .box n [vp,vu,.m mm]:: .own vp 1 (pL ps):: .own vu 1 (us.map fun u=>[eU u]):: .map mm (ET (eI c) v (M.map gP))::M.map bH)):Sat σ (gH n mm vp vu ps us (M++[(c,v,l)])):=by
 rw[jC v l hk]at hs;have:=hs.vA;unfold gH;rw[Pw (f:=bH)];exact this
def eV (n mm:Nat) (vp vu:V) (ps:List (List Int×Bool)) (us:List Nat) (M:List Ord) (c:Int) (l:List Int) (b:Bool) (hc0:0≤c) (hl:ps[c.toNat]? =some (l,b)) (hll:l.length≤3) (hol: ∀c,(B1 M c).length≤Aj) (hk: ∀e∈M,e.1≠c)
    (hok:Lq (C5 M l)) (ht:total (C5 M l)<1000000000) :
    By Tryz.prog 368 [.p n 0,eI c] (gH n mm vp vu ps us M) fun r post=>r= .ret (.t [])∧ ∃M',post=gH n mm vp vu ps us M'∧((M'=M∧Gk M l c= [])∨ ∃v,M'=M++[(c,v,Gk M l c)]∧Gk M l c≠[]):=by
 intro σ hs;have hM:=Mx;refine o7 kZ ?_;by_cases hc:c=0
 ·subst hc
  conv=>whnf
  repeat'((first|apply st|(apply sq;intro K U)|(apply si;intro A B Y Z)|(apply Y;clear Z B Y A)|(apply U;clear U K)|refine⟨rfl,?_⟩|refine ld ?_|(constructor<;>intro hc<;>(try rw[hc])<;>(replace hc:=bp hc)<;>(try simp(disch:=omega) only[BW,wrap64,AN]at hc)<;>try(exfalso;omega))|fail)<;>conv=>whnf)
  refine Nr hs 3 rfl rfl (WQ M) fun σ hs=>?_
  conv=>whnf
  repeat'((first|apply st|(apply Y;clear Z B Y A)|(apply U;clear U K)|clear U K)<;>conv=>whnf)
  refine A5 (l':=gH n mm vp vu ps us (M++[(0,.l [[eI 0]] true,[0])])) ?_ (List.Sublist.refl _) (.refl _) fun σ' hs'=>⟨_,⟨rfl,_,rfl,.inr ⟨.l [[eI 0]] true,?_,?_⟩⟩,hs'⟩
  ·refine YZ n mm vp vu ps us M hk ?_
   exact lQ hs (fun e he=>by simp at he;subst he;rfl)
  ·rw[Gk,if_pos rfl]
  ·rw[Gk,if_pos rfl];exact fun e=>by cases e
 ·have hoc:Gk M l c=if l.any (fun p=>(B1 M p).isEmpty)then []else if(CC (C5 M l)).2 then [c]++(CC (C5 M l)).1++[0]else []:=by rw[Gk,if_neg hc]
  have hli:=fA n mm vp vu ps us M c l b hc0 hl hll hol;have hmg:=ep (C5 M l) false hok (by omega);have hml:=H0 (total (C5 M l)) (C5 M l) [];have hml2:(CC (C5 M l)).1.length≤total (C5 M l):=by simpa[CC]using hml
  cases hany:l.any fun p=>(B1 M p).isEmpty
  ·rw[hany,if_neg (by decide)]at hoc
   simp only[hany,Mp,if_false]at hli;have hdn: ∀ {σ:AH} {M':List Ord},Sat σ (gH n mm vp vu ps us M')→((M'=M∧Gk M l c= [])∨ ∃v,M'=M++[(c,v,Gk M l c)]∧Gk M l c≠[])→Ap σ (.t []) fun r σ'=> ∃post,(r= .ret (.t [])∧ ∃M',post=gH n mm vp vu ps us M'∧((M'=M∧Gk M l c= [])∨ ∃v,M'=M++[(c,v,Gk M l c)]∧Gk M l c≠[]))∧Sat σ' post:=fun hs h=>A5 hs (List.Sublist.refl _) (.refl _) fun σ' hs'=>⟨_,⟨rfl,_,rfl,h⟩,hs'⟩
   conv=>whnf
   repeat'((first|apply st|(apply sq;intro K U)|(apply si;intro A B Y Z)|(apply Y;clear Z B Y A)|(apply U;clear U K)|refine⟨rfl,?_⟩|(constructor<;>intro hc<;>(try rw[hc])<;>(replace hc:=bp hc)<;>try(exfalso;omega))|fail)<;>conv=>whnf)
   refine hli.use (rest:=[]) (by simpa using hs) ?_;clear hs;rintro r post σ ⟨rfl,rfl⟩ hs;rw[JW]at hs;have hml3:(C5 M l)=l.map (fun p=>(B1 M p).filter (· != 0))++[l]:=rfl;rw[←hml3];generalize C5 M l=ll at *;cases hb:(CC ll).2<;>rw[hb]at hmg hoc
   ·conv=>whnf
    repeat'((first|apply st|(apply sq;intro K U)|(apply si;intro A B Y Z)|(apply Y;clear Z B Y A)|(apply U;clear U K)|refine G3 ?_|refine Pure.use (by assumption) ?_|fail)<;>conv=>whnf)
    exact hdn hs (.inl ⟨rfl,by rw[hoc];rfl⟩)
   ·rw[if_pos rfl]at hoc
    conv=>whnf
    repeat'((first|apply st|(apply sq;intro K U)|(apply si;intro A B Y Z)|(apply Y;clear Z B Y A)|(apply U;clear U K)|apply dr|refine ld ?_|refine G3 ?_|refine Pure.use (by assumption) ?_|fail)<;>conv=>whnf)
    replace hs:=lQ hs (sz:=1) (es:=[[eI c]]) (fun e he=>by simp at he;subst he;rfl);refine GS hs 0 (xs:=[c]) (ys:=(CC ll).1) rfl (by simp;omega) Cr fun v σ hs=>?_
    conv=>whnf
    repeat'((first|apply dr|refine rk ?_ ?_|exact fun s e=>by cases e;rfl|refine ld ?_|refine aq fun v σ hs hsl=>?_|fail)<;>conv=>whnf)
    refine Nr hs 4 rfl rfl (WQ M) fun σ hs=>?_
    conv=>whnf
    repeat'((first|(apply Y;clear Z B Y A)|apply dr|fail)<;>conv=>whnf)
    refine hdn (YZ n mm vp vu ps us M hk (l:=Gk M l c) ?_) (.inr ⟨v,rfl,by rw[hoc];simp⟩);rw[hoc];exact hs
  ·rw[hany,if_pos rfl]at hoc
   simp only[hany,if_true]at hli
   conv=>whnf
   repeat'((first|apply st|(apply sq;intro K U)|(apply si;intro A B Y Z)|(apply Y;clear Z B Y A)|(apply U;clear U K)|refine⟨rfl,?_⟩|(constructor<;>intro hc<;>(try rw[hc])<;>(replace hc:=bp hc)<;>try(exfalso;omega))|fail)<;>conv=>whnf)
   refine hli.use (rest:=[]) (by simpa using hs) ?_;clear hs;rintro r post σ ⟨rfl,rfl⟩ hs;rw[JW]at hs
   conv=>whnf
   repeat'((first|apply st|(apply sq;intro K U)|(apply si;intro A B Y Z)|(apply Y;clear Z B Y A)|(apply U;clear U K)|refine JB ?_|clear U K)<;>conv=>whnf)
   exact A5 hs (List.Sublist.refl _) (.refl _) fun σ' hs'=>⟨_,⟨rfl,_,rfl,.inl ⟨rfl,hoc⟩⟩,hs'⟩
end Go.Gl
namespace Go.Gl
def Zp {M:List Ord} {k:Int} {v:V} {o:List Int} (h: ∀e∈M,e.1<k) (d:Int):B1 (M++[(k,v,o)]) d=if d=k then o else B1 M d:=by
 unfold B1;rw[List.find?_append];split
 ·rename_i e
  have:M.find? (fun e=>d==e.1)=none:=by
   rw[List.find?_eq_none];intro x hx;have:=h x hx;simp;omega
  rw[this];simp[e]
 ·rename_i e
  cases hf:M.find? fun e=>d==e.1 with
  | some x=>simp
  | none=>simp[List.find?_cons,e]
structure IN (g:List (List Int)) (k:Nat) (M:List Ord):Prop where
 keys: ∀e∈M,0≤e.1∧e.1<(k:Int)
 bU: ∀d:Int,0≤d→d<k→B1 M d=(Bz g).getD d.toNat []
def Ue {g:List (List Int)} {k:Nat} {M:List Ord} (h:IN g k M) {d:Int} (hd:d<0∨(k:Int)≤d):B1 M d= []:=by
 unfold B1
 have:M.find? (fun e=>d==e.1)=none:=by
  rw[List.find?_eq_none];intro x hx;have:=h.keys x hx;simp;omega
 rw[this];rfl
def LL {g:List (List Int)} (hg:IG g) {k:Nat} {M:List Ord} (h:IN g k M) (d:Int):(B1 M d).length≤71744535∧ ∀x∈B1 M d,(0:Int)≤x:=by
 by_cases hd:d<0∨(k:Int)≤d
 ·rw[Ue h hd]
  exact⟨by simp,fun x hx=>by cases hx⟩
 ·rw[h.bU d (by omega) (by omega)]
  have hb:=H8 hg (2+g.length);have hl:=Yt (k:=2+g.length) (by have:=hg.1;omega);unfold Bz;exact⟨Uu (fun o ho=>Nat.le_trans (hb o ho).1 hl) _,Ov (fun o ho=>(hb o ho).2) _⟩
def Zy {g:List (List Int)} (hg:IG g) {k:Nat} {M:List Ord} (h:IN g k M) {l:List Int} (hl:l.length≤3) (h0: ∀x∈l,(0:Int)≤x):Lq (C5 M l)∧total (C5 M l)<1000000000:=by
 have hM:Aj=17592186044416:=rfl;have hf: ∀p,((B1 M p).filter (· != 0)).length≤71744535:=fun p=>Nat.le_trans (QJ _ _) (LL hg h p).1
 have ht: ∀l:List Int,total (l.map fun p=>(B1 M p).filter (· != 0))≤l.length*71744535:=by
  intro l
  induction l with
  | nil=>simp[total]
  | cons p r ih=>
    simp only[total,C0,List.sum_cons,KX]at *;have:=hf p;rw[Nat.add_mul];omega
 refine⟨⟨by simp[C5];omega,fun m hm=>?_⟩,?_⟩
 ·rcases FJ.1 hm with hm|hm
  ·obtain⟨p,_,rfl⟩:=NP.1 hm
   refine⟨by have:=hf p;omega,fun x hx=>(LL hg h p).2 x (Pz.1 hx).1⟩
  ·rw[Nz.1 hm]
   exact⟨by omega,h0⟩
 ·have h1:=ht l
  have h2:total (C5 M l)=total (l.map fun p=>(B1 M p).filter (· != 0))+l.length:=by simp[C5,total]
  have h3:=TP 71744535 hl;omega
def ia {g:List (List Int)} {k:Nat} {M:List Ord} (h:IN g (k+1) M) {l:List Int} (hl:l=A1 g ((k:Int)+1)) (hp: ∀p∈l,(0:Int)≤p∧p<(k:Int)+1) (hk:k+1<3+g.length) :
    Gk M l ((k:Int)+1)=Dw g (Bb g k) ((k:Int)+1):=by
 have ho: ∀p∈l,B1 M p=(Bb g k).getD p.toNat []:=fun p hpl=>by
  obtain⟨h0,h1⟩:=hp p hpl;rw[h.bU p h0 (by omega)];unfold Bz;rw[E2,E2,Eo (k:=2+g.length) (j:=p.toNat) (by omega),Eo (k:=k) (j:=p.toNat) (by omega)]
 have e1:(l.any fun p=>(B1 M p).isEmpty)=(l.any fun p=>((Bb g k).getD p.toNat []).isEmpty):=by
  rw[JZ,NO,NO];constructor
  ·rintro⟨p,h1,h2⟩;exact⟨p,h1,by rw[←ho p h1];exact h2⟩
  ·rintro⟨p,h1,h2⟩;exact⟨p,h1,by rw[ho p h1];exact h2⟩
 have e2:C5 M l=l.map (fun p=>((Bb g k).getD p.toNat []).filter (· != 0))++[l]:=by
  unfold C5;congr 1;exact List.map_congr_left fun p hpl=>by rw[ho p hpl]
 unfold Gk Dw EC;rw[if_neg (by omega),e1,e2,←hl];split<;>rfl
def IN.nil {g:List (List Int)}:IN g 0 []:=⟨fun e h=>(by cases h),fun d h0 h1=>by omega⟩
def IN.step {g:List (List Int)} {k:Nat} {M M':List Ord} (h:IN g k M) {l:List Int} (hl:l=A1 g (k:Int)) (hp: ∀p∈l,(0:Int)≤p∧p<(k:Int)) (hk:k<3+g.length)
    (hM:(M'=M∧Gk M l k= [])∨ ∃v,M'=M++[((k:Int),v,Gk M l k)]∧Gk M l k≠[]):IN g (k+1) M':=by
 have hc:Gk M l k=(Bz g).getD k []:=by
  cases k with
  | zero=>
    unfold Gk Bz;rw[if_pos (by simp),E2,Eo (j:=0) (by omega)];rfl
  | succ k=>
    have:=ia h (by simpa using hl) (fun p hpl=>by have:=hp p hpl;simpa using this) hk;have e:((k+1:Nat):Int)=(k:Int)+1:=by omega
    rw[e,this];unfold Bz;rw[E2,Eo (k:=2+g.length) (j:=k+1) (by omega),Bb,List.getElem?_append_right (by rw[Cb];omega),Cb,Nat.sub_self];rfl
 rcases hM with⟨rfl,he⟩|⟨v,rfl,_⟩
 ·refine⟨fun e he=>by have:=h.keys e he;omega,fun d h0 h1=>?_⟩
  by_cases hd:d=k
  ·subst hd
   rw[Ue h (by omega)];rw[Lm,←hc,he]
  ·exact h.bU d h0 (by omega)
 ·refine⟨fun e he=>?_,fun d h0 h1=>?_⟩
  ·rcases FJ.1 he with he|he
   ·have:=h.keys e he;omega
   ·rw[Nz.1 he]
    exact⟨by simp,by simp;omega⟩
  ·rw[Zp (fun e he=>(h.keys e he).2)]
   split
   ·rename_i hd
    rw[hd,Lm];exact hc
   ·exact h.bU d h0 (by omega)
end Go.Gl
