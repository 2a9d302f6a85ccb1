import Derived.Test.YtijbpgdmpejgoaaGreatZ9
set_option linter.all false
set_option linter.defProp false
noncomputable section
namespace Go.Gl
open Go.Proofs
attribute [local irreducible] BC Ax Ai AU AO Ag AV AW AM Af AR AT A0 A9 Sat Ab A6 Ak W
def Hp (w:AK) (x:Fact):Prop:= ∃g,Be w g=true∧Bm g=true∧(x=g∨x=Fj g)
def FX {g:Fact} (h:Bm g=true):g.op=2∨g.op=3∨g.op=4:=by
 simp only[Bm,FU,Dn]at h;omega
def FN {w : AK} (f:Fact):Be w f=true→ ∀c,∀l∈Bh f c,∀x∈l,Hp w x:=by
 induction f using Fact.ind with
 | h f ih=>
   intro h c;have har:=DB f h;have h':=h;rw[CP,BY,EY]at h';rw[G9,ID];by_cases h1:f.op=1
   ·rw[if_pos h1]
    cases c
    ·rw[if_neg (by decide)]
     intro l hl x hx;simp at hl;subst hl;cases hx
    ·rw[if_pos rfl]
     intro l hl;cases hl
   rw[if_neg h1];by_cases h5:f.op=5
   ·obtain⟨a,ha,hb⟩:=IW har h5
    rw[if_pos h5,ha];exact ih a (by rw[ha];exact .head _) (h'.2 a (by rw[ha];exact .head _)) (!c)
   rw[if_neg h5];by_cases h6:f.op=6∨f.op=7
   ·obtain⟨a,b,ha,hb1,hb2⟩:=IV har h6
    rw[if_pos h6,ha];have i1:=ih a (by rw[ha];exact .head _) (h'.2 a (by rw[ha];exact .head _)) c;have j1:=ih b (by rw[ha];exact .tail _ (.head _)) (h'.2 b (by rw[ha];exact .tail _ (.head _))) c;simp only[Et,List.map_nil,List.getD_cons_zero,List.getD_cons_succ];split
    ·intro l hl
     rcases FQ.1 hl with hl|hl
     ·exact i1 l hl
     ·exact j1 l hl
    ·intro l hl x hx
     simp only[Fl,List.mem_flatMap,MT]at hl;obtain⟨y,hy,z,hz,rfl⟩:=hl;rcases PN _ _ _ hx with h|h
     ·exact i1 y hy x h
     ·exact j1 z hz x h
   ·rw [if_neg h6]
    have hlf:Bm f=true:=by
     have ho:RD w f=true:=by
      have:=h'.1;simp only[C1,BY]at this;exact this.1
     simp only[Bm,FU,Dn];unfold RD at ho;split at ho
     ·omega
     ·split at ho
      ·omega
      ·simp only[FU,Dn]at ho
       omega
    cases c
    ·rw[if_neg (by decide)]
     intro l hl x hx;simp at hl;subst hl;simp at hx;subst hx;exact⟨x,h,hlf,.inl rfl⟩
    ·rw[if_pos rfl]
     intro l hl x hx;simp at hl;subst hl;simp at hx;subst hx;exact⟨f,h,hlf,.inr rfl⟩
def Gy {w:AK} {x:Fact} (h:Hp w x):dx x∧Be w (A5 x).1=true∧Bm (A5 x).1=true:=by
 obtain⟨g,hn,hl,rfl|rfl⟩:=h
 ·have:=FX hl
  have h5: ¬x.op=5:=by omega
  exact⟨fun e=>absurd e h5,by simp only[A5,if_neg h5];exact⟨hn,hl⟩⟩
 ·exact⟨fun _ e=>(by cases e),hn,hl⟩
def KD {w:AK} {l:List Fact} (h: ∀x∈l,Hp w x):(∀x∈l,dx x)∧nt w l∧Tk l∧Yc l 2:=by
 refine⟨fun x hx=>(Gy (h x hx)).1,fun x hx h2=>?_,fun x hx=>?_,fun x hx=>?_⟩
 all_goals
  obtain⟨-,hn,hl⟩:=Gy (h x hx);have hlo:=FX hl;generalize (A5 x).1=g at *;rw[CP,BY]at hn;have hn:=hn.1;simp only[C1,BY]at hn;obtain⟨ho,-,-,-,hp,-⟩:=hn
 ·unfold RD at ho
  rw[if_pos h2]at ho;simp only[Ma,BY,CY]at ho;exact ho.2
 ·unfold RD at ho
  split at ho
  ·simp only[BY,Dn]at ho
   omega
  ·split at ho
   ·simp only[BY,CY]at ho
    omega
   ·omega
 ·simp only[Ea,BY,CY]at hp
  omega
def Ta (w:AK) (f:Fact):Bool:=(Bh f false).any (Il w)
def RU (w:AK) (a b:Fact):Bool:= !Ta w (OX a (Fj b))
def gX (a b:Fact):lv (OX a (Fj b))=lv a+lv b:=by
 rw[Mh];simp only[az,OX,Fact.op,Fact.kids,Et,List.map_nil,List.getD_cons_zero,List.getD_cons_succ];rw[Mh (Fj b)];simp[az,Fj,Fact.op,Fact.kids]
def SK {w:AK} {a b:Fact} (ha:Be w a=true) (hb:Be w b=true):Be w (OX a (Fj b))=true:=by
 have hnb:Be w (Fj b)=true:=by
  rw[CP];simp[Fj,C1,RD,Fact.op,Fact.kids,Fact.arg,Fact.path,Fact.cls,Fact.n,B1,Ea,Bm,hb]
 rw[CP];simp[OX,C1,RD,Fact.op,Fact.kids,Fact.arg,Fact.path,Fact.cls,Fact.n,B1,Ea,Bm,ha,hnb]
def SB {p:Prog}: ∀ {ms:List L6} {s:List Int},(runM p ms s).isSome=true→ ∀m∈ms,MU p m=true
 | [],_,_,_,h=>by cases h
 | m ::r,s,h,x,hx=>by
   rw[runM]at h;split at h
   ·rename_i hok
    split at h
    ·cases h
    ·rcases Fh.1 hx with rfl|hx
     ·exact hok
     ·exact SB h x hx
   ·cases h
def EO {p:Prog} (h:(BM p).isSome=true):Cn p=true∧ ∀m∈p.methods,MU p m=true:=by
 unfold BM at h;split at h
 ·rename_i hh
  refine⟨hh,?_⟩;split at h
  ·cases h
  ·rename_i s hs
   exact SB (by rw[hs];rfl)
 ·cases h
structure EC (p:Prog):Prop where
 lO:Km (AQ p)
 AS:Bp p.AN≤Ae
 dv:p.AN.length≤1000
 facts: ∀m∈p.methods,Be (AQ p) m.fact=true∧lv m.fact≤12
 many:p.methods.length≤16
def look_ok {p:Prog} (h:(BM p).isSome=true):EC p:=by
 obtain⟨hh,hm⟩:=EO h;simp only[Cn,BY,CY]at hh;have hc:=hh.1;simp only[A7,BY,CY]at hc;have hM:=Mx;refine⟨NY hc.1 hc.2.1 hc.2.2.2.1,by have:=(Ey _ _ hc.2.1).1;omega,by have:=hc.1;omega,fun m h=>?_,hh.2.2.1⟩;have:=hm m h;simp only[MU,CN,BY,CY]at this;have hn:=this.2.2.2.2.1.2.2;refine⟨hn,?_⟩;have hcn:=JR m.fact 24 (by omega) this.2.2.2.2.1.1;have:=gY m.fact (DB _ hn);omega
def BE (p:Prog) (m:Int):Bool:=decide (0≤m)&&decide (m<(p.methods.length:Int))
def BI (p:Prog) (m:Int):L6:=p.methods.getD m.toNat default
def CQ {p:Prog} {m:Int} (h:BE p m=true):p.methods[m.toNat]? =some (BI p m):=by
 simp only[BE,BY,CY]at h;rw[BI,Dc,Da (by omega)];rfl
def Cw (p:Prog) (m n:Int):Bool:=(BI p m).gen==(BI p n).gen&&(BI p m).kind==(BI p n).kind
def ES (p:Prog) (m n:Int):Bool:=RU (AQ p) (BI p m).fact (BI p n).fact
def Ap (p:Prog) (m n:Int):Bool:=ES p m n&& !ES p n m
def HG (p:Prog) (m n:Int):Bool×Int:=if(BM p).isSome&&(BE p m&&BE p n)then(if Cw p m n then(Ap p m n,0)else(false,7))else(false,2)
end Go.Gl
namespace Go.Gl
variable {P:Program} {σ:AH}
abbrev eU (n:Nat):V:= .i .u64 (n:Int)
def Gv {n:Nat} (h:n<18446744073709551616):IntKind.u64.wrap (n:Int)=n:=by
 simp only[IntKind.wrap,IntKind.signed,IntKind.bits];simp;omega
def J1 {a b:Nat} (ha:a<18446744073709551616) (hb:b<18446744073709551616):bits .or .u64 (a:Int) (b:Int)=((a|||b:Nat):Int):=by
 have h:a|||b<2 ^ 64:=Nat.or_lt_two_pow (n:=64) (by simpa using ha) (by simpa using hb)
 simp only[bits,IntKind.bits]
 have e1:(BitVec.ofInt 64 (a:Int)|||BitVec.ofInt 64 (b:Int)).toNat=a|||b:=by
  simp only[BitVec.ofInt_natCast,BitVec.toNat_or,BitVec.toNat_ofNat];rw[Nat.mod_eq_of_lt (by simpa using ha),Nat.mod_eq_of_lt (by simpa using hb)]
 have e2:=Gv (n:=a|||b) (by simpa using h);rw[←e1]at e2;rw[←e1];exact e2
def KK {a b:Nat} (ha:a<18446744073709551616) (hb:b<18446744073709551616):bits .and .u64 (a:Int) (b:Int)=((a&&&b:Nat):Int):=by
 have h:a&&&b<2 ^ 64:=Nat.and_lt_two_pow (n:=64) a (by simpa using hb);simp only[bits,IntKind.bits]
 have e1:(BitVec.ofInt 64 (a:Int)&&&BitVec.ofInt 64 (b:Int)).toNat=a&&&b:=by
  simp only[BitVec.ofInt_natCast,BitVec.toNat_and,BitVec.toNat_ofNat];rw[Nat.mod_eq_of_lt (by simpa using ha),Nat.mod_eq_of_lt (by simpa using hb)]
 have e2:=Gv (n:=a&&&b) (by simpa using h);rw[←e1]at e2;rw[←e1];exact e2
def Mc (a b:Nat):Nat:=(BitVec.ofNat 64 a&&& ~~~BitVec.ofNat 64 b).toNat
def Qk (a b:Nat):Mc a b<18446744073709551616:=by
 have:=(BitVec.ofNat 64 a&&& ~~~BitVec.ofNat 64 b).isLt;simpa[Mc]using this
def Pj {a b:Nat}:bits .andNot .u64 (a:Int) (b:Int)=((Mc a b:Nat):Int):=by
 simp only[bits,IntKind.bits]
 have e1:(BitVec.ofInt 64 (a:Int)&&& ~~~BitVec.ofInt 64 (b:Int)).toNat=Mc a b:=by
  simp only[BitVec.ofInt_natCast,Mc]
 have e2:=Gv (n:=Mc a b) (Qk a b);rw[←e1]at e2;rw[←e1];exact e2
def NT {a b i:Nat} (hi:i<64):(Mc a b).testBit i=(a.testBit i&& !b.testBit i):=by
 rw[Mc,BitVec.testBit_toNat,BitVec.getLsbD_and,BitVec.getLsbD_not];rw[BitVec.getLsbD_ofNat,BitVec.getLsbD_ofNat];simp only[hi,decide_true,EW]
def VJ {c:Nat} (h:c<64):IntKind.u64.wrap (1*2 ^ (min c IntKind.u64.bits))=((2 ^ c:Nat):Int):=by
 have hb:IntKind.u64.bits=64:=rfl;rw[hb,Nat.min_eq_left (by omega),Int.one_mul];have:=Gv (n:=2 ^ c) (by have:=Nat.pow_lt_pow_right (show 1<2 by omega) h;simpa using this);rw[←this];simp
def JC {c:Nat} (h:c<64):2 ^ c<18446744073709551616:=by
 have:=Nat.pow_lt_pow_right (show 1<2 by omega) h;simpa using this
def VI {a c:Nat} (h:c<64):(a:Int).fdiv (2 ^ (min c IntKind.u64.bits))=((a >>> c:Nat):Int):=by
 have hb:IntKind.u64.bits=64:=rfl;rw[hb,Nat.min_eq_left (by omega),Nat.shiftRight_eq_div_pow,Int.fdiv_eq_ediv_of_nonneg _ (Int.pow_nonneg (by omega))];simp
def DG {v:V} {Q:R→AH→Prop} (h:Q (.Cy v) σ):Ai σ v Q:=⟨v,σ,fun _ _ h=>h,.refl v,h⟩
def Bl {g:FuncId} {fi ca args:List V} {Q:R→AH→Prop} (h:BC P g (fi++args++ca) σ Q):A0 P (.f (.func g) fi ca) args σ Q:=h
def Pure.of {f:FuncId} {args:List V} {v:V} (h:BC P f args emp fun r _=>r= .ret v):Pure P f args v:=by
 refine⟨h.1,fun Λ w cs G hv=>Calls.mono (h.2 Λ w cs G hv) fun e w' ⟨r,σ',hr,h1,h2,h3⟩=>?_⟩;subst hr;obtain⟨c,rfl,hv'⟩:=h1;have hsub:Sub emp σ':=fun n o ho=>by cases ho
 exact⟨.ret v,emp,⟨rfl,rfl⟩,⟨c,rfl,Gd.rel h2 hsub (.refl v) hv'⟩,h2.drop hsub,⟨h3.frame,h3.size,h3.os,h3.tape,h3.output,fun _ _ _=>rfl⟩⟩
def C2 {α S:Type} (P:Program) (x:V) (ea:α→V) (H:S→List At) (stp:α→S→Bool×S) (D:α→S→Prop):Prop:=
 ∀y s,D y s→ ∀σ,Sat σ (H s)→A0 P x [ea y] σ fun r σ'=>r= .ret (.b (stp y s).1)∧Sat σ' (H (stp y s).2)
def C2.use {α S:Type} {x:V} {ea:α→V} {H:S→List At} {stp:α→S→Bool×S} {D:α→S→Prop} (h:C2 P x ea H stp D) {y:α} {s:S} (hd:D y s) (hs:Sat σ (H s)) {k kp:V→AH→Prop} (hk: ∀σ',Sat σ' (H (stp y s).2)→k (.b (stp y s).1) σ'):A0 P x [ea y] σ (qk k kp):=
 (h y s hd σ hs).mono fun r σ' ⟨e,h'⟩=>by rw[e];exact hk σ' h'
def C2.sB {α S:Type} {g:FuncId} {fi ca:List V} {ea:α→V} {H:S→List At} {stp:α→S→Bool×S} {D:α→S→Prop} (h:C2 P (.f (.func g) fi ca) ea H stp D) {y:α} {s:S} (hd:D y s) {rest:List At} (hs:Sat σ (H s++rest)) {k kp:V→AH→Prop} (hk: ∀σ',Sat σ' (H (stp y s).2++rest)→k (.b (stp y s).1) σ'):A0 P (.f (.func g) fi ca) [ea y] σ (qk k kp):=by
 refine Bl ?_;have h1:Bd P g (fi++[ea y]++ca) (H s) fun r post=>r= .ret (.b (stp y s).1)∧post=H (stp y s).2:=fun σ hs=>BC.mono (h y s hd σ hs) fun r σ' ⟨e,h2⟩=>⟨_,⟨e,rfl⟩,h2⟩
 refine h1.use hs ?_;rintro r post σ' ⟨rfl,rfl⟩ hs';exact hk σ' hs'
def Bj {α S:Type} (stp:α→S→Bool×S):List α→Nat→S→Int×S
 | [],_,s=>(-1,s)
 | y::r,k,s=>if(stp y s).1 then((k:Int),(stp y s).2)else Bj stp r (k+1) (stp y s).2
def Ca {α S:Type} (stp:α→S→Bool×S):List α→S→Bool×S
 | [],s=>(true,s)
 | y::r,s=>if(stp y s).1 then Ca stp r (stp y s).2 else(false,(stp y s).2)
def TX {α S:Type} (stp:α→S→Bool×S) (D:α→S→Prop):List α→S→Prop
 | [],_=>True
 | y::r,s=>D y s∧TX stp D r (stp y s).2
def LN {α S:Type} {stp:α→S→Bool×S}: ∀(xs:List α) (k:Nat) (s:S),(Bj (fun y s=>(!(stp y s).1,(stp y s).2)) xs k s).2=(Ca stp xs s).2∧(decide ((Bj (fun y s=>(!(stp y s).1,(stp y s).2)) xs k s).1≥0)= !(Ca stp xs s).1)
 | [],_,_=>⟨rfl,rfl⟩
 | y::r,k,s=>by
   simp only[Bj,Ca];cases h:(stp y s).1
   ·simp
   ·simpa using LN r (k+1) (stp y s).2
def QT {α S:Type} {stp:α→S→Bool×S} {D:α→S→Prop}: ∀(xs:List α) (s:S),TX stp D xs s→TX (fun y s=>(!(stp y s).1,(stp y s).2)) D xs s
 | [],_,_=>trivial
 | _::r,_,h=>⟨h.1,QT r _ h.2⟩
def Ih {α:Type} (f:α→Bool): ∀(xs:List α),Ca (fun y (_:Unit)=>(f y,())) xs ()=(xs.all f,())
 | []=>rfl
 | y::r=>by
   simp only[Ca,TV];cases f y
   ·rfl
   ·simpa using Ih f r
def GW {α S:Type} {stp:α→S→Bool×S} {D:α→S→Prop}: ∀ {xs:List α} {s:S},(∀y∈xs,∀s,D y s)→TX stp D xs s
 | [],_,_=>trivial
 | y::r,s,h=>⟨h y (.head _) s,GW fun z hz=>h z (.tail _ hz)⟩
end Go.Gl
namespace Go.Gl
open Go.Proofs
attribute [local irreducible] BC Ax Ai AU AO Ag AV AW AM Af AR AT A0 A9 Sat Ab A6 Ak W
def QF {xs:List Int} {f:Bool} (h:Ev (.l (iL xs) f)):xs.length≤Ae:=Jl h
def Zq:Pure Tryz.prog 164 [.b true] (.t []):=by
 refine Y0 kZ ?_;have hs:=Sn
 conv=>whnf
 repeat'((first|apply st|(apply sq;intro K U)|(apply si;intro A B Y Z)|(apply Y;clear Z B Y A)|(apply U;clear U K)|refine EA ?_|fail)<;>conv=>whnf)
 all_goals exact AI rfl
abbrev Di:V:= .Jd 242 (.a [])
def YD (xs:List Int) (x:Int):Int:=(Bj (fun y (_:Unit)=>(x==y,())) xs 0 ()).1
def KJ {α:Type} (f:α→Bool): ∀(xs:List α) (k:Nat),(decide ((Bj (fun y (_:Unit)=>(f y,())) xs k ()).1≥0))=xs.any f
 | [],_=>rfl
 | y::r,k=>by
   simp only[Bj,Q7];cases f y
   ·simpa using KJ f r (k+1)
   ·simp
def Q1 (xs:List Int) (x:Int):xs.any (x== ·)=xs.contains x:=by
 induction xs with
 | nil=>rfl
 | cons y r ih=>rw[Q7,List.contains_cons,ih]
def cd (xs:List Int) (x:Int):decide (YD xs x≥0)=xs.contains x:=by
 rw[←Q1];exact KJ (x== ·) xs 0
def SR (xs:List Int) (f:Bool) (x:Int):Pure Tryz.prog 193 [.l (iL xs) f,eI x] (eI (YD xs x)):=by
 refine Pure.fit (by kernel_rfl) fun hf=>?_
 have hxl:=QF hf.1;have hM:=Mx;refine jY kZ ?_;have hs:=Sn
 conv=>whnf
 repeat'((first|apply st|(apply sq;intro K U)|(apply si;intro A B Y Z)|(apply Y;clear Z B Y A)|(apply U;clear U K)|fail)<;>conv=>whnf)
 refine CZ xs.length (fun k (_:Unit)=>[(8,eI (BL k))]) (fun _ _=>[]) (fun k _=>YD xs x=(Bj (fun y (_:Unit)=>(x==y,())) (xs.drop k) k ()).1) () rfl rfl hs ?_;clear hs;rintro k - σ hk hn hs;have hck:BL k=k:=AL (by omega);rcases BS xs hk with⟨y,hy,hlt⟩|hke
 ·rw[drop_cons hy,Bj]at hn
  conv=>whnf
  repeat'((first|apply st|(apply sq;intro K U)|(apply si;intro A B Y Z)|(apply Y;clear Z B Y A)|(apply U;clear U K)|refine⟨rfl,?_⟩|refine ix ?_|(refine Cs (fun hc=>?_)<;>(try rw[hc])<;>clear hc)|(constructor<;>intro hc<;>(try rw[hc])<;>(replace hc:=bp hc))|clear U K)<;>conv=>whnf)
  ·exact AI (by rw[hn,hc,hck];simp)
  ·exact⟨hlt,(),rfl,by rw[hn];simp[hc],hs⟩
 ·rw[An hke,Bj]at hn
  conv=>whnf
  repeat'((first|apply st|(apply sq;intro K U)|(apply si;intro A B Y Z)|(apply Y;clear Z B Y A)|(apply U;clear U K)|refine⟨rfl,?_⟩|(refine EV (fun hc=>?_)<;>(try rw[hc])<;>clear hc)|clear U K)<;>conv=>whnf)
  exact AI (by rw[hn])
def Dl (xs:List Int) (f:Bool) (x:Int):Pure Tryz.prog 172 [.l (iL xs) f,eI x] (.b (xs.contains x)):=by
 refine jn kZ ?_;have hs:=Sn
 conv=>whnf
 repeat'((first|apply st|(apply sq;intro K U)|(apply si;intro A B Y Z)|(apply Y;clear Z B Y A)|(apply U;clear U K)|refine⟨rfl,?_⟩|refine Pure.use (SR _ _ _) ?_|fail)<;>conv=>whnf)
 all_goals exact AI (by rw[←cd])
def OE (n:Int):Pure Tryz.prog 211 [eI n] (.b (P6 n)):=by
 refine jQ kZ ?_;have hs:=Sn
 conv=>whnf
 repeat'((first|apply st|(apply sq;intro K U)|(apply si;intro A B Y Z)|(apply Y;clear Z B Y A)|(apply U;clear U K)|refine⟨rfl,?_⟩|(constructor<;>intro hc<;>(try rw[hc])<;>(replace hc:=bp hc))|fail)<;>conv=>whnf)
 all_goals exact AI (by simp[P6, *]<;>omega)
def ND (f:Fact):Bm f=(decide (2≤f.op)&&decide (f.op≤4)):=by
 rw[Kk];simp only[Bm,FU,BY,Dn,CY];omega
def ML (f:Fact):Pure Tryz.prog 150 [.a (xF f)] (.b (Bm f)):=by
 refine kB kZ ?_;have hs:=Sn
 conv=>whnf
 repeat'((first|apply st|(apply sq;intro K U)|(apply si;intro A B Y Z)|(apply Y;clear Z B Y A)|(apply U;clear U K)|refine⟨rfl,?_⟩|(constructor<;>intro hc<;>(try rw[hc])<;>(replace hc:=bp hc))|fail)<;>conv=>whnf)
 all_goals exact AI (by rw[ND];simp[*]<;>omega)
def VE (s c:Nat) (hs0:s<18446744073709551616) (hc:c<64):Pure Tryz.prog 176 [eU s,eI c] (eU (s|||2 ^ c)):=by
 refine jk kZ ?_;have hs:=Sn
 conv=>whnf
 repeat'((first|(apply sq;intro K U)|(apply si;intro A B Y Z)|(apply Y;clear Z B Y A)|(apply U;clear U K)|fail)<;>conv=>whnf)
 refine⟨Int.natCast_nonneg _,?_⟩
 conv=>whnf
 repeat'((first|apply st|(apply Y;clear Z B Y A)|(apply U;clear U K)|refine⟨rfl,?_⟩|fail)<;>conv=>whnf)
 exact AI (by rw[Jb,VJ hc,J1 hs0 (JC hc)])
def Mw (s c:Nat) (hs0:s<18446744073709551616) (hc:c<64):Pure Tryz.prog 152 [eU s,eI c] (.b (s.testBit c)):=by
 refine j9 kZ ?_;have hs:=Sn
 conv=>whnf
 repeat'((first|(apply sq;intro K U)|(apply si;intro A B Y Z)|(apply Y;clear Z B Y A)|(apply U;clear U K)|fail)<;>conv=>whnf)
 refine⟨Int.natCast_nonneg _,?_⟩
 conv=>whnf
 repeat'((first|apply st|(apply Y;clear Z B Y A)|(apply U;clear U K)|refine⟨rfl,?_⟩|fail)<;>conv=>whnf)
 refine AI ?_;rw[Jb,VI hc];have h1:s >>> c<18446744073709551616:=by rw[Nat.shiftRight_eq_div_pow];exact Nat.lt_of_le_of_lt (Nat.div_le_self _ _) hs0
 have h2:bits .and .u64 ((s >>> c:Nat):Int) 1=((s >>> c&&&1:Nat):Int):=KK h1 (show 1<_ by decide);rw[h2];simp only[Nat.testBit,Nat.and_comm 1];congr 1;rcases Nat.mod_two_eq_zero_or_one (s >>> c)with h|h<;>simp[Nat.and_one_is_mod,h]
def cY (op:Int):Pure Tryz.prog 220 [eI op] (eI (B1 op)):=by
 refine jJ kZ ?_;have hs:=Sn
 conv=>whnf
 repeat'((first|apply st|(apply sq;intro K U)|(apply si;intro A B Y Z)|(apply Y;clear Z B Y A)|(apply U;clear U K)|refine⟨rfl,?_⟩|(constructor<;>intro hc<;>(try rw[hc])<;>(replace hc:=bp hc))|clear U K)<;>conv=>whnf)
 all_goals exact AI (by simp[B1, *])
def UB (b:Bool):Pure Tryz.prog 215 [.b b] (eI (if b then 0 else 2)):=by
 refine jN kZ ?_;have hs:=Sn
 conv=>whnf
 repeat'((first|apply st|(apply sq;intro K U)|(apply si;intro A B Y Z)|(apply Y;clear Z B Y A)|(apply U;clear U K)|(constructor<;>intro hc<;>(try rw[hc])<;>(replace hc:=bp hc))|clear U K)<;>conv=>whnf)
 all_goals exact AI (by simp[*])
def HX {S:Type} (g:FuncId) (fi ca:List V) (H:S→List At) (stp:Int→S→Bool×S) (D:Int→S→Prop) (hx:C2 Tryz.prog (.f (.func g) fi ca) eI H stp D) (xs:List Int) (f:Bool) (s0:S) (hd:TX stp D xs s0) :
    Bd Tryz.prog 103 [.l (iL xs) f,.f (.func g) fi ca] (H s0) fun r post=>r= .ret (eI (Bj stp xs 0 s0).1)∧post=H (Bj stp xs 0 s0).2:=by
 intro σ hs;refine BC.fit (by kernel_rfl) fun hf=>?_
 have hxl:=QF hf.1;have hM:=Mx;refine Y3 kZ ?_
 conv=>whnf
 repeat'((first|apply st|(apply sq;intro K U)|(apply si;intro A B Y Z)|(apply Y;clear Z B Y A)|(apply U;clear U K)|fail)<;>conv=>whnf)
 refine CZ xs.length (fun k (_:S)=>[(8,eI (BL k))]) (fun _ s=>H s) (fun k s=>TX stp D (xs.drop k) s∧Bj stp xs 0 s0=Bj stp (xs.drop k) k s) s0 rfl ⟨hd,rfl⟩ hs ?_;clear hs;rintro k s σ hk ⟨hd,hn⟩ hs;have hck:BL k=k:=AL (by omega);rcases BS xs hk with⟨y,hy,hlt⟩|hke
 ·rw[drop_cons hy]at hn hd
  obtain⟨hd1,hd2⟩:=hd;rw[Bj]at hn
  conv=>whnf
  repeat'((first|apply st|(apply sq;intro K U)|(apply si;intro A B Y Z)|(apply Y;clear Z B Y A)|(apply U;clear U K)|refine⟨rfl,?_⟩|refine ix ?_|(refine Cs (fun hc=>?_)<;>(try rw[hc])<;>clear hc)|fail)<;>conv=>whnf)
  refine hx.use hd1 hs ?_;clear hs;intro σ hs
  conv=>whnf
  repeat'((first|apply st|(apply sq;intro K U)|(apply si;intro A B Y Z)|(apply Y;clear Z B Y A)|(apply U;clear U K)|refine⟨rfl,?_⟩|(constructor<;>intro hc<;>(try rw[hc])<;>(replace hc:=bp hc))|clear U K)<;>conv=>whnf)
  ·rw[hc,if_pos rfl]at hn
   rw[hn];exact Ar hs (List.Sublist.refl _) (by rw[hck];exact .refl _) fun σ' hs'=>⟨_,⟨rfl,rfl⟩,hs'⟩
  ·rw[hc,if_neg (by decide)]at hn
   exact⟨hlt,_,rfl,⟨hd2,hn⟩,hs⟩
 ·rw[An hke,Bj]at hn
  conv=>whnf
  repeat'((first|apply st|(apply sq;intro K U)|(apply si;intro A B Y Z)|(apply Y;clear Z B Y A)|(apply U;clear U K)|refine⟨rfl,?_⟩|(refine EV (fun hc=>?_)<;>(try rw[hc])<;>clear hc)|clear U K)<;>conv=>whnf)
  rw[hn];exact Ar hs (List.Sublist.refl _) (.refl _) fun σ' hs'=>⟨_,⟨rfl,rfl⟩,hs'⟩
section
variable {S:Type} (g:FuncId) (fi ca:List V) (H:S→List At)
def F2 (stp:Int→S→Bool×S) (D:Int→S→Prop) (hx:C2 Tryz.prog (.f (.func g) fi ca) eI H stp D) (xs:List Int) (f:Bool) (s0:S) (hd:TX stp D xs s0) :
    Bd Tryz.prog 72 [.l (iL xs) f,.f (.func g) fi ca] (H s0) fun r post=>r= .ret (.b (decide ((Bj stp xs 0 s0).1≥0)))∧post=H (Bj stp xs 0 s0).2:=by
 intro σ hs;refine eM kZ ?_
 conv=>whnf
 repeat'((first|(apply sq;intro K U)|(apply si;intro A B Y Z)|(apply Y;clear Z B Y A)|(apply U;clear U K)|fail)<;>conv=>whnf)
 refine(HX g fi ca H stp D hx xs f s0 hd).use (rest:=[]) (by simpa using hs) ?_;rintro r post σ ⟨rfl,rfl⟩ hs
 conv=>whnf
 repeat'((first|apply st|(apply Y;clear Z B Y A)|(apply U;clear U K)|refine⟨rfl,?_⟩|fail)<;>conv=>whnf)
 exact Ar hs (by simp) (.refl _) fun σ' hs'=>⟨_,⟨rfl,rfl⟩,hs'⟩
def gS (stp:Int→S→Bool×S) (D:Int→S→Prop) (hx:C2 Tryz.prog (.f (.func g) fi ca) eI H stp D):C2 Tryz.prog (.f (.func 217) [] [.rp [.f (.func g) fi ca]]) eI H (fun y s=>(!(stp y s).1,(stp y s).2)) D:=by
 intro y s hd σ hs;refine Bl ?_;show BC Tryz.prog 217 ([]++[eI y]++[.rp [.f (.func g) fi ca]]) σ _;refine Yv kZ ?_
 conv=>whnf
 repeat'((first|apply st|(apply sq;intro K U)|(apply si;intro A B Y Z)|(apply Y;clear Z B Y A)|(apply U;clear U K)|fail)<;>conv=>whnf)
 refine hx.use hd hs ?_;clear hs;intro σ hs
 conv=>whnf
 repeat'((first|apply st|(apply Y;clear Z B Y A)|(apply U;clear U K)|fail)<;>conv=>whnf)
 exact Ar hs (List.Sublist.refl _) (.refl _) fun σ' hs'=>⟨rfl,hs'⟩
def ZA (stp:Int→S→Bool×S) (D:Int→S→Prop) (hx:C2 Tryz.prog (.f (.func g) fi ca) eI H stp D) (xs:List Int) (f:Bool) (s0:S) (hd:TX stp D xs s0) :
    Bd Tryz.prog 177 [.l (iL xs) f,.f (.func g) fi ca] (H s0) fun r post=>r= .ret (.b (Ca stp xs s0).1)∧post=H (Ca stp xs s0).2:=by
 intro σ hs;obtain⟨e1,e2⟩:=LN (stp:=stp) xs 0 s0;refine Yy kZ ?_
 conv=>whnf
 repeat'((first|(apply sq;intro K U)|(apply si;intro A B Y Z)|(apply Y;clear Z B Y A)|(apply U;clear U K)|fail)<;>conv=>whnf)
 refine(F2 217 [] [.rp [.f (.func g) fi ca]] H _ D (gS g fi ca H stp D hx) xs f s0 (QT xs s0 hd)).use (rest:=[]) (by simpa using hs) ?_;rintro r post σ ⟨rfl,rfl⟩ hs;rw[e2];rw[e1]at hs
 conv=>whnf
 repeat'((first|apply st|(apply Y;clear Z B Y A)|(apply U;clear U K)|fail)<;>conv=>whnf)
 exact Ar hs (by simp) (by rw[Bool.not_not];exact .refl _) fun σ' hs'=>⟨_,⟨rfl,rfl⟩,hs'⟩
def Qv (stp:Fact→S→Bool×S) (D:Fact→S→Prop) (hx:C2 Tryz.prog (.f (.func g) fi ca) (fun y=> .a (xF y)) H stp D) (xs:List Fact) (f:Bool) (s0:S) (hxl:xs.length≤Ae) (hd:TX stp D xs s0) :
    Bd Tryz.prog 253 [.l (facts xs) f,.f (.func g) fi ca] (H s0) fun r post=>r= .ret (eI (Bj stp xs 0 s0).1)∧post=H (Bj stp xs 0 s0).2:=by
 intro σ hs;have hM:=Mx;refine ig kZ ?_
 conv=>whnf
 repeat'((first|apply st|(apply sq;intro K U)|(apply si;intro A B Y Z)|(apply Y;clear Z B Y A)|(apply U;clear U K)|fail)<;>conv=>whnf)
 refine CZ xs.length (fun k (_:S)=>[(8,eI (BL k))]) (fun _ s=>H s) (fun k s=>TX stp D (xs.drop k) s∧Bj stp xs 0 s0=Bj stp (xs.drop k) k s) s0 rfl ⟨hd,rfl⟩ hs ?_;clear hs;rintro k s σ hk ⟨hd,hn⟩ hs;have hck:BL k=k:=AL (by omega);rcases BS xs hk with⟨y,hy,hlt⟩|hke
 ·rw[drop_cons hy]at hn hd
  obtain⟨hd1,hd2⟩:=hd;rw[Bj]at hn
  conv=>whnf
  repeat'((first|apply st|(apply sq;intro K U)|(apply si;intro A B Y Z)|(apply Y;clear Z B Y A)|(apply U;clear U K)|refine⟨rfl,?_⟩|refine⟨kZ,?_⟩|refine TP ?_|(refine Cs (fun hc=>?_)<;>(try rw[hc])<;>clear hc)|fail)<;>conv=>whnf)
  refine hx.use hd1 hs ?_;clear hs;intro σ hs
  conv=>whnf
  repeat'((first|apply st|(apply sq;intro K U)|(apply si;intro A B Y Z)|(apply Y;clear Z B Y A)|(apply U;clear U K)|refine⟨rfl,?_⟩|(constructor<;>intro hc<;>(try rw[hc])<;>(replace hc:=bp hc))|clear U K)<;>conv=>whnf)
  ·rw[hc,if_pos rfl]at hn
   rw[hn];exact Ar hs (List.Sublist.refl _) (by rw[hck];exact .refl _) fun σ' hs'=>⟨_,⟨rfl,rfl⟩,hs'⟩
  ·rw[hc,if_neg (by decide)]at hn
   exact⟨hlt,_,rfl,⟨hd2,hn⟩,hs⟩
 ·rw[An hke,Bj]at hn
  conv=>whnf
  repeat'((first|apply st|(apply sq;intro K U)|(apply si;intro A B Y Z)|(apply Y;clear Z B Y A)|(apply U;clear U K)|refine⟨rfl,?_⟩|(refine EV (fun hc=>?_)<;>(try rw[hc])<;>clear hc)|clear U K)<;>conv=>whnf)
  rw[hn];exact Ar hs (List.Sublist.refl _) (.refl _) fun σ' hs'=>⟨_,⟨rfl,rfl⟩,hs'⟩
def MB (stp:Fact→S→Bool×S) (D:Fact→S→Prop) (hx:C2 Tryz.prog (.f (.func g) fi ca) (fun y=> .a (xF y)) H stp D) (xs:List Fact) (f:Bool) (s0:S) (hxl:xs.length≤Ae) (hd:TX stp D xs s0) :
    Bd Tryz.prog 218 [.l (facts xs) f,.f (.func g) fi ca] (H s0) fun r post=>r= .ret (.b (decide ((Bj stp xs 0 s0).1≥0)))∧post=H (Bj stp xs 0 s0).2:=by
 intro σ hs;refine jL kZ ?_
 conv=>whnf
 repeat'((first|(apply sq;intro K U)|(apply si;intro A B Y Z)|(apply Y;clear Z B Y A)|(apply U;clear U K)|fail)<;>conv=>whnf)
 refine(Qv g fi ca H stp D hx xs f s0 hxl hd).use (rest:=[]) (by simpa using hs) ?_;rintro r post σ ⟨rfl,rfl⟩ hs
 conv=>whnf
 repeat'((first|apply st|(apply Y;clear Z B Y A)|(apply U;clear U K)|refine⟨rfl,?_⟩|fail)<;>conv=>whnf)
 exact Ar hs (by simp) (.refl _) fun σ' hs'=>⟨_,⟨rfl,rfl⟩,hs'⟩
def gR (stp:Fact→S→Bool×S) (D:Fact→S→Prop) (hx:C2 Tryz.prog (.f (.func g) fi ca) (fun y=> .a (xF y)) H stp D):C2 Tryz.prog (.f (.func 219) [] [.rp [.f (.func g) fi ca]]) (fun y=> .a (xF y)) H (fun y s=>(!(stp y s).1,(stp y s).2)) D:=by
 intro y s hd σ hs;refine Bl ?_;show BC Tryz.prog 219 ([]++[.a (xF y)]++[.rp [.f (.func g) fi ca]]) σ _;refine jK kZ ?_
 conv=>whnf
 repeat'((first|apply st|(apply sq;intro K U)|(apply si;intro A B Y Z)|(apply Y;clear Z B Y A)|(apply U;clear U K)|refine⟨kZ,?_⟩|fail)<;>conv=>whnf)
 refine hx.use hd hs ?_;clear hs;intro σ hs
 conv=>whnf
 repeat'((first|apply st|(apply Y;clear Z B Y A)|(apply U;clear U K)|fail)<;>conv=>whnf)
 exact Ar hs (List.Sublist.refl _) (.refl _) fun σ' hs'=>⟨rfl,hs'⟩
def Y9 (stp:Fact→S→Bool×S) (D:Fact→S→Prop) (hx:C2 Tryz.prog (.f (.func g) fi ca) (fun y=> .a (xF y)) H stp D) (xs:List Fact) (f:Bool) (s0:S) (hxl:xs.length≤Ae) (hd:TX stp D xs s0) :
    Bd Tryz.prog 179 [.l (facts xs) f,.f (.func g) fi ca] (H s0) fun r post=>r= .ret (.b (Ca stp xs s0).1)∧post=H (Ca stp xs s0).2:=by
 intro σ hs;obtain⟨e1,e2⟩:=LN (stp:=stp) xs 0 s0;refine jj kZ ?_
 conv=>whnf
 repeat'((first|(apply sq;intro K U)|(apply si;intro A B Y Z)|(apply Y;clear Z B Y A)|(apply U;clear U K)|fail)<;>conv=>whnf)
 refine(MB 219 [] [.rp [.f (.func g) fi ca]] H _ D (gR g fi ca H stp D hx) xs f s0 hxl (QT xs s0 hd)).use (rest:=[]) (by simpa using hs) ?_;rintro r post σ ⟨rfl,rfl⟩ hs;rw[e2];rw[e1]at hs
 conv=>whnf
 repeat'((first|apply st|(apply Y;clear Z B Y A)|(apply U;clear U K)|fail)<;>conv=>whnf)
 exact Ar hs (by simp) (by rw[Bool.not_not];exact .refl _) fun σ' hs'=>⟨_,⟨rfl,rfl⟩,hs'⟩
end
abbrev Rj (f:Int→Bool):Int→Unit→Bool×Unit:=fun y _=>(f y,())
def Nd {g:FuncId} {fi ca:List V} {f:Int→Bool} {D:Int→Unit→Prop} (h: ∀y,D y ()→Pure Tryz.prog g (fi++[eI y]++ca) (.b (f y))):C2 Tryz.prog (.f (.func g) fi ca) eI (fun _=>[]) (Rj f) D:=by
 intro y s hd σ hs;refine Bl ?_;show BC Tryz.prog g (fi++[eI y]++ca) σ _;refine BC.mono ((h y hd).use (k:=fun v σ'=>v= .b (f y)∧Sat σ' []) (kp:=fun _ _=>False) ⟨rfl,Sat.nil⟩) ?_;rintro(v|v) σ' hq
 ·obtain⟨rfl,h⟩:=hq
  exact⟨rfl,h⟩
 ·exact hq.elim
def dU {g:FuncId} {fi ca:List V} {f:Int→Bool} {xs:List Int} (b:Bool) (h: ∀y∈xs,Pure Tryz.prog g (fi++[eI y]++ca) (.b (f y))):Pure Tryz.prog 177 [.l (iL xs) b,.f (.func g) fi ca] (.b (xs.all f)):=by
 have:=ZA g fi ca (fun _=>[]) (Rj f) (fun y _=>y∈xs) (Nd fun y hy=>h y hy) xs b () (GW fun y hy _=>hy);rw[Ih]at this;exact Pure.of (BC.mono (this emp Sat.nil) fun r σ' ⟨post,⟨h1,h2⟩,h3⟩=>h1)
def Rs (g:FuncId) (fi ca:List V) (f:Int→Bool):Prop:= ∀y:Int,Pure Tryz.prog g (fi++[eI y]++ca) (.b (f y))
def Rs.use {g:FuncId} {fi ca:List V} {f:Int→Bool} (h:Rs g fi ca f) {y:Int} {σ:AH} {k kp:V→AH→Prop} (hk:k (.b (f y)) σ):A0 Tryz.prog (.f (.func g) fi ca) [eI y] σ (qk k kp):=Bl ((h y).use hk)
def cb (g:FuncId) (fi ca:List V) (L:List At) (p:Int→Bool) (hx:C2 Tryz.prog (.f (.func g) fi ca) eI (fun _:Unit=>L) (Rj p) (fun _ _=>True)) (xs:List Int) (f:Bool):Bd Tryz.prog 286 [.l (iL xs) f,.f (.func g) fi ca] L fun r post=>r= .ret (.l (iL (xs.filter p)) false)∧post=L:=by
 intro σ hs;refine BC.fit (by kernel_rfl) fun hf=>?_
 have hxl:=QF hf.1;have hM:=Mx;refine Yt kZ ?_
 conv=>whnf
 repeat'((first|apply st|(apply sq;intro K U)|(apply si;intro A B Y Z)|(apply Y;clear Z B Y A)|(apply U;clear U K)|fail)<;>conv=>whnf)
 refine CZ xs.length (fun k v=>[(5,v),(10,eI (BL k))]) (fun k v=>L++[.own v 1 (iL ((xs.take k).filter p))]) (fun _ _=>True) (.l [] true) rfl trivial (Gg hs 1) ?_;clear hs;rintro k v σ hk - hs;have hfl:=OJ p (xs.take k);rw[MS]at hfl;rcases BS xs hk with⟨y,hy,hlt⟩|hke
 ·have hst:(xs.take (k+1)).filter p=if p y then(xs.take k).filter p++[y]else(xs.take k).filter p:=by
   rw[AX hy,List.filter_append];cases hp:p y<;>simp[hp]
  generalize (xs.take k).filter p=zs at *
  conv=>whnf
  repeat'((first|apply st|(apply sq;intro K U)|(apply si;intro A B Y Z)|(apply Y;clear Z B Y A)|(apply U;clear U K)|refine⟨rfl,?_⟩|refine ix ?_|(refine Cs (fun hc=>?_)<;>(try rw[hc])<;>clear hc)|refine hx.sB (s:=()) (rest:=[_]) trivial hs (fun σ hs=>?_)|(constructor<;>intro hc<;>(try rw[hc])<;>(replace hc:=bp hc)<;>(try simp(disch:=omega) only[BQ,wrap64,AL]at hc))|clear U K)<;>conv=>whnf)
  ·refine HS (Fo hs L.length (xs:=zs) (x:=y) List.getElem?_concat_length (by omega) Co fun v' σ' hs' hsl=>?_)
   rw[List.set_append_right _ _ (Ja _),Nat.sub_self]at hs';replace hs:=hs'
   conv=>whnf
   repeat'((first|(apply si;intro A B Y Z)|(apply Y;clear Z B Y A)|(apply U;clear U K)|refine⟨rfl,?_⟩|clear U K)<;>conv=>whnf)
   rw[if_pos (by assumption)]at hst;exact⟨hlt,_,rfl,trivial,by rw[hst];exact hs⟩
  ·rw[if_neg (by simp[*])]at hst
   exact⟨hlt,_,rfl,trivial,by rw[hst];exact hs⟩
 ·conv=>whnf
  repeat'((first|apply st|(apply sq;intro K U)|(apply si;intro A B Y Z)|(apply Y;clear Z B Y A)|(apply U;clear U K)|refine⟨rfl,?_⟩|(refine EV (fun hc=>?_)<;>(try rw[hc])<;>clear hc)|clear U K)<;>conv=>whnf)
  rw[BK hke]at hs;obtain⟨σ2,h1,h2,h3⟩:=H2 hs L.length List.getElem?_concat_length;refine GM h1 h2 ⟨_,⟨rfl,rfl⟩,?_⟩;rw[List.eraseIdx_append_of_length_le (Ja _),Nat.sub_self]at h3;simpa using h3
def Z0 (g:FuncId) (fi ca:List V) (p:Int→Bool) (hpf:Rs g fi ca p) (xs:List Int) (u:V) (hxl:xs.length≤Ae):Bd Tryz.prog 286 [u,.f (.func g) fi ca] [.own u 1 (iL xs)] fun r post=>r= .ret (.l (iL (xs.filter p)) false)∧post= [.own u 1 (iL xs)]:=by
 intro σ hs;have hM:=Mx;refine Yt kZ ?_
 conv=>whnf
 repeat'((first|apply st|(apply sq;intro K U)|(apply si;intro A B Y Z)|(apply Y;clear Z B Y A)|(apply U;clear U K)|refine lo ?_|fail)<;>conv=>whnf)
 refine CZ xs.length (fun k v=>[(5,v),(10,eI (BL k))]) (fun k v=>[.own u 1 (iL xs),.own v 1 (iL ((xs.take k).filter p))]) (fun _ _=>True) (.l [] true) rfl trivial (Gg hs 1) ?_;clear hs;rintro k v σ hk - hs;have hfl:=OJ p (xs.take k);rw[MS]at hfl;rcases BS xs hk with⟨y,hy,hlt⟩|hke
 ·have hst:(xs.take (k+1)).filter p=if p y then(xs.take k).filter p++[y]else(xs.take k).filter p:=by
   rw[AX hy,List.filter_append];cases hp:p y<;>simp[hp]
  generalize (xs.take k).filter p=zs at *
  conv=>whnf
  repeat'((first|apply st|(apply sq;intro K U)|(apply si;intro A B Y Z)|(apply Y;clear Z B Y A)|(apply U;clear U K)|refine⟨rfl,?_⟩|refine oc ?_|refine lQ ?_|refine aq fun v σ hs hsl=>?_|(refine Cs (fun hc=>?_)<;>(try rw[hc])<;>clear hc)|refine Rs.use hpf ?_|(constructor<;>intro hc<;>(try rw[hc])<;>(replace hc:=bp hc))|clear U K)<;>conv=>whnf)
  ·rw[if_pos (by assumption)]at hst
   exact⟨hlt,_,rfl,trivial,by rw[hst];exact hs.take 2⟩
  ·rw[if_neg (by simp[*])]at hst
   exact⟨hlt,_,rfl,trivial,by rw[hst];exact hs.take 2⟩
 ·conv=>whnf
  repeat'((first|apply st|(apply sq;intro K U)|(apply si;intro A B Y Z)|(apply Y;clear Z B Y A)|(apply U;clear U K)|refine⟨rfl,?_⟩|(refine EV (fun hc=>?_)<;>(try rw[hc])<;>clear hc)|clear U K)<;>conv=>whnf)
  rw[BK hke]at hs;obtain⟨σ2,h1,h2,h3⟩:=H2 hs 1 rfl;exact GM h1 h2 ⟨_,⟨rfl,rfl⟩,h3⟩
def mL:Rs 289 [] [] (· != 0):=by
 intro y;refine iE kZ ?_;have hs:=Sn
 conv=>whnf
 repeat'((first|apply st|(apply sq;intro K U)|(apply si;intro A B Y Z)|(apply Y;clear Z B Y A)|(apply U;clear U K)|refine⟨rfl,?_⟩|fail)<;>conv=>whnf)
 all_goals exact AI rfl
def aW (xs:List Int) (u:V) (hxl:xs.length≤Ae):Bd Tryz.prog 285 [u] [.own u 1 (iL xs)] fun r post=>r= .ret (.l (iL (xs.filter (· != 0))) false)∧post= [.own u 1 (iL xs)]:=by
 intro σ hs;refine iH kZ ?_
 conv=>whnf
 repeat'((first|(apply sq;intro K U)|(apply si;intro A B Y Z)|(apply Y;clear Z B Y A)|(apply U;clear U K)|fail)<;>conv=>whnf)
 refine(Z0 289 [] [] (· != 0) mL xs u hxl).use (rest:=[]) hs ?_;clear hs;rintro r post σ ⟨rfl,rfl⟩ hs
 conv=>whnf
 repeat'((first|apply st|(apply Y;clear Z B Y A)|(apply U;clear U K)|fail)<;>conv=>whnf)
 exact Ar hs (by simp) (.refl _) fun σ' hs'=>⟨_,⟨rfl,rfl⟩,hs'⟩
def Vq (g : List (List Int)) (f:Bool):Pure Tryz.prog 249 [.l (EZ g) f] (.b (Df g)):=by
 refine Pure.fit (by kernel_rfl) fun hf=>?_
 have⟨g1,g2⟩:=Ts hf.1;have hM:=Mx;refine il kZ ?_;have hs:=Sn;by_cases h16:g.length≤16
 ·conv=>whnf
  repeat'((first|apply st|(apply sq;intro K U)|(apply si;intro A B Y Z)|(apply Y;clear Z B Y A)|(apply U;clear U K)|refine⟨rfl,?_⟩|(constructor<;>intro hc<;>(try rw[hc])<;>(replace hc:=bp hc)<;>(try simp(disch:=omega) only[BQ,wrap64,AL]at hc)<;>try(exfalso;omega))|fail)<;>conv=>whnf)
  all_goals try(exfalso;omega)
  refine CZ g.length (fun k (_:Unit)=>[(12,eI (BL k))]) (fun _ _=>[]) (fun k _=>Df g=HY k (g.drop k)) () rfl (by simp[Df,h16]) hs ?_;clear hs;rintro k - σ hk hn hs;have hck:BL k=k:=AL (by omega);rcases BS g hk with⟨l,hl,hlt⟩|hke
  ·have hll:=g2 l (Cj hl)
   rw[drop_cons hl,HY]at hn;by_cases h3:l.length≤3
   ·rw[decide_eq_true h3,EW]at hn
    conv=>whnf
    repeat'((first|apply st|(apply sq;intro K U)|(apply si;intro A B Y Z)|(apply Y;clear Z B Y A)|(apply U;clear U K)|refine⟨rfl,?_⟩|refine ix ?_|(refine Cs (fun hc=>?_)<;>(try rw[hc])<;>clear hc)|(constructor<;>intro hc<;>(try rw[hc])<;>(replace hc:=bp hc)<;>(try simp(disch:=omega) only[BQ,wrap64,AL]at hc)<;>try(exfalso;omega))|fail)<;>conv=>whnf)
    all_goals try(exfalso;omega)
    refine CZ l.length (fun j (_:Unit)=>[(22,eI (BL j))]) (fun _ _=>[]) (fun j _=>Df g=(Kt k (l.take j) (l.drop j)&&HY (k+1) (g.drop (k+1)))) () rfl hn hs ?_;clear hs hn;rintro j - σ hj hn hs;rcases BS l hj with⟨c,hc0,hjlt⟩|hje
    ·rw[drop_cons hc0,Kt,ez]at hn
     have hw:IntKind.i64.wrap (3+BL k)=3+(k:Int):=by rw[hck,wrap64 (by omega) (by omega)]
     conv=>whnf
     repeat'((first|apply st|(apply sq;intro K U)|(apply si;intro A B Y Z)|(apply Y;clear Z B Y A)|(apply U;clear U K)|refine⟨rfl,?_⟩|refine ix ?_|refine rn ?_|(refine Cs (fun hc=>?_)<;>(try rw[hc])<;>clear hc)|refine Pure.use (Dl _ _ _) ?_|(constructor<;>intro hc<;>(try rw[hc])<;>(replace hc:=bp hc)<;>(try simp(disch:=omega) only[BQ,wrap64,AL]at hc))|clear U K)<;>conv=>whnf)
     ·exact AI (by rw[hn,hc];simp)
     ·exact⟨hjlt,(),rfl,by rw[hn,hc,AX hc0];simp[*],hs⟩
     ·exact AI (by(rw[hn];have: ¬c<3+(k:Int):=by omega);simp[this])
     ·exact AI (by(rw[hn];have: ¬3≤c:=by omega);simp[this])
    ·conv=>whnf
     repeat'((first|apply st|(apply sq;intro K U)|(apply si;intro A B Y Z)|(apply Y;clear Z B Y A)|(apply U;clear U K)|refine⟨rfl,?_⟩|(refine EV (fun hc=>?_)<;>(try rw[hc])<;>clear hc)|clear U K)<;>conv=>whnf)
     exact⟨hlt,(),rfl,by rw[hn,An hje];rfl,hs⟩
   ·conv=>whnf
    repeat'((first|apply st|(apply sq;intro K U)|(apply si;intro A B Y Z)|(apply Y;clear Z B Y A)|(apply U;clear U K)|refine⟨rfl,?_⟩|refine ix ?_|(refine Cs (fun hc=>?_)<;>(try rw[hc])<;>clear hc)|(constructor<;>intro hc<;>(try rw[hc])<;>(replace hc:=bp hc)<;>(try simp(disch:=omega) only[BQ,wrap64,AL]at hc)<;>try(exfalso;omega))|clear U K)<;>conv=>whnf)
    all_goals try(exfalso;omega)
    exact AI (by rw[hn];simp[h3])
  ·conv=>whnf
   repeat'((first|apply st|(apply sq;intro K U)|(apply si;intro A B Y Z)|(apply Y;clear Z B Y A)|(apply U;clear U K)|refine⟨rfl,?_⟩|(refine EV (fun hc=>?_)<;>(try rw[hc])<;>clear hc)|clear U K)<;>conv=>whnf)
   exact AI (by rw[hn,An hke];rfl)
 ·conv=>whnf
  repeat'((first|apply st|(apply sq;intro K U)|(apply si;intro A B Y Z)|(apply Y;clear Z B Y A)|(apply U;clear U K)|refine⟨rfl,?_⟩|(constructor<;>intro hc<;>(try rw[hc])<;>(replace hc:=bp hc)<;>(try simp(disch:=omega) only[BQ,wrap64,AL]at hc)<;>try(exfalso;omega))|clear U K)<;>conv=>whnf)
  all_goals try(exfalso;omega)
  exact AI (by simp[Df,h16])
def Sd (g:List (List Int)) (f:Bool):Pure Tryz.prog 208 [.l (EZ g) f] (eI (if Df g then 0 else 2)):=by
 refine jT kZ ?_;have hs:=Sn
 conv=>whnf
 repeat'((first|apply st|(apply sq;intro K U)|(apply si;intro A B Y Z)|(apply Y;clear Z B Y A)|(apply U;clear U K)|refine Pure.use (Vq _ _) ?_|(constructor<;>intro hc<;>(try rw[hc])<;>(replace hc:=bp hc))|clear U K)<;>conv=>whnf)
 all_goals exact AI (by simp[*])
def mM (n:Nat) (h:Int):C2 Tryz.prog (.f (.func 287) [] [.p n 0]) eI (fun _:Unit=>[.box n [eI h]]) (Rj (· != h)) (fun _ _=>True):=by
 intro y s _ σ hs;refine Bl ?_;show BC Tryz.prog 287 ([]++[eI y]++[.p n 0]) σ _;refine iG kZ ?_
 conv=>whnf
 repeat'((first|apply st|(apply sq;intro K U)|(apply si;intro A B Y Z)|(apply Y;clear Z B Y A)|(apply U;clear U K)|refine⟨rfl,?_⟩|refine ld ?_|fail)<;>conv=>whnf)
 exact Ar hs (List.Sublist.refl _) (.refl _) fun σ' hs'=>⟨rfl,hs'⟩
def XP (ls:List (List Int)):Ep ls []=false:=rfl
def UX (ls:List (List Int)) (x:Int) (r:List Int):Ep ls (x::r)=free ls x:=rfl
def XW {α:Type} {p:α→Bool} {xs:List α} {k:Nat} {x:α} (hx:xs[k]? =some x) (h:(xs.take k).find? p=none):(xs.take (k+1)).find? p=if p x then some x else none:=by
 rw[AX hx,List.find?_append,h];simp only[List.find?_cons,List.find?_nil,Option.none_or];cases p x<;>rfl
def XV {α:Type} {p:α→Bool} {xs:List α} {k:Nat} {x:α} (h:(xs.take k).find? p=some x):xs.find? p=some x:=by
 conv=>lhs;rw[←List.take_append_drop k xs]
 rw[List.find?_append,h];rfl
def VR (ls:List (List Int)):pick ls=(ls.find? (Ep ls)).bind List.head? :=rfl
set_option maxHeartbeats 4000000 in
def Zt (ls:List (List Int)) (f:Bool) (hok:Kq ls) (ht:total ls<Ae):Pure Tryz.prog 283 [.l (EZ ls) f] (.t [.l (iL (CA ls).1) false,.b (CA ls).2]):=by
 have hM:=Mx;refine iJ kZ ?_;have hs:=Sn
 conv=>whnf
 repeat'((first|apply st|(apply sq;intro K U)|(apply si;intro A B Y Z)|(apply Y;clear Z B Y A)|(apply U;clear U K)|fail)<;>conv=>whnf)
 refine GS (fun(x:List (List Int)×Bool×V×List Int)=>total x.1) (fun x=>[(0,.l (EZ x.1) x.2.1),(4,x.2.2.1)]) (fun x=>[.own x.2.2.1 1 (iL x.2.2.2)])
  (fun x=>Kq x.1∧x.2.2.2.length+total x.1≤total ls∧DD (total x.1) x.1 x.2.2.2=CA ls) (ls,f,.l [] true,[]) rfl ⟨hok,by simp,rfl⟩ (Gg hs 1) ?_
 clear hs;rintro⟨ls',f',v,out⟩ σ ⟨hok',hlen,hm⟩ hs;dsimp only at hok' hlen hm hs;dsimp only;have hol:=hok'.1
 conv=>whnf
 repeat'((first|apply st|(apply sq;intro K U)|(apply si;intro A B Y Z)|(apply Y;clear Z B Y A)|(apply U;clear U K)|fail)<;>conv=>whnf)
 refine CZ ls'.length (fun k (t:Bool)=>[(5,.b t),(16,eI (BL k))]) (fun _ _=>[.own v 1 (iL out)]) (fun k t=>(ls'.take k).find? (Ep ls')=none∧t=(ls'.take k).any fun l=> !l.isEmpty) false rfl ⟨rfl,rfl⟩ hs ?_;clear hs;rintro k t σ hk ⟨hfd,hta⟩ hs;rcases BS ls' hk with⟨l,hl,hlt⟩|hke
 ·have hfs:=XW (p:=Ep ls') hl hfd
  have has:((ls'.take (k+1)).any fun l=> !l.isEmpty)=(t|| !l.isEmpty):=by rw[AX hl,List.any_append,←hta];simp
  have hb:=hok'.2 _ (Cj hl);cases l with
  | nil=>
    have hnl:([]:List Int).length=0:=rfl;rw[XP,if_neg (by decide)]at hfs
    conv=>whnf
    repeat'((first|apply st|(apply sq;intro K U)|(apply si;intro A B Y Z)|(apply Y;clear Z B Y A)|(apply U;clear U K)|refine⟨rfl,?_⟩|refine ix ?_|(refine Cs (fun hc=>?_)<;>(try rw[hc])<;>clear hc)|(constructor<;>intro hc<;>(try rw[hc])<;>(replace hc:=bp hc)<;>(try simp(disch:=omega) only[BQ,wrap64,AL]at hc)<;>try(exfalso;omega))|clear U K)<;>conv=>whnf)
    exact⟨hlt,_,rfl,⟨hfs,by rw[has];simp⟩,hs⟩
  | cons x r=>
    have hx0:(x::r)[Int.toNat 0]? =some x:=rfl;have hnl:(x::r).length=r.length+1:=rfl;rw[UX]at hfs;simp only[List.isEmpty_cons,Bool.not_false,Bool.or_true]at has
    conv=>whnf
    repeat'((first|apply st|(apply sq;intro K U)|(apply si;intro A B Y Z)|(apply Y;clear Z B Y A)|(apply U;clear U K)|refine⟨rfl,?_⟩|refine ix ?_|(refine Cs (fun hc=>?_)<;>(try rw[hc])<;>clear hc)|(constructor<;>intro hc<;>(try rw[hc])<;>(replace hc:=bp hc)<;>(try simp(disch:=omega) only[BQ,wrap64,AL]at hc)<;>try(exfalso;omega))|fail)<;>conv=>whnf)
    refine CZ ls'.length (fun j (_:Unit)=>[(25,eI (BL j))]) (fun _ _=>[.own v 1 (iL out)]) (fun j _=>free ls' x=(ls'.drop j).all fun m=> !(m.drop 1).contains x) () rfl rfl hs ?_;clear hs;rintro j - σ hj hfr hs;rcases BS ls' hj with⟨m,hm0,hjlt⟩|hje
    ·have hmb:=(hok'.2 _ (Cj hm0)).1
     rw[drop_cons hm0,TV]at hfr;cases m with
     | nil=>
       have hml:([]:List Int).length=0:=rfl
       conv=>whnf
       repeat'((first|apply st|(apply sq;intro K U)|(apply si;intro A B Y Z)|(apply Y;clear Z B Y A)|(apply U;clear U K)|apply dr|refine⟨rfl,?_⟩|refine ix ?_|(refine Cs (fun hc=>?_)<;>(try rw[hc])<;>clear hc)|(constructor<;>intro hc<;>(try rw[hc])<;>(replace hc:=bp hc)<;>(try simp(disch:=omega) only[BQ,wrap64,AL]at hc)<;>try(exfalso;omega))|clear U K)<;>conv=>whnf)
       exact⟨hjlt,(),rfl,by rw[hfr];rfl,hs⟩
     | cons y s=>
       have hml:(y::s).length=s.length+1:=rfl
       conv=>whnf
       repeat'((first|apply st|(apply sq;intro K U)|(apply si;intro A B Y Z)|(apply Y;clear Z B Y A)|(apply U;clear U K)|apply dr|refine⟨rfl,?_⟩|refine ix ?_|(refine Cs (fun hc=>?_)<;>(try rw[hc])<;>clear hc)|(constructor<;>intro hc<;>(try rw[hc])<;>(replace hc:=bp hc)<;>(try simp(disch:=omega) only[BQ,wrap64,AL]at hc)<;>try(exfalso;omega))|fail)<;>conv=>whnf)
       refine R8 1 rfl (by omega) (fun _=>rfl) ?_
       conv=>whnf
       repeat'((first|apply st|(apply si;intro A B Y Z)|(apply Y;clear Z B Y A)|(apply U;clear U K)|apply dr|refine⟨rfl,?_⟩|refine F8 ?_|refine Pure.use (Dl _ _ _) ?_|(constructor<;>intro hc<;>(try rw[hc])<;>(replace hc:=bp hc))|clear U K)<;>conv=>whnf)
       ·rw[hc]at hfr
        have hfr2:free ls' x=false:=by rw[hfr];rfl
        rw[hfr2,if_neg (by decide)]at hfs;exact⟨hlt,true,rfl,⟨hfs,by rw[has]⟩,hs⟩
       ·exact⟨hjlt,(),rfl,by rw[hfr,hc];rfl,hs⟩
    ·rw[An hje]at hfr
     have hgood:free ls' x=true:=hfr;rw[hgood,if_pos rfl]at hfs;have hp:pick ls'=some x:=by rw[VR,XV hfs];rfl
     have htp:=HO hp
     conv=>whnf
     repeat'((first|apply st|(apply sq;intro K U)|(apply si;intro A B Y Z)|(apply Y;clear Z B Y A)|(apply U;clear U K)|refine⟨rfl,?_⟩|refine F8 ?_|refine ld ?_|refine s1 fun σ hs=>?_|refine aq fun v σ hs hsl=>?_|(refine EV (fun hc=>?_)<;>(try rw[hc])<;>clear hc)|(intro nn hnn;generalize hg:A8 _ nn _=σ;refine al hg fun hs=>?_;clear hg)|clear U K)<;>conv=>whnf)
     have hs2:Sat σ [.own v 1 (iL (out++[x])),.box nn [eI x]]:=hs;refine CZ ls'.length (fun k u=>[(11,u),(50,eI (BL k))]) (fun k u=>[.own v 1 (iL (out++[x])),.box nn [eI x],.own u 1 (EZ ((ls'.take k).map fun l=>l.filter (· != x)))]) (fun _ _=>True) (.l [] true) rfl trivial (Gg hs2 1) ?_;clear hs hs2;rintro q u σ hq - hs;rcases BS ls' hq with⟨w,hw,hqlt⟩|hqe
     ·conv=>whnf
      repeat'((first|apply st|(apply sq;intro K U)|(apply si;intro A B Y Z)|(apply Y;clear Z B Y A)|(apply U;clear U K)|refine⟨rfl,?_⟩|refine ix ?_|(refine Cs (fun hc=>?_)<;>(try rw[hc])<;>clear hc)|fail)<;>conv=>whnf)
      refine(cb 287 [] [.p nn 0] [.box nn [eI x]] (· != x) (mM nn x) w false).use (rest:=[_,_]) (hs.perm (.swap _ _ _)) ?_;clear hs;rintro rr post σ ⟨rfl,rfl⟩ hs
      conv=>whnf
      repeat'((first|(apply si;intro A B Y Z)|(apply Y;clear Z B Y A)|(apply U;clear U K)|refine⟨rfl,?_⟩|refine aq fun v σ hs hsl=>?_|clear U K)<;>conv=>whnf)
      refine⟨hqlt,_,rfl,trivial,?_⟩;rw[AX hw,TN];exact hs.perm (.swap _ _ _)
     ·conv=>whnf
      repeat'((first|apply st|(apply sq;intro K U)|(apply si;intro A B Y Z)|(apply Y;clear Z B Y A)|(apply U;clear U K)|refine⟨rfl,?_⟩|(refine EV (fun hc=>?_)<;>(try rw[hc])<;>clear hc)|clear U K)<;>conv=>whnf)
      rw[BK hqe]at hs;refine fP hs 2 rfl fun σ' hs'=>?_
      conv=>whnf
      repeat'((first|apply st|(apply Y;clear Z B Y A)|(apply U;clear U K)|clear U K)<;>conv=>whnf)
      refine⟨(ls'.map fun l=>l.filter (· != x),false,v,out++[x]),htp,rfl,⟨hok'.filter x,by simp;omega,?_⟩,hs'.take 1⟩;rw[←Ln hp];exact hm
 ·rw[BK hke]at hfd hta
  have hp:pick ls'=none:=by rw[VR,hfd];rfl
  rw[Nx hp]at hm
  conv=>whnf
  repeat'((first|apply st|(apply sq;intro K U)|(apply si;intro A B Y Z)|(apply Y;clear Z B Y A)|(apply U;clear U K)|refine⟨rfl,?_⟩|(refine EV (fun hc=>?_)<;>(try rw[hc])<;>clear hc)|clear U K)<;>conv=>whnf)
  refine Bu ?_;rw[←hm];refine .t (.cons (hs.RL 0 rfl) (.cons ?_ .nil));have:(!t)=ls'.all List.isEmpty:=by rw[hta];simp[List.all_eq_not_any_not]
  rw[←this];exact .refl _
end Go.Gl
namespace Go.Gl
variable {P:Program} {σ:AH}
def Sat.lW {l:List At} {a:At} (h:Sat σ (l++[a])):Sat σ (a::l):=h.perm (by
 have:=Q8 (l₁:=l) (l₂:=[a])
 simpa using this)
def DK {l:List At} (h:Sat σ l) (sz:Nat):Sat σ (.own (.l [] true) sz []::l):=(Gg h sz).lW
def eF {l:List At} (h:Sat σ l) {sz:Nat} {es:List (List V)} (hs: ∀e∈es,e.length=sz):Sat σ (.own (.l es true) sz es::l):=(fO h hs).lW
def CW {l:List At} {o:O} {n:Nat} {K:Prop} {σ':AH} (e:A8 σ n o=σ') (hk:Sat σ' (.obj n o::l)→K) (hn:σ n=none:=by assumption) (h:Sat σ l:=by assumption):K:=hk (e ▸ (YE h hn).lW)
def JP {α:Type}: ∀ {l:List α} {j:Nat} {a:α},l[j]? =some a→l.Perm (a::l.eraseIdx j)
 | x::r,0,a,h=>by simp at h;subst h;simp
 | x::r,j+1,a,h=>by
   simp only[lN]at h;simp only[List.eraseIdx_cons_succ];exact((JP h).cons x).trans (.swap _ _ _)
def Sat.front {l:List At} {j:Nat} {a:At} (h:Sat σ l) (hj:l[j]? =some a):Sat σ (a::l.eraseIdx j):=h.perm (JP hj)
def Sat.back {l:List At} {j:Nat} {a:At} (h:Sat σ (a::l.eraseIdx j)) (hj:l[j]? =some a):Sat σ l:=h.perm (JP hj).symm
def Bd.dg {f:FuncId} {args:List V} {a:At} {Φ:R→Prop} (h:Bd P f args [a] fun r post=>Φ r∧post= [a]) {l:List At} {j:Nat} (hs:Sat σ l) (hj:l[j]? =some a) {Q:R→AH→Prop} (hk: ∀r σ',Φ r→Sat σ' l→Q r σ'):BC P f args σ Q:=by
 refine h.use (rest:=l.eraseIdx j) (hs.front hj) ?_;rintro r post σ' ⟨hr,rfl⟩ hs';exact hk r σ' hr (Sat.back hs' hj)
def El {l:List At} {i n off:Nat} {vs:List V} {x:V} {K:AH→Prop} (hk: ∀σ',Sat σ' (l.set i (.box n (vs.set off x)))→K σ') (h:Sat σ l:=by assumption)
    (hi:l[i]? =some (.box n vs):=by first|exact RK|exact RJ|exact RI|exact RH|exact RG|exact RF)
    (h1:Db x=true:=by first|rfl|exact Ge (by assumption) 0 rfl|exact Ge (by assumption) 1 rfl|exact Ge (by assumption) 2 rfl|exact Ge (by assumption) 3 rfl|(simp<;>fail)) (ho:off+1≤vs.length:=by exact Nat.le_of_ble_eq_true rfl):AW σ 1 (.p n off) x K:=
 Jy h i hi h1 ho hk
def DJ {l:List At} {i n off sz:Nat} {vs vc:List V} {x:V} {K:AH→Prop} (hk: ∀σ',Sat σ' (l.set i (.box n (putAt vs off vc)))→K σ') (h:Sat σ l:=by assumption)
    (hi:l[i]? =some (.box n vs):=by first|exact RK|exact RJ|exact RI|exact RH|exact RG|exact RF)
    (hc:cellsOf x=some vc:=by rfl) (hl:vc.length=sz:=by rfl) (h1:vc.all Db=true:=by first|rfl|(simp<;>fail)|(simp[*]<;>fail)) (ho:off+sz≤vs.length:=by exact Nat.le_of_ble_eq_true rfl):AW σ sz (.p n off) x K:=
 IA h i hi hc hl h1 ho hk
def TQ {sz m n o:Nat} {ki:IntKind} {j:Int} {K:V→Prop} (h:K (.p n (o+j.toNat*sz))) (h0:0≤j:=by omega) (h1:j<m:=by omega):AU sz (some m) (.p n o) (.i ki j) K:=⟨h0,h1,h⟩
def lY {sz m:Nat} {cs:List V} {ki:IntKind} {j:Int} {K:V→Prop} (h:K (.rp (cs.drop (j.toNat*sz)))) (h0:0≤j:=by omega) (h1:j<m:=by omega):AU sz (some m) (.rp cs) (.i ki j) K:=⟨h0,h1,h⟩
def gg {l:List At} (h:Sat σ l) (i:Nat) {v:V} {sz:Nat} {es es':List (List V)} (hi:l[i]? =some (.own v sz es)) (he: ∀σ2,Fk σ σ2 es es'): ∃σ2,Sub σ2 σ∧Gd σ σ2 v (.l es' false)∧Sat σ2 (l.eraseIdx i):=by
 rcases h.get hi with⟨rfl,_⟩|⟨n,cap,rfl,hn⟩
 ·exact⟨σ,fun _ _ h=>h,.l (fun h=>(by cases h)) (he _),h.less (List.eraseIdx_sublist _ _)⟩
 ·refine⟨del σ n,GH σ n,.arr hn (D9 σ n) rfl (he _),?_⟩
  refine⟨fun b hb=>?_,h.2.sublist (List.eraseIdx_sublist _ _)⟩;refine Em (h.1 b (List.mem_of_mem_eraseIdx hb)) fun m hm=>?_
  rw[GX];intro e;subst e;exact Ek h.2 hi b hb m rfl hm
def ln {l:List At} (h:Sat σ l) {sz:Nat} {z:List V} {n m:Nat} {K:V→AH→Prop} (hnm:n≤m) (hn:m≤1073741824) (hk: ∀v σ',Sat σ' (.own v sz (List.replicate n z)::l)→(∃id,v= .sl id n m)→K v σ') {ki kj:IntKind} :
    AM σ sz z (.i ki (n:Int)) (.i kj (m:Int)) K:=by
 refine⟨by omega,by omega,by omega,fun id hid=>?_⟩;simp only[Jb];refine hk _ _ (h.add (a:= .own (.sl id n m) sz (List.replicate n z)) (fun b hb=>Em hb fun m hm=>?_) (fun b hb m hm hb'=>?_) (.inr ⟨id,m,by simp,by simp[A8]⟩)).lW ⟨id,rfl⟩
 ·obtain⟨o,ho⟩:=Cq hb hm
  rw[Ct];intro e;subst e;rw[hid]at ho;cases ho
 ·cases hm
  obtain⟨o,ho⟩:=Cq hb hb';rw[hid]at ho;cases ho
def U9 {σ:AH} {l:List At} {i:Nat} {v:V} {sz:Nat} {es:List (List V)} (hs:Sat σ l) (hi:l[i]? =some (.own v sz es)) (he: ∀e∈es,e.length=sz) (hm:es.length≤Ae) {K:V→AH→Prop} (hk: ∀σ',Sat σ' (l.eraseIdx i)→K (.l es true) σ'):AV σ sz v none (some (.i .i64 (es.length:Int))) (some (.i .i64 (es.length:Int))) K:=by
 rcases hs.get hi with⟨rfl,_⟩|⟨n,cap,rfl,hn⟩
 ·refine⟨he,?_⟩
  simp only[OM];refine⟨Int.le_refl _,Int.natCast_nonneg _,Int.le_refl _,trivial,?_⟩;have:=hk σ (hs.less (List.eraseIdx_sublist _ _));simpa using this
 ·unfold AV
  simp only[OM];refine⟨Int.le_refl _,Int.natCast_nonneg _,Int.le_refl _,trivial,trivial,trivial,?_⟩;rw[hn];refine⟨rfl,rfl,rfl,.inl (hk _ ?_)⟩;refine⟨fun b hb=>?_,hs.2.sublist (List.eraseIdx_sublist _ _)⟩;refine Em (hs.1 b (List.mem_of_mem_eraseIdx hb)) fun m hm=>?_
  rw[GX];intro e;subst e;exact Ek hs.2 hi b hb m rfl hm
end Go.Gl
namespace Go.Gl
open Go.Proofs
attribute [local irreducible] BC Ax Ai AU AO Ag AV AW AM Af AR AT A0 A9 Sat Ab A6 Ak W
abbrev Ord:=Int×V×List Int
def bF (e:Ord):V×V:=(eI e.1,e.2.1)
def X1 (e:Ord):At:= .own e.2.1 1 (iL e.2.2)
abbrev pL (ps:List (List Int×Bool)):List (List V):=ps.map fun p=>[.l (iL p.1) p.2]
abbrev gH (n mm:Nat) (vp vu:V) (ps:List (List Int×Bool)) (us:List Nat) (M:List Ord):List At:=
 .box n [vp,vu,.m mm]:: .own vp 1 (pL ps):: .own vu 1 (us.map fun u=>[eU u]):: .map mm (M.map bF)::M.map X1
def By (M:List Ord) (c:Int):List Int:=((M.find? fun e=>c==e.1).map fun e=>e.2.2).getD []
def Ht (M:List Ord) (c:Int):V:=((M.find? fun e=>c==e.1).map fun e=>e.2.1).getD (.l [] true)
def Zy (M:List Ord) (c:Int):found (.l [] true) false (C6 (eI c) (M.map bF))=Ht M c:=by
 induction M with
 | nil=>rfl
 | cons e r ih=>
   simp only[Et,bF,C6,Ht,List.find?_cons]at *;have he:D6 (eI c) (eI e.1)=(c==e.1):=rfl;rw[he];cases c==e.1
   ·exact ih
   ·rfl
def Tl (M:List Ord): ∀kv∈M.map bF,Bo (.i .i64) kv.1=true:=by
 intro kv h;obtain⟨e,_,rfl⟩:=MT.1 h;rfl
def cO {M:List Ord} {c:Int} (v:V) (l:List Int) (h: ∀e∈M,e.1≠c):D5 (eI c) v (M.map bF)=(M++[(c,v,l)]).map bF:=by
 induction M with
 | nil=>rfl
 | cons e r ih=>
   simp only[Et,List.cons_append,bF,D5];have he:D6 (eI c) (eI e.1)=(c==e.1):=rfl;rw[he,beq_false_of_ne (fun e'=>h e (.head _) e'.symm)];simp only[cond_false];rw[ih fun e he=>h e (.tail _ he)]
def M4 (M:List Ord) (c:Int):(By M c= []∧Ht M c= .l [] true)∨ ∃j:Nat,(M.map X1)[j]? =some (At.own (Ht M c) 1 (iL (By M c))):=by
 unfold By Ht;cases h:M.find? fun e=>c==e.1 with
 | none=>exact .inl ⟨rfl,rfl⟩
 | some e=>
   refine .inr ?_;obtain⟨j,hj⟩:=List.getElem?_of_mem (List.mem_of_find?_eq_some h);refine⟨j,?_⟩;rw[Pw,hj];rfl
def M5 {M:List Ord} {c:Int} {σ:AH} {fx:List At} (hs:Sat σ (fx++M.map X1)) (hl:(By M c).length≤Ae) {K:V→Prop} (hk:K (.i .i64 (By M c).length)):A6 (Ht M c) K:=by
 rcases M4 M c with⟨h1,h2⟩|⟨j,hj⟩
 ·rw[h2]
  rw[h1]at hk;exact Eo hk
 ·have hj':(fx++M.map X1)[fx.length+j]? =some (At.own (Ht M c) 1 (iL (By M c))):=by
   rw[List.getElem?_append_right (by omega),Nat.add_sub_cancel_left,hj]
  exact lq hs _ hj' (by simpa using hl) (by simpa using hk)
def rz {σ:AH} {l:List At} {i mm:Nat} {M:List Ord} {c:Int} {K:V→Prop} (hk:K (Ht M c)) (h:Sat σ l:=by assumption)
    (hi:l[i]? =some (.map mm (M.map bF)):=by first|exact RK|exact RJ|exact RI|exact RH|exact RG|exact RF):AR σ (.i .i64) (.l [] true) false (.m mm) (eI c) K:=
 IQ h i hi rfl (Tl M) (by rw[Zy];exact hk)
def nv {M:List Ord} {c:Int} {σ:AH} {fx:List At} (hs:Sat σ (fx++M.map X1)) (hl:(By M c).length≤Ae) (hne:By M c≠[]) {k kp:V→AH→Prop} (hk: ∀σ',Sat σ' (fx++M.map X1)→k (.l (iL ((By M c).filter (· != 0))) false) σ'):BC Tryz.prog 285 [Ht M c] σ (qk k kp):=by
 rcases M4 M c with⟨h1,h2⟩|⟨j,hj⟩
 ·exact absurd h1 hne
 ·have hj':(fx++M.map X1)[fx.length+j]? =some (At.own (Ht M c) 1 (iL (By M c))):=by
   rw[List.getElem?_append_right (by omega),Nat.add_sub_cancel_left,hj]
  refine(aW (By M c) (Ht M c) hl).dg hs hj' ?_;rintro r σ' rfl hs';exact hk σ' hs'
def Sm {σ σ2:AH}: ∀ {a a' b b':List (List V)},Fk σ σ2 a a'→Fk σ σ2 b b'→Fk σ σ2 (a++b) (a'++b')
 | [],[],_,_,.nil,h=>h
 | _::_,_::_,_,_,.cons h1 h2,h=> .cons h1 (Sm h2 h)
def Zv (n mm:Nat) (vp vu:V) (ps:List (List Int×Bool)) (us:List Nat) (M:List Ord) (c:Int) (l:List Int) (b:Bool) (hc0:0≤c) (hl:ps[c.toNat]? =some (l,b)) (hll:l.length≤3) (hol: ∀c,(By M c).length≤Ae) :
    Bd Tryz.prog 282 [.p n 0,eI c] (gH n mm vp vu ps us M) fun r post=>r= .ret (if l.any fun p=>(By M p).isEmpty then .t [.l [] true,.b false]else .t [.l (EZ (l.map (fun p=>(By M p).filter (· != 0))++[l])) false,.b true])∧post=gH n mm vp vu ps us M:=by
 intro σ hs;have hM:=Mx;have hci:c<ps.length:=by have:=(Hr.1 hl).1;omega
 refine iK kZ ?_
 conv=>whnf
 repeat'((first|apply st|(apply sq;intro K U)|(apply si;intro A B Y Z)|(apply Y;clear Z B Y A)|(apply U;clear U K)|refine ld ?_|refine oi ?_|refine lQ ?_|fail)<;>conv=>whnf)
 refine CZ l.length (fun k v=>[(6,v),(17,eI (BL k))]) (fun k v=> .own v 1 (EZ ((l.take k).map fun p=>(By M p).filter (· != 0)))::gH n mm vp vu ps us M) (fun k _=>((l.take k).any fun p=>(By M p).isEmpty)=false) (.l [] true) rfl rfl (DK hs 1) ?_;clear hs;rintro k v σ hk hne hs;rcases BS l hk with⟨p,hp,hlt⟩|hke
 ·have han:((l.take (k+1)).any fun p=>(By M p).isEmpty)=(By M p).isEmpty:=by rw[AX hp,List.any_append,hne];simp
  have hap:(l.take k).length≤3:=by rw[MS];omega
  conv=>whnf
  repeat'((first|apply st|(apply sq;intro K U)|(apply si;intro A B Y Z)|(apply Y;clear Z B Y A)|(apply U;clear U K)|refine⟨rfl,?_⟩|refine ix ?_|refine ld ?_|(refine Cs (fun hc=>?_)<;>(try rw[hc])<;>clear hc)|refine rz ?_|refine M5 (fx:=_::_::_::_::_:: []) hs (hol _) ?_|(constructor<;>intro hc<;>(try rw[hc])<;>(replace hc:=bp hc))|clear U K)<;>conv=>whnf)
  ·have h0:(By M p).isEmpty=true:=by rw[List.isEmpty_iff_length_eq_zero];omega
   have hany:(l.any fun p=>(By M p).isEmpty)=true:=Ip.2 ⟨p,Cj hp,h0⟩;refine Ar (l':=gH n mm vp vu ps us M) hs (Kh _ _) (.refl _) fun σ' hs'=>⟨_,⟨?_,rfl⟩,hs'⟩
   rw[if_pos hany]
  ·have h0:(By M p).isEmpty=false:=by
    cases h:(By M p).isEmpty
    ·rfl
    ·rw[List.isEmpty_iff_length_eq_zero]at h;omega
   refine nv (fx:=_::_::_::_::_:: []) hs (hol _) (fun e=>by rw[e]at h0;cases h0) fun σ hs=>?_
   conv=>whnf
   repeat'((first|(apply si;intro A B Y Z)|(apply Y;clear Z B Y A)|(apply U;clear U K)|refine⟨rfl,?_⟩|refine aq fun v σ hs hsl=>?_|clear U K)<;>conv=>whnf)
   refine⟨hlt,_,rfl,by rw[han];exact h0,?_⟩;rw[AX hp,TN];exact hs
 ·rw[BK hke]at hne hs
  conv=>whnf
  repeat'((first|apply st|(apply sq;intro K U)|(apply si;intro A B Y Z)|(apply Y;clear Z B Y A)|(apply U;clear U K)|refine⟨rfl,?_⟩|refine ld ?_|refine oi ?_|refine lQ ?_|(refine EV (fun hc=>?_)<;>(try rw[hc])<;>clear hc)|clear U K)<;>conv=>whnf)
  refine hAppend hs 0 rfl (by simp;omega) (fun e he=>by simp at he;subst he;rfl) (fun e he v hv=>by simp at he;subst he;simp at hv;subst hv;rfl) fun v σ hs=>?_
  conv=>whnf
  repeat'((first|apply st|(apply Y;clear Z B Y A)|(apply U;clear U K)|fail)<;>conv=>whnf)
  obtain⟨σ2,h1,h2,h3⟩:=gg (es':=EZ (l.map (fun p=>(By M p).filter (· != 0))++[l])) hs 0 rfl fun σ2=>by
   have e:EZ (l.map (fun p=>(By M p).filter (· != 0))++[l])=EZ (l.map fun p=>(By M p).filter (· != 0))++[[.l (iL l) false]]:=by simp only[EZ,TN,Et,List.map_nil]
   rw[e];exact Sm (Ij _) (.cons (.cons Ml .nil) .nil)
  refine GM h1 (.t (.cons h2 (.cons (.refl _) .nil))) ⟨_,⟨?_,rfl⟩,h3⟩;rw[hne,if_neg (by decide)]
def Sat.sH {σ:AH} {l:List At} {a:At} (h:Sat σ (a::l)):Sat σ (l++[a]):=h.perm (by
 have:=Q8 (l₁:=[a]) (l₂:=l)
 simpa using this)
def C5 (M:List Ord) (l:List Int):List (List Int):=l.map (fun p=>(By M p).filter (· != 0))++[l]
def GQ (M:List Ord) (l:List Int) (c:Int):List Int:=
 if c=0 then [0]else if l.any (fun p=>(By M p).isEmpty)then []else if(CA (C5 M l)).2 then [c]++(CA (C5 M l)).1++[0]else []
def Vm (n mm:Nat) (vp vu:V) (ps:List (List Int×Bool)) (us:List Nat) (M:List Ord) {c:Int} {v:V} {l:List Int} (hk: ∀e∈M,e.1≠c) {σ:AH}
    (hs:Sat σ (.own v 1 (iL l):: .box n [vp,vu,.m mm]:: .own vp 1 (pL ps):: .own vu 1 (us.map fun u=>[eU u]):: .map mm (D5 (eI c) v (M.map bF))::M.map X1)):Sat σ (gH n mm vp vu ps us (M++[(c,v,l)])):=by
 rw[cO v l hk]at hs;have:=hs.sH;unfold gH;rw[TN (f:=X1)];exact this
def Zh (n mm:Nat) (vp vu:V) (ps:List (List Int×Bool)) (us:List Nat) (M:List Ord) (c:Int) (l:List Int) (b:Bool) (hc0:0≤c) (hl:ps[c.toNat]? =some (l,b)) (hll:l.length≤3) (hol: ∀c,(By M c).length≤Ae) (hk: ∀e∈M,e.1≠c)
    (hok:Kq (C5 M l)) (ht:total (C5 M l)<1000000000) :
    Bd Tryz.prog 271 [.p n 0,eI c] (gH n mm vp vu ps us M) fun r post=>r= .ret (.t [])∧ ∃M',post=gH n mm vp vu ps us M'∧((M'=M∧GQ M l c= [])∨ ∃v,M'=M++[(c,v,GQ M l c)]∧GQ M l c≠[]):=by
 intro σ hs;have hM:=Mx;refine iU kZ ?_;by_cases hc:c=0
 ·subst hc
  conv=>whnf
  repeat'((first|apply st|(apply sq;intro K U)|(apply si;intro A B Y Z)|(apply Y;clear Z B Y A)|(apply U;clear U K)|refine⟨rfl,?_⟩|refine ld ?_|(constructor<;>intro hc<;>(try rw[hc])<;>(replace hc:=bp hc)<;>(try simp(disch:=omega) only[BQ,wrap64,AL]at hc)<;>try(exfalso;omega))|fail)<;>conv=>whnf)
  refine HL hs 3 rfl rfl (Tl M) fun σ hs=>?_
  conv=>whnf
  repeat'((first|apply st|(apply Y;clear Z B Y A)|(apply U;clear U K)|clear U K)<;>conv=>whnf)
  refine Ar (l':=gH n mm vp vu ps us (M++[(0,.l [[eI 0]] true,[0])])) ?_ (List.Sublist.refl _) (.refl _) fun σ' hs'=>⟨_,⟨rfl,_,rfl,.inr ⟨.l [[eI 0]] true,?_,?_⟩⟩,hs'⟩
  ·refine Vm n mm vp vu ps us M hk ?_
   exact eF hs (fun e he=>by simp at he;subst he;rfl)
  ·rw[GQ,if_pos rfl]
  ·rw[GQ,if_pos rfl];exact fun e=>by cases e
 ·have hoc:GQ M l c=if l.any (fun p=>(By M p).isEmpty)then []else if(CA (C5 M l)).2 then [c]++(CA (C5 M l)).1++[0]else []:=by rw[GQ,if_neg hc]
  have hli:=Zv n mm vp vu ps us M c l b hc0 hl hll hol;have hmg:=Zt (C5 M l) false hok (by omega);have hml:=HQ (total (C5 M l)) (C5 M l) [];have hml2:(CA (C5 M l)).1.length≤total (C5 M l):=by simpa[CA]using hml
  cases hany:l.any fun p=>(By M p).isEmpty
  ·rw[hany,if_neg (by decide)]at hoc
   simp only[hany,LU,if_false]at hli;have hdn: ∀ {σ:AH} {M':List Ord},Sat σ (gH n mm vp vu ps us M')→((M'=M∧GQ M l c= [])∨ ∃v,M'=M++[(c,v,GQ M l c)]∧GQ M l c≠[])→Ax σ (.t []) fun r σ'=> ∃post,(r= .ret (.t [])∧ ∃M',post=gH n mm vp vu ps us M'∧((M'=M∧GQ M l c= [])∨ ∃v,M'=M++[(c,v,GQ M l c)]∧GQ M l c≠[]))∧Sat σ' post:=fun hs h=>Ar hs (List.Sublist.refl _) (.refl _) fun σ' hs'=>⟨_,⟨rfl,_,rfl,h⟩,hs'⟩
   conv=>whnf
   repeat'((first|apply st|(apply sq;intro K U)|(apply si;intro A B Y Z)|(apply Y;clear Z B Y A)|(apply U;clear U K)|refine⟨rfl,?_⟩|(constructor<;>intro hc<;>(try rw[hc])<;>(replace hc:=bp hc)<;>try(exfalso;omega))|fail)<;>conv=>whnf)
   refine hli.use (rest:=[]) (by simpa using hs) ?_;clear hs;rintro r post σ ⟨rfl,rfl⟩ hs;rw[Hs]at hs;have hml3:(C5 M l)=l.map (fun p=>(By M p).filter (· != 0))++[l]:=rfl;rw[←hml3];generalize C5 M l=ll at *;cases hb:(CA ll).2<;>rw[hb]at hmg hoc
   ·conv=>whnf
    repeat'((first|apply st|(apply sq;intro K U)|(apply si;intro A B Y Z)|(apply Y;clear Z B Y A)|(apply U;clear U K)|refine EA ?_|refine Pure.use (by assumption) ?_|fail)<;>conv=>whnf)
    exact hdn hs (.inl ⟨rfl,by rw[hoc];rfl⟩)
   ·rw[if_pos rfl]at hoc
    conv=>whnf
    repeat'((first|apply st|(apply sq;intro K U)|(apply si;intro A B Y Z)|(apply Y;clear Z B Y A)|(apply U;clear U K)|apply dr|refine ld ?_|refine EA ?_|refine Pure.use (by assumption) ?_|fail)<;>conv=>whnf)
    replace hs:=eF hs (sz:=1) (es:=[[eI c]]) (fun e he=>by simp at he;subst he;rfl);refine Mj hs 0 (xs:=[c]) (ys:=(CA ll).1) rfl (by simp;omega) Co fun v σ hs=>?_
    conv=>whnf
    repeat'((first|apply dr|refine rk ?_ ?_|exact fun s e=>by cases e;rfl|refine ld ?_|refine aq fun v σ hs hsl=>?_|fail)<;>conv=>whnf)
    refine HL hs 4 rfl rfl (Tl M) fun σ hs=>?_
    conv=>whnf
    repeat'((first|(apply Y;clear Z B Y A)|apply dr|fail)<;>conv=>whnf)
    refine hdn (Vm n mm vp vu ps us M hk (l:=GQ M l c) ?_) (.inr ⟨v,rfl,by rw[hoc];simp⟩);rw[hoc];exact hs
  ·rw[hany,if_pos rfl]at hoc
   simp only[hany,if_true]at hli
   conv=>whnf
   repeat'((first|apply st|(apply sq;intro K U)|(apply si;intro A B Y Z)|(apply Y;clear Z B Y A)|(apply U;clear U K)|refine⟨rfl,?_⟩|(constructor<;>intro hc<;>(try rw[hc])<;>(replace hc:=bp hc)<;>try(exfalso;omega))|fail)<;>conv=>whnf)
   refine hli.use (rest:=[]) (by simpa using hs) ?_;clear hs;rintro r post σ ⟨rfl,rfl⟩ hs;rw[Hs]at hs
   conv=>whnf
   repeat'((first|apply st|(apply sq;intro K U)|(apply si;intro A B Y Z)|(apply Y;clear Z B Y A)|(apply U;clear U K)|refine E7 ?_|clear U K)<;>conv=>whnf)
   exact Ar hs (List.Sublist.refl _) (.refl _) fun σ' hs'=>⟨_,⟨rfl,_,rfl,.inl ⟨rfl,hoc⟩⟩,hs'⟩
end Go.Gl
namespace Go.Gl
def Wy {M:List Ord} {k:Int} {v:V} {o:List Int} (h: ∀e∈M,e.1<k) (d:Int):By (M++[(k,v,o)]) d=if d=k then o else By M d:=by
 unfold By;rw[List.find?_append];split
 ·rename_i e
  have:M.find? (fun e=>d==e.1)=none:=by
   rw[List.find?_eq_none];intro x hx;have:=h x hx;simp;omega
  rw[this];simp[e]
 ·rename_i e
  cases hf:M.find? fun e=>d==e.1 with
  | some x=>simp
  | none=>simp[List.find?_cons,e]
structure Hd (g:List (List Int)) (k:Nat) (M:List Ord):Prop where
 keys: ∀e∈M,0≤e.1∧e.1<(k:Int)
 YA: ∀d:Int,0≤d→d<k→By M d=(Bx g).getD d.toNat []
def SH {g:List (List Int)} {k:Nat} {M:List Ord} (h:Hd g k M) {d:Int} (hd:d<0∨(k:Int)≤d):By M d= []:=by
 unfold By
 have:M.find? (fun e=>d==e.1)=none:=by
  rw[List.find?_eq_none];intro x hx;have:=h.keys x hx;simp;omega
 rw[this];rfl
def KA {g:List (List Int)} (hg:Ha g) {k:Nat} {M:List Ord} (h:Hd g k M) (d:Int):(By M d).length≤71744535∧ ∀x∈By M d,(0:Int)≤x:=by
 by_cases hd:d<0∨(k:Int)≤d
 ·rw[SH h hd]
  exact⟨by simp,fun x hx=>by cases hx⟩
 ·rw[h.YA d (by omega) (by omega)]
  have hb:=HW hg (2+g.length);have hl:=V3 (k:=2+g.length) (by have:=hg.1;omega);unfold Bx;exact⟨SW (fun o ho=>Nat.le_trans (hb o ho).1 hl) _,NK (fun o ho=>(hb o ho).2) _⟩
def W9 {g:List (List Int)} (hg:Ha g) {k:Nat} {M:List Ord} (h:Hd g k M) {l:List Int} (hl:l.length≤3) (h0: ∀x∈l,(0:Int)≤x):Kq (C5 M l)∧total (C5 M l)<1000000000:=by
 have hM:Ae=17592186044416:=rfl;have hf: ∀p,((By M p).filter (· != 0)).length≤71744535:=fun p=>Nat.le_trans (OJ _ _) (KA hg h p).1
 have ht: ∀l:List Int,total (l.map fun p=>(By M p).filter (· != 0))≤l.length*71744535:=by
  intro l
  induction l with
  | nil=>simp[total]
  | cons p r ih=>
    simp only[total,Et,List.sum_cons,MC]at *;have:=hf p;rw[Nat.add_mul];omega
 refine⟨⟨by simp[C5];omega,fun m hm=>?_⟩,?_⟩
 ·rcases FQ.1 hm with hm|hm
  ·obtain⟨p,_,rfl⟩:=MT.1 hm
   refine⟨by have:=hf p;omega,fun x hx=>(KA hg h p).2 x (Kl.1 hx).1⟩
  ·rw[Kj.1 hm]
   exact⟨by omega,h0⟩
 ·have h1:=ht l
  have h2:total (C5 M l)=total (l.map fun p=>(By M p).filter (· != 0))+l.length:=by simp[C5,total]
  have h3:=Q9 71744535 hl;omega
def cC {g:List (List Int)} {k:Nat} {M:List Ord} (h:Hd g (k+1) M) {l:List Int} (hl:l=Aw g ((k:Int)+1)) (hp: ∀p∈l,(0:Int)≤p∧p<(k:Int)+1) (hk:k+1<3+g.length) :
    GQ M l ((k:Int)+1)=Dr g (Bb g k) ((k:Int)+1):=by
 have ho: ∀p∈l,By M p=(Bb g k).getD p.toNat []:=fun p hpl=>by
  obtain⟨h0,h1⟩:=hp p hpl;rw[h.YA p h0 (by omega)];unfold Bx;rw[Dc,Dc,Ej (k:=2+g.length) (j:=p.toNat) (by omega),Ej (k:=k) (j:=p.toNat) (by omega)]
 have e1:(l.any fun p=>(By M p).isEmpty)=(l.any fun p=>((Bb g k).getD p.toNat []).isEmpty):=by
  rw[Kk,Ip,Ip];constructor
  ·rintro⟨p,h1,h2⟩;exact⟨p,h1,by rw[←ho p h1];exact h2⟩
  ·rintro⟨p,h1,h2⟩;exact⟨p,h1,by rw[ho p h1];exact h2⟩
 have e2:C5 M l=l.map (fun p=>((Bb g k).getD p.toNat []).filter (· != 0))++[l]:=by
  unfold C5;congr 1;exact List.map_congr_left fun p hpl=>by rw[ho p hpl]
 unfold GQ Dr EB;rw[if_neg (by omega),e1,e2,←hl];split<;>rfl
def Hd.nil {g:List (List Int)}:Hd g 0 []:=⟨fun e h=>(by cases h),fun d h0 h1=>by omega⟩
def Hd.step {g:List (List Int)} {k:Nat} {M M':List Ord} (h:Hd g k M) {l:List Int} (hl:l=Aw g (k:Int)) (hp: ∀p∈l,(0:Int)≤p∧p<(k:Int)) (hk:k<3+g.length)
    (hM:(M'=M∧GQ M l k= [])∨ ∃v,M'=M++[((k:Int),v,GQ M l k)]∧GQ M l k≠[]):Hd g (k+1) M':=by
 have hc:GQ M l k=(Bx g).getD k []:=by
  cases k with
  | zero=>
    unfold GQ Bx;rw[if_pos (by simp),Dc,Ej (j:=0) (by omega)];rfl
  | succ k=>
    have:=cC h (by simpa using hl) (fun p hpl=>by have:=hp p hpl;simpa using this) hk;have e:((k+1:Nat):Int)=(k:Int)+1:=by omega
    rw[e,this];unfold Bx;rw[Dc,Ej (k:=2+g.length) (j:=k+1) (by omega),Bb,List.getElem?_append_right (by rw[CS];omega),CS,Nat.sub_self];rfl
 rcases hM with⟨rfl,he⟩|⟨v,rfl,_⟩
 ·refine⟨fun e he=>by have:=h.keys e he;omega,fun d h0 h1=>?_⟩
  by_cases hd:d=k
  ·subst hd
   rw[SH h (by omega)];rw[Jb,←hc,he]
  ·exact h.YA d h0 (by omega)
 ·refine⟨fun e he=>?_,fun d h0 h1=>?_⟩
  ·rcases FQ.1 he with he|he
   ·have:=h.keys e he;omega
   ·rw[Kj.1 he]
    exact⟨by simp,by simp;omega⟩
  ·rw[Wy (fun e he=>(h.keys e he).2)]
   split
   ·rename_i hd
    rw[hd,Jb];exact hc
   ·exact h.YA d h0 (by omega)
end Go.Gl
namespace Go.Gl
open Go.Proofs
attribute [local irreducible] BC Ax Ai AU AO Ag AV AW AM Af AR AT A0 A9 Sat Ab A6 Ak W
def bT (s c:Nat) (hs0:s<18446744073709551616) (hc:c<64):Pure Tryz.prog 269 [.a [eU s],eI c] (.a [eU (s|||2 ^ c)]):=by
 refine iW kZ ?_;have hs:=Sn
 conv=>whnf
 repeat'((first|apply st|(apply sq;intro K U)|(apply si;intro A B Y Z)|(apply Y;clear Z B Y A)|(apply U;clear U K)|apply dr|refine⟨rfl,?_⟩|refine⟨kZ,?_⟩|refine TQ ?_|refine ld ?_|refine El fun σ hs=>?_|refine DJ fun σ hs=>?_|refine⟨Int.natCast_nonneg _,?_⟩|(intro nn hnn;generalize hg:A8 _ nn _=σ;refine CW hg fun hs=>?_;clear hg)|fail)<;>conv=>whnf)
 refine AI ?_;simp only[Jb,VJ hc,J1 hs0 (JC hc)];rfl
def mI (s t:Nat) (hs0:s<18446744073709551616) (ht0:t<18446744073709551616):Pure Tryz.prog 270 [.a [eU s],.a [eU t]] (.a [eU (s|||t)]):=by
 refine iV kZ ?_;have hs:=Sn
 conv=>whnf
 repeat'((first|apply st|(apply sq;intro K U)|(apply si;intro A B Y Z)|(apply Y;clear Z B Y A)|(apply U;clear U K)|refine⟨rfl,?_⟩|refine⟨kZ,?_⟩|refine TQ ?_|refine lY ?_|refine ld ?_|refine El fun σ hs=>?_|refine DJ fun σ hs=>?_|(intro nn hnn;generalize hg:A8 _ nn _=σ;refine CW hg fun hs=>?_;clear hg)|fail)<;>conv=>whnf)
 refine AI ?_;simp only[J1 hs0 ht0];rfl
def Ru (s:Nat) (c:Int) (hs0:s<18446744073709551616) (h0:0≤c) (hc:c<64):Pure Tryz.prog 269 [.a [eU s],eI c] (.a [eU (s|||2 ^ c.toNat)]):=by
 have:=bT s c.toNat hs0 (by omega);rw[Int.toNat_of_nonneg h0]at this;exact this
def Ji {a b:Nat} (ha:a<18446744073709551616) (hb:b<18446744073709551616):a|||b<18446744073709551616:=by
 have:=Nat.or_lt_two_pow (n:=64) (x:=a) (y:=b) (by simpa using ha) (by simpa using hb);simpa using this
def Hl (g:List (List Int)):List (List Int×Bool):=[([],true),([],true),([],true)]++g.map fun l=>(l,false)
def Zf (g:List (List Int)):(Hl g).length=3+g.length:=by simp[Hl];omega
def VQ (g:List (List Int)) {k:Nat} (hk:k<3+g.length): ∃b,(Hl g)[k]? =some (Aw g (k:Int),b):=by
 unfold Hl Aw;by_cases h3:k<3
 ·rw[if_pos (by omega),ei (by simpa using h3)]
  refine⟨true,?_⟩;rcases k with _|_|_|k
  ·rfl
  ·rfl
  ·rfl
  ·omega
 ·rw[if_neg (by omega),List.getElem?_append_right (by simp;omega)]
  refine⟨false,?_⟩;simp only[MC,List.length_nil,Pw];have e:((k:Int) - 3).toNat=k - (0+1+1+1):=by omega
  rw[e,Dc,Da (by omega)];rfl
def cj:Er (fun u:Nat=>[eU u]) 1:=fun x=>⟨rfl,fun v hv=>by simp at hv;subst hv;rfl⟩
def mG {α:Type} {a b c d:α}: [a,b,c,d].Perm [b,d,a,c]:=by
 have h1: [a,b,c,d].Perm [b,a,c,d]:= .swap _ _ _;have h2: [a,c,d].Perm [d,a,c]:=Q8 (l₁:=[a,c]) (l₂:=[d]);exact h1.trans (h2.cons b)
set_option maxHeartbeats 4000000 in
def cD (g:List (List Int)) (f f2:Bool) (c:Int) (hg:Df g=true) (hc0:0≤c) (hc1:c<3+g.length) :
    Bd Tryz.prog 250 [.l (EZ g) f,.l (iL [c]) f2] [] fun r post=> ∃n mm vp vu us M,r= .ret (.t [.p n 0,.b true])∧post=gH n mm vp vu (Hl g) us M∧Hd g (3+g.length) M:=by
 intro σ hs;refine BC.fit (by kernel_rfl) fun hf=>?_
 have⟨g1,g2⟩:=Ts hf.1;have hM:=Mx;have hG:=Dk hg;have hgl:=hG.1;have hfn:=Vq g f;rw[hg]at hfn;have hc2: [c][0]? =some c:=rfl;have hpl:=Zf g;refine ik kZ ?_
 conv=>whnf
 repeat'((first|apply st|(apply sq;intro K U)|(apply si;intro A B Y Z)|(apply Y;clear Z B Y A)|(apply U;clear U K)|refine EA ?_|refine hfn.use ?_|fail)<;>conv=>whnf)
 refine CZ 1 (fun k (_:Unit)=>[(20,eI (BL k))]) (fun _ _=>[]) (fun _ _=>True) () rfl trivial hs ?_;clear hs;rintro k - σ hk - hs;have hkk:k=0∨k=1:=by omega
 rcases hkk with rfl|rfl
 ·conv=>whnf
  repeat'((first|apply st|(apply sq;intro K U)|(apply si;intro A B Y Z)|(apply Y;clear Z B Y A)|(apply U;clear U K)|refine⟨rfl,?_⟩|refine⟨kZ,?_⟩|refine ix ?_|(refine Cs (fun hc=>?_)<;>(try rw[hc])<;>clear hc)|(constructor<;>intro hc<;>(try rw[hc])<;>(replace hc:=bp hc)<;>(try simp(disch:=omega) only[BQ,wrap64,AL]at hc)<;>try(exfalso;omega))|clear U K)<;>conv=>whnf)
  all_goals try(exfalso;omega)
  exact⟨(),rfl,trivial,hs⟩
 ·have hke:1= [c].length:=rfl
  conv=>whnf
  repeat'((first|apply st|(apply sq;intro K U)|(apply si;intro A B Y Z)|(apply Y;clear Z B Y A)|(apply U;clear U K)|refine⟨rfl,?_⟩|(refine EV (fun hc=>?_)<;>(try rw[hc])<;>clear hc)|clear U K)<;>conv=>whnf)
  rw[show IntKind.i64.wrap (3+((EZ g).length:Nat))=((3+g.length:Nat):Int) by rw[BQ,wrap64 (by omega) (by omega)];omega];refine ln (n:=3) hs (by omega) (by omega) fun vp σ hs hv=>?_
  obtain⟨idp,rfl⟩:=hv
  conv=>whnf
  repeat'((first|(apply sq;intro K U)|(apply si;intro A B Y Z)|(apply Y;clear Z B Y A)|(apply U;clear U K)|refine ld ?_|(intro nn hnn;generalize hg:A8 _ nn _=σ;refine CW hg fun hs=>?_;clear hg)|fail)<;>conv=>whnf)
  obtain⟨mm,hs⟩: ∃mm,Sat σ [.box nn [.sl idp 3 (3+g.length),.l [] true,.m mm],.map mm [],.own (.sl idp 3 (3+g.length)) 1 (List.replicate 3 [.l [] true])]:=⟨_,hs⟩
  generalize nn=n0 at *;have hgr:=DQ DM g;refine hAppend hs 2 rfl (by simp;omega) hgr.1 hgr.2 fun vp σ hs=>?_
  have hps:List.replicate 3 [.l [] true]++EZ g=pL (Hl g):=by simp[pL,Hl,List.replicate,EZ]
  rw[hps]at hs;clear hps;have hs1p:=Ge hs 2 rfl
  conv=>whnf
  repeat'((first|apply st|(apply sq;intro K U)|(apply si;intro A B Y Z)|(apply Y;clear Z B Y A)|(apply U;clear U K)|refine lo ?_|refine ld ?_|refine El fun σ hs=>?_|fail)<;>conv=>whnf)
  replace hs:Sat σ [.box n0 [vp,.l [] true,.m mm],.map mm [],.own vp 1 (pL (Hl g))]:=hs;refine CZ (Hl g).length (fun k (_:V×List Nat)=>[(55,eI (BL k))]) (fun _ x=>[.own x.1 1 (x.2.map fun u=>[eU u]),.box n0 [vp,x.1,.m mm],.map mm [],.own vp 1 (pL (Hl g))]) (fun k x=>x.2.length=k∧ ∀u∈x.2,u<18446744073709551616) (.l [] true,[]) rfl ⟨rfl,fun u hu=>by cases hu⟩ (DK hs 1) ?_;clear hs;rintro k ⟨vu,us⟩ σ hk ⟨hul,hus⟩ hs;dsimp only at hul hus hs;rcases BS (Hl g) hk with⟨⟨l,lb⟩,hl,hlt⟩|hke2
  ·have hck:BL k=k:=AL (by omega)
   obtain⟨b',hpa⟩:=VQ g (k:=k) (by omega);have hle:l=Aw g (k:Int):=by rw[hl]at hpa;exact(Prod.mk.inj (Option.some.inj hpa)).1
   have hll:=Cx hG (k:Int);rw[←hle]at hll;have hlm: ∀p∈l,3≤p∧p<(k:Int):=fun p hp=>DS hG (by rw[←hle];exact hp)
   have hs1:(0|||2 ^ (BL k).toNat)<18446744073709551616:=by
    rw[Nat.zero_or,hck,Jb];exact JC (by omega)
   have hs1u:=Ge hs 0 rfl;have hl':(Hl g)[(BL k).toNat]? =some (l,lb):=by rw[hck,Jb];exact hl
   conv=>whnf
   repeat'((first|apply st|(apply sq;intro K U)|(apply si;intro A B Y Z)|(apply Y;clear Z B Y A)|(apply U;clear U K)|refine⟨rfl,?_⟩|refine DJ fun σ hs=>?_|refine oi ?_|refine lQ ?_|(refine Cs (fun hc=>?_)<;>(try rw[hc])<;>clear hc)|refine Pure.use (Ru 0 (BL k) (by decide) (by omega) (by omega)) ?_|refine Pure.use (Ru _ _ (by first|omega|exact hs1) (by omega) (by omega)) ?_|(intro nn hnn;generalize hg:A8 _ nn _=σ;refine CW hg fun hs=>?_;clear hg)|fail)<;>conv=>whnf)
   have hs0:(0|||2 ^ (BL k).toNat|||2 ^ Int.toNat 0)<18446744073709551616:=Ji hs1 (by decide);generalize (0|||2 ^ (BL k).toNat|||2 ^ Int.toNat 0)=s0 at *;refine CZ l.length (fun j (_:Nat)=>[(66,eI (BL j))]) (fun _ s=>[.box nn [eU s],.own vu 1 (us.map fun u=>[eU u]),.box n0 [vp,vu,.m mm],.map mm [],.own vp 1 (pL (Hl g))]) (fun _ s=>s<18446744073709551616) s0 rfl hs0 hs ?_;clear hs hs0;rintro j s σ hj hsb hs;rcases BS l hj with⟨p,hp,hjlt⟩|hje
   ·obtain⟨hp3,hpk⟩:=hlm p (Cj hp)
    obtain⟨u,hu⟩: ∃u,us[p.toNat]? =some u:=⟨_,Da (by omega)⟩
    have hub:=hus u (Cj hu)
    conv=>whnf
    repeat'((first|apply st|(apply sq;intro K U)|(apply si;intro A B Y Z)|(apply Y;clear Z B Y A)|(apply U;clear U K)|apply dr|refine⟨rfl,?_⟩|refine⟨kZ,?_⟩|refine ix ?_|refine ld ?_|refine DJ fun σ hs=>?_|refine oi ?_|refine lQ ?_|(refine Cs (fun hc=>?_)<;>(try rw[hc])<;>clear hc)|refine Pure.use (mI _ _ hsb hub) ?_|clear U K)<;>conv=>whnf)
    exact⟨hjlt,s|||u,rfl,Ji hsb hub,hs⟩
   ·conv=>whnf
    repeat'((first|apply st|(apply sq;intro K U)|(apply si;intro A B Y Z)|(apply Y;clear Z B Y A)|(apply U;clear U K)|apply dr|refine⟨rfl,?_⟩|refine⟨kZ,?_⟩|refine ld ?_|(refine EV (fun hc=>?_)<;>(try rw[hc])<;>clear hc)|clear U K)<;>conv=>whnf)
    refine HS (Fo hs 1 (enc:=fun u:Nat=>[eU u]) (xs:=us) (x:=s) rfl (by omega) cj fun vu' σ hs hsl=>?_);have hs2u:=Ge hs 1 rfl
    conv=>whnf
    repeat'((first|(apply si;intro A B Y Z)|(apply Y;clear Z B Y A)|(apply U;clear U K)|apply dr|refine⟨rfl,?_⟩|refine El fun σ hs=>?_|clear U K)<;>conv=>whnf)
    refine⟨hlt,(vu',us++[s]),rfl,⟨by simp[hul],fun u hu=>?_⟩,hs.less (Kh _ _)⟩;rcases FQ.1 hu with hu|hu
    ·exact hus u hu
    ·rw[Kj.1 hu];exact hsb
  ·have hs1u:=Ge hs 0 rfl
   conv=>whnf
   repeat'((first|apply st|(apply sq;intro K U)|(apply si;intro A B Y Z)|(apply Y;clear Z B Y A)|(apply U;clear U K)|refine⟨rfl,?_⟩|refine lo ?_|refine ld ?_|(refine EV (fun hc=>?_)<;>(try rw[hc])<;>clear hc)|clear U K)<;>conv=>whnf)
   replace hs:Sat σ (gH n0 mm vp vu (Hl g) us []):=hs.perm mG;refine CZ (Hl g).length (fun k (_:List Ord)=>[(96,eI (BL k))]) (fun _ M=>gH n0 mm vp vu (Hl g) us M) (fun k M=>Hd g k M) [] rfl Hd.nil hs ?_;clear hs;rintro k M σ hk hkn hs;rcases BS (Hl g) hk with⟨⟨l,lb⟩,hl,hlt⟩|hke3
   ·have hck:BL k=k:=AL (by omega)
    obtain⟨b',hpa⟩:=VQ g (k:=k) (by omega);have hle:l=Aw g (k:Int):=by rw[hl]at hpa;exact(Prod.mk.inj (Option.some.inj hpa)).1
    have hll:=Cx hG (k:Int);rw[←hle]at hll;have hlm: ∀p∈l,3≤p∧p<(k:Int):=fun p hp=>DS hG (by rw[←hle];exact hp)
    have hlo:=W9 hG hkn hll (fun x hx=>by have:=hlm x hx;omega);have hord:=Zh n0 mm vp vu (Hl g) us M (BL k) l lb (by omega) (by rw[hck,Jb];exact hl) hll (fun c=>by have:=(KA hG hkn c).1;omega) (fun e he=>by have:=hkn.keys e he;omega) hlo.1 hlo.2
    conv=>whnf
    repeat'((first|apply st|(apply sq;intro K U)|(apply si;intro A B Y Z)|(apply Y;clear Z B Y A)|(apply U;clear U K)|refine⟨rfl,?_⟩|(refine Cs (fun hc=>?_)<;>(try rw[hc])<;>clear hc)|fail)<;>conv=>whnf)
    refine hord.use (rest:=[]) (by simpa using hs) ?_;clear hs;rintro r post σ ⟨rfl,M',rfl,hM'⟩ hs;rw[Hs]at hs;rw[hck]at hM'
    conv=>whnf
    repeat'((first|(apply si;intro A B Y Z)|(apply Y;clear Z B Y A)|(apply U;clear U K)|refine⟨rfl,?_⟩|clear U K)<;>conv=>whnf)
    exact⟨hlt,M',rfl,hkn.step hle (fun p hp=>by have:=hlm p hp;omega) (by omega) hM',hs⟩
   ·conv=>whnf
    repeat'((first|apply st|(apply sq;intro K U)|(apply si;intro A B Y Z)|(apply Y;clear Z B Y A)|(apply U;clear U K)|refine⟨rfl,?_⟩|(refine EV (fun hc=>?_)<;>(try rw[hc])<;>clear hc)|clear U K)<;>conv=>whnf)
    exact Ar hs (List.Sublist.refl _) (.refl _) fun σ' hs'=>⟨_,⟨_,_,_,_,_,_,rfl,rfl,by rw[←hpl,←hke3];exact hkn⟩,hs'⟩
def lC {M:List Ord} {c:Int} {σ:AH} {fx:List At} (hs:Sat σ (fx++M.map X1)) (hl:(By M c).length≤Ae) (hne:By M c≠[]) {k kp:V→AH→Prop} (hk: ∀σ',Sat σ' (fx++M.map X1)→k (.l (iL (By M c)) false) σ'):BC Tryz.prog 175 [Ht M c] σ (qk k kp):=by
 rcases M4 M c with⟨h1,h2⟩|⟨j,hj⟩
 ·exact absurd h1 hne
 ·have hj':(fx++M.map X1)[fx.length+j]? =some (At.own (Ht M c) 1 (iL (By M c))):=by
   rw[List.getElem?_append_right (by omega),Nat.add_sub_cancel_left,hj]
  have hcl:Bd Tryz.prog 175 [Ht M c] [.own (Ht M c) 1 (iL (By M c))] fun r post=>r= .ret (.l (iL (By M c)) false)∧post= [.own (Ht M c) 1 (iL (By M c))]:=by
   clear hk hj' hj;generalize Ht M c=v at *;generalize By M c=l at *;intro σ hs;refine Yz kZ ?_;have hgr:=DQ Co l
   have hend: ∀ {σ:AH} {w u:V},Sat σ [.own w 1 (iL l),.own u 1 (iL l)]→Ax σ w fun r σ'=> ∃post,(r= .ret (.l (iL l) false)∧post= [.own u 1 (iL l)])∧Sat σ' post:=fun hs=>by
    obtain⟨σ2,h1,h2,h3⟩:=H2 hs 0 rfl;exact GM h1 h2 ⟨_,⟨rfl,rfl⟩,h3⟩
   have hM:=Mx;rcases hs.get (i:=0) rfl with⟨rfl,_⟩|⟨n,cap,rfl,hn⟩
   ·conv=>whnf
    repeat'((first|(apply sq;intro K U)|(apply si;intro A B Y Z)|(apply Y;clear Z B Y A)|(apply U;clear U K)|fail)<;>conv=>whnf)
    refine⟨fun e=>absurd (List.map_eq_nil_iff.1 e) hne,fun _=>?_⟩
    conv=>whnf
    repeat'((first|apply st|(apply sq;intro K U)|(apply si;intro A B Y Z)|(apply Y;clear Z B Y A)|(apply U;clear U K)|fail)<;>conv=>whnf)
    replace hs:=DK hs 1;refine Vi hs 0 1 rfl rfl (by simp;omega) hgr.1 hgr.2 fun w σ hs=>?_
    conv=>whnf
    repeat'((first|apply st|(apply Y;clear Z B Y A)|(apply U;clear U K)|fail)<;>conv=>whnf)
    exact hend hs
   ·conv=>whnf
    repeat'((first|apply st|(apply sq;intro K U)|(apply si;intro A B Y Z)|(apply Y;clear Z B Y A)|(apply U;clear U K)|fail)<;>conv=>whnf)
    replace hs:=DK hs 1;refine Vi hs 0 1 rfl rfl (by simp;omega) hgr.1 hgr.2 fun w σ hs=>?_
    conv=>whnf
    repeat'((first|apply st|(apply Y;clear Z B Y A)|(apply U;clear U K)|fail)<;>conv=>whnf)
    exact hend hs
  refine hcl.dg (Φ:=fun r=>r= .ret (.l (iL (By M c)) false)) hs hj' ?_;rintro r σ' rfl hs';exact hk σ' hs'
def gb (g:List (List Int)) (f:Bool) (c:Int) (hg:Df g=true) (hc0:0≤c) (hc1:c<3+g.length) :
    Pure Tryz.prog 209 [.l (EZ g) f,eI c] (if((Bx g).getD c.toNat []).isEmpty then .t [.l [] true,eI 7]else .t [.l (iL ((Bx g).getD c.toNat [])) false,eI 0]):=by
 have hop:=cD g f true c hg hc0 hc1;refine jS kZ ?_;have hs:=Sn;have hM:=Mx;have hG:=Dk hg
 conv=>whnf
 repeat'((first|(apply sq;intro K U)|(apply si;intro A B Y Z)|(apply Y;clear Z B Y A)|(apply U;clear U K)|fail)<;>conv=>whnf)
 refine hop.use (rest:=[]) hs ?_;clear hs;rintro r post σ ⟨n,mm,vp,vu,us,M,rfl,rfl,hkn⟩ hs;rw[Hs]at hs;have hol:=(KA hG hkn c).1;have hor:=hkn.YA c hc0 (by omega);by_cases hne:By M c= []
 ·have hl0:(By M c).length=0:=by rw[hne];rfl
  conv=>whnf
  repeat'((first|apply st|(apply sq;intro K U)|(apply si;intro A B Y Z)|(apply Y;clear Z B Y A)|(apply U;clear U K)|refine⟨rfl,?_⟩|refine ld ?_|refine EA ?_|refine rz ?_|refine M5 (fx:=_::_::_::_:: []) hs (by omega) ?_|(constructor<;>intro hc<;>(try rw[hc])<;>(replace hc:=bp hc)<;>try(exfalso;omega))|clear U K)<;>conv=>whnf)
  all_goals try(exfalso;omega)
  rw[←hor,hne];exact AI rfl
 ·have hl0:0<(By M c).length:=List.length_pos_iff.2 hne
  conv=>whnf
  repeat'((first|apply st|(apply sq;intro K U)|(apply si;intro A B Y Z)|(apply Y;clear Z B Y A)|(apply U;clear U K)|refine⟨rfl,?_⟩|refine ld ?_|refine EA ?_|refine rz ?_|refine M5 (fx:=_::_::_::_:: []) hs (by omega) ?_|(constructor<;>intro hc<;>(try rw[hc])<;>(replace hc:=bp hc)<;>try(exfalso;omega))|fail)<;>conv=>whnf)
  all_goals try(exfalso;omega)
  refine lC (fx:=_::_::_::_:: []) hs (by omega) hne fun σ hs=>?_
  conv=>whnf
  repeat'((first|apply st|(apply Y;clear Z B Y A)|(apply U;clear U K)|fail)<;>conv=>whnf)
  rw[←hor]
  have:(By M c).isEmpty=false:=by
   cases h:(By M c).isEmpty
   ·rfl
   ·exact absurd (List.isEmpty_iff.1 h) hne
  rw[this];exact AI rfl
end Go.Gl
