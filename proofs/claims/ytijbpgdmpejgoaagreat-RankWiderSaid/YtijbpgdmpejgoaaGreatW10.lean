import Derived.Test.YtijbpgdmpejgoaaGreatW9
set_option linter.all false
set_option linter.defProp false
noncomputable section
namespace Go.Gl
open Go.Proofs
attribute [local irreducible] BD Aw Ai AU AO Ah AV AW AN Ag AS AT Ay A9 Sat Ab A4 Aj W
def F3 (A B:List (List Fact)):List (List Fact):=A.flatMap fun x=>B.map fun y=>Cr x y
def IX (f:Fact) (l:List (Bool→List (List Fact))) (c:Bool):List (List Fact):=
 if f.op=1 then(if c then []else [[]])else
 if f.op=5 then(l.getD 0 (fun _=>[])) (!c)else
 if f.op=6∨f.op=7 then(if c != (f.op==7)then l.getD 0 (fun _=>[]) c++l.getD 1 (fun _=>[]) c else F3 (l.getD 0 (fun _=>[]) c) (l.getD 1 (fun _=>[]) c))else
 if c then [[F2 f]]else [[f]]
def Bg (f:Fact):Bool→List (List Fact):=f.Gw IX
def HM (f:Fact) (c:Bool):Bg f c=IX f (f.kids.map Bg) c:=congrFun (Fact.Df IX f) c
def cV (f:Fact) (l:List Nat):Nat:=if f.op=5 then l.getD 0 0 else if f.op=6∨f.op=7 then l.getD 0 0+l.getD 1 0 else 1
def lv (f:Fact):Nat:=f.Gw cV
def NB (f:Fact):lv f=cV f (f.kids.map lv):=Fact.Df cV f
def arity (f:Fact):Bool:=f.Gw fun f l=>f.kids.length==By f.op&&l.all id
def Ko (f:Fact):arity f=(f.kids.length==By f.op&&f.kids.all arity):=by
 rw[arity,Fact.Df,List.all_map];rfl
def DD {w:AK} (f:Fact):BW w f=true→arity f=true:=by
 induction f using Fact.ind with
 | h f ih=>
   intro h;rw[CK]at h;simp only[C1,BV,EL]at h;rw[Ko,BV,EL];exact⟨h.1.2.1,fun k hk=>ih k hk (h.2 k hk)⟩
def It {f:Fact} (h:arity f=true) (h5:f.op=5): ∃a,f.kids= [a]∧arity a=true:=by
 rw[Ko,BV,EL,h5]at h;have hl:f.kids.length=1:=by simpa[By]using h.1
 obtain⟨a,ha⟩:=List.length_eq_one_iff.1 hl;exact⟨a,ha,h.2 a (by rw[ha];exact .head _)⟩
def Is {f:Fact} (h:arity f=true) (h6:f.op=6∨f.op=7): ∃a b,f.kids= [a,b]∧arity a=true∧arity b=true:=by
 rw[Ko,BV,EL]at h
 have hl:f.kids.length=2:=by
  have h5:f.op≠5:=by omega
  simpa[By,h5,h6]using h.1
 match hk:f.kids,hl with
 | [a,b],_=>exact⟨a,b,rfl,h.2 a (by rw[hk];exact .head _),h.2 b (by rw[hk];exact .tail _ (.head _))⟩
def Zb (f:Fact):arity f=true→1≤lv f:=by
 induction f using Fact.ind with
 | h f ih=>
   intro h;rw[NB,cV];split
   ·rename_i h5
    obtain⟨a,ha,hb⟩:=It h h5;rw[ha];exact ih a (by rw[ha];exact .head _) hb
   ·split
    ·rename_i h6
     obtain⟨a,b,ha,hb,_⟩:=Is h h6;rw[ha];have:=ih a (by rw[ha];exact .head _) hb;simp only[EA,List.getD_cons_zero];omega
    ·omega
def da {a b:Nat} (ha:1≤a) (hb:1≤b):2 ^ a+2 ^ b≤2 ^ (a+b):=by
 rw[Nat.pow_add];have h1:2≤2 ^ a:=by simpa using Nat.pow_le_pow_right (show 0<2 by omega) ha
 have h2:2≤2 ^ b:=by simpa using Nat.pow_le_pow_right (show 0<2 by omega) hb
 generalize 2 ^ a=x at *;generalize 2 ^ b=y at *;have:=Nat.mul_le_mul_left (x - 1) (show 1≤y - 1 by omega);obtain⟨x,rfl⟩: ∃u,x=u+1:=⟨x - 1,by omega⟩
 obtain⟨y,rfl⟩: ∃u,y=u+1:=⟨y - 1,by omega⟩
 simp only[Nat.add_sub_cancel,Nat.mul_one]at this;rw[Nat.add_mul,Nat.mul_add];omega
def Xi (A B:List (List Fact)):(F3 A B).length=A.length*B.length:=by
 induction A with
 | nil=>simp[F3]
 | cons x r ih=>
   simp only[F3,List.flatMap_cons,QP,BR,Lt]at *;rw[ih,Nat.add_mul];omega
def Js (f : Fact):arity f=true→ ∀c,(Bg f c).length≤2 ^ lv f∧ ∀l∈Bg f c,l.length≤lv f:=by
 induction f using Fact.ind with
 | h f ih=>
   intro h c;rw[HM,NB,IX,cV];by_cases h1:f.op=1
   ·have e5: ¬f.op=5:=by omega
    have e6: ¬(f.op=6∨f.op=7):=by omega
    rw[if_pos h1,if_neg e5,if_neg e6];cases c
    ·rw[if_neg (by decide)]
     exact⟨by simp,fun l hl=>by simp at hl;subst hl;simp⟩
    ·rw[if_pos rfl]
     exact⟨by simp,fun l hl=>by cases hl⟩
   rw[if_neg h1];by_cases h5:f.op=5
   ·obtain⟨a,ha,hb⟩:=It h h5
    rw[if_pos h5,if_pos h5,ha];exact ih a (by rw[ha];exact .head _) hb (!c)
   rw[if_neg h5,if_neg h5];by_cases h6:f.op=6∨f.op=7
   ·obtain⟨a,b,ha,hb1,hb2⟩:=Is h h6
    rw[if_pos h6,if_pos h6,ha];simp only[EA,List.map_nil,List.getD_cons_zero,List.getD_cons_succ];obtain⟨i1,i2⟩:=ih a (by rw[ha];exact .head _) hb1 c;obtain⟨j1,j2⟩:=ih b (by rw[ha];exact .tail _ (.head _)) hb2 c;have p1:=Zb a hb1;have p2:=Zb b hb2;split
    ·refine⟨?_,fun l hl=>?_⟩
     ·rw[QP]
      have:=da p1 p2;omega
     ·rcases FX.1 hl with hl|hl
      ·have:=i2 l hl;omega
      ·have:=j2 l hl;omega
    ·refine⟨?_,fun l hl=>?_⟩
     ·rw[Xi,Nat.pow_add]
      exact Nat.mul_le_mul i1 j1
     ·simp only[F3,List.mem_flatMap,Ls]at hl
      obtain⟨x,hx,y,hy,rfl⟩:=hl;have:=Pt x y;have:=i2 x hx;have:=j2 y hy;omega
   ·rw[if_neg h6,if_neg h6]
    cases c
    ·exact⟨by simp,fun l hl=>by simp at hl;subst hl;simp⟩
    ·exact⟨by simp,fun l hl=>by simp at hl;subst hl;simp⟩
def jJ (f:Fact):arity f=true→2*lv f≤K7 f+1:=by
 induction f using Fact.ind with
 | h f ih=>
   intro h;rw[NB,cV,Jc];by_cases h5:f.op=5
   ·obtain⟨a,ha,hb⟩:=It h h5
    rw[if_pos h5,ha];have:=ih a (by rw[ha];exact .head _) hb;simp only[EA,List.map_nil,List.getD_cons_zero,List.sum_cons,List.sum_nil];omega
   rw[if_neg h5];by_cases h6:f.op=6∨f.op=7
   ·obtain⟨a,b,ha,hb1,hb2⟩:=Is h h6
    rw[if_pos h6,ha];have:=ih a (by rw[ha];exact .head _) hb1;have:=ih b (by rw[ha];exact .tail _ (.head _)) hb2;simp only[EA,List.map_nil,List.getD_cons_zero,List.getD_cons_succ,List.sum_cons,List.sum_nil];omega
   ·rw[if_neg h6]
    omega
def IA (w:AK) (x:Fact):Prop:= ∃g,BW w g=true∧Bm g=true∧(x=g∨x=F2 g)
def Fo {g:Fact} (h:Bm g=true):g.op=2∨g.op=3∨g.op=4:=by
 simp only[Bm,Fj,Du]at h;omega
def FW {w : AK} (f:Fact):BW w f=true→ ∀c,∀l∈Bg f c,∀x∈l,IA w x:=by
 induction f using Fact.ind with
 | h f ih=>
   intro h c;have har:=DD f h;have h':=h;rw[CK,BV,EL]at h';rw[HM,IX];by_cases h1:f.op=1
   ·rw[if_pos h1]
    cases c
    ·rw[if_neg (by decide)]
     intro l hl x hx;simp at hl;subst hl;cases hx
    ·rw[if_pos rfl]
     intro l hl;cases hl
   rw[if_neg h1];by_cases h5:f.op=5
   ·obtain⟨a,ha,hb⟩:=It har h5
    rw[if_pos h5,ha];exact ih a (by rw[ha];exact .head _) (h'.2 a (by rw[ha];exact .head _)) (!c)
   rw[if_neg h5];by_cases h6:f.op=6∨f.op=7
   ·obtain⟨a,b,ha,hb1,hb2⟩:=Is har h6
    rw[if_pos h6,ha];have i1:=ih a (by rw[ha];exact .head _) (h'.2 a (by rw[ha];exact .head _)) c;have j1:=ih b (by rw[ha];exact .tail _ (.head _)) (h'.2 b (by rw[ha];exact .tail _ (.head _))) c;simp only[EA,List.map_nil,List.getD_cons_zero,List.getD_cons_succ];split
    ·intro l hl
     rcases FX.1 hl with hl|hl
     ·exact i1 l hl
     ·exact j1 l hl
    ·intro l hl x hx
     simp only[F3,List.mem_flatMap,Ls]at hl;obtain⟨y,hy,z,hz,rfl⟩:=hl;rcases Ps _ _ _ hx with h|h
     ·exact i1 y hy x h
     ·exact j1 z hz x h
   ·rw [if_neg h6]
    have hlf:Bm f=true:=by
     have ho:Rw w f=true:=by
      have:=h'.1;simp only[C1,BV]at this;exact this.1
     simp only[Bm,Fj,Du];unfold Rw at ho;split at ho
     ·omega
     ·split at ho
      ·omega
      ·simp only[Fj,Du]at ho
       omega
    cases c
    ·rw[if_neg (by decide)]
     intro l hl x hx;simp at hl;subst hl;simp at hx;subst hx;exact⟨x,h,hlf,.inl rfl⟩
    ·rw[if_pos rfl]
     intro l hl x hx;simp at hl;subst hl;simp at hx;subst hx;exact⟨f,h,hlf,.inr rfl⟩
def G8 {w:AK} {x:Fact} (h:IA w x):fu x∧BW w (A8 x).1=true∧Bm (A8 x).1=true:=by
 obtain⟨g,hn,hl,rfl|rfl⟩:=h
 ·have:=Fo hl
  have h5: ¬x.op=5:=by omega
  exact⟨fun e=>absurd e h5,by simp only[A8,if_neg h5];exact⟨hn,hl⟩⟩
 ·exact⟨fun _ e=>(by cases e),hn,hl⟩
def Ke {w:AK} {l:List Fact} (h: ∀x∈l,IA w x):(∀x∈l,fu x)∧po w l∧UJ l∧ZT l 2:=by
 refine⟨fun x hx=>(G8 (h x hx)).1,fun x hx h2=>?_,fun x hx=>?_,fun x hx=>?_⟩
 all_goals
  obtain⟨-,hn,hl⟩:=G8 (h x hx);have hlo:=Fo hl;generalize (A8 x).1=g at *;rw[CK,BV]at hn;have hn:=hn.1;simp only[C1,BV]at hn;obtain⟨ho,-,-,-,hp,-⟩:=hn
 ·unfold Rw at ho
  rw[if_pos h2]at ho;simp only[M4,BV,CL]at ho;exact ho.2
 ·unfold Rw at ho
  split at ho
  ·simp only[BV,Du]at ho
   omega
  ·split at ho
   ·simp only[BV,CL]at ho
    omega
   ·omega
 ·simp only[EX,BV,CL]at hp
  omega
def T6 (w:AK) (f:Fact):Bool:=(Bg f false).any (I5 w)
def O4 (w:AK) (a b:Fact):Bool:= !T6 w (O6 a (F2 b))
def jI (a b:Fact):lv (O6 a (F2 b))=lv a+lv b:=by
 rw[NB];simp only[cV,O6,Fact.op,Fact.kids,EA,List.map_nil,List.getD_cons_zero,List.getD_cons_succ];rw[NB (F2 b)];simp[cV,F2,Fact.op,Fact.kids]
def Sw {w:AK} {a b:Fact} (ha:BW w a=true) (hb:BW w b=true):BW w (O6 a (F2 b))=true:=by
 have hnb:BW w (F2 b)=true:=by
  rw[CK];simp[F2,C1,Rw,Fact.op,Fact.kids,Fact.arg,Fact.path,Fact.cls,Fact.n,By,EX,Bm,hb]
 rw[CK];simp[O6,C1,Rw,Fact.op,Fact.kids,Fact.arg,Fact.path,Fact.cls,Fact.n,By,EX,Bm,ha,hnb]
def Sl {p:Prog}: ∀ {ms:List MY} {s:List Int},(runM p ms s).isSome=true→ ∀m∈ms,Mu p m=true
 | [],_,_,_,h=>by cases h
 | m ::r,s,h,x,hx=>by
   rw[runM]at h;split at h
   ·rename_i hok
    split at h
    ·cases h
    ·rcases FE.1 hx with rfl|hx
     ·exact hok
     ·exact Sl h x hx
   ·cases h
def DA {p:Prog} (h:(BA p).isSome=true):Cf p=true∧ ∀m∈p.methods,Mu p m=true:=by
 unfold BA at h;split at h
 ·rename_i hh
  refine⟨hh,?_⟩;split at h
  ·cases h
  ·rename_i s hs
   exact Sl (by rw[hs];rfl)
 ·cases h
structure DE (p:Prog):Prop where
 Yq:Jy (AR p)
 AP:Bl p.AL≤Ac
 n8:p.AL.length≤1000
 facts: ∀m∈p.methods,BW (AR p) m.fact=true∧lv m.fact≤12
 many:p.methods.length≤16
def look_ok {p:Prog} (h:(BA p).isSome=true):DE p:=by
 obtain⟨hh,hm⟩:=DA h;simp only[Cf,BV,CL]at hh;have hc:=hh.1;simp only[A2,BV,CL]at hc;have hM:=Mx;refine⟨N7 hc.1 hc.2.1 hc.2.2.2.1,by have:=(E8 _ _ hc.2.1).1;omega,by have:=hc.1;omega,fun m h=>?_,hh.2.2.1⟩;have:=hm m h;simp only[Mu,CW,BV,CL]at this;have hn:=this.2.2.2.2.1.2.2;refine⟨hn,?_⟩;have hcn:=Jo m.fact 24 (by omega) this.2.2.2.2.1.1;have:=jJ m.fact (DD _ hn);omega
def A5 (p:Prog) (m:Int):Bool:=decide (0≤m)&&decide (m<(p.methods.length:Int))
def BL (p:Prog) (m:Int):MY:=p.methods.getD m.toNat default
def B7 {p:Prog} {m:Int} (h:A5 p m=true):p.methods[m.toNat]? =some (BL p m):=by
 simp only[A5,BV,CL]at h;rw[BL,DS,DZ (by omega)];rfl
def Cq (p:Prog) (m n:Int):Bool:=(BL p m).gen==(BL p n).gen&&(BL p m).kind==(BL p n).kind
def EC (p:Prog) (m n:Int):Bool:=O4 (AR p) (BL p m).fact (BL p n).fact
def Al (p:Prog) (m n:Int):Bool:=EC p m n&& !EC p n m
def HU (p:Prog) (m n:Int):Bool×Int:=if(BA p).isSome&&(A5 p m&&A5 p n)then(if Cq p m n then(Al p m n,0)else(false,7))else(false,2)
end Go.Gl
namespace Go.Gl
variable {P:Program} {σ:AH}
abbrev eU (n:Nat):V:= .i .u64 (n:Int)
def G6 {n:Nat} (h:n<18446744073709551616):IntKind.u64.wrap (n:Int)=n:=by
 simp only[IntKind.wrap,IntKind.signed,IntKind.bits];simp;omega
def KQ {a b:Nat} (ha:a<18446744073709551616) (hb:b<18446744073709551616):bits .or .u64 (a:Int) (b:Int)=((a|||b:Nat):Int):=by
 have h:a|||b<2 ^ 64:=Nat.or_lt_two_pow (n:=64) (by simpa using ha) (by simpa using hb)
 simp only[bits,IntKind.bits]
 have e1:(BitVec.ofInt 64 (a:Int)|||BitVec.ofInt 64 (b:Int)).toNat=a|||b:=by
  simp only[BitVec.ofInt_natCast,BitVec.toNat_or,BitVec.toNat_ofNat];rw[Nat.mod_eq_of_lt (by simpa using ha),Nat.mod_eq_of_lt (by simpa using hb)]
 have e2:=G6 (n:=a|||b) (by simpa using h);rw[←e1]at e2;rw[←e1];exact e2
def Kl {a b:Nat} (ha:a<18446744073709551616) (hb:b<18446744073709551616):bits .and .u64 (a:Int) (b:Int)=((a&&&b:Nat):Int):=by
 have h:a&&&b<2 ^ 64:=Nat.and_lt_two_pow (n:=64) a (by simpa using hb);simp only[bits,IntKind.bits]
 have e1:(BitVec.ofInt 64 (a:Int)&&&BitVec.ofInt 64 (b:Int)).toNat=a&&&b:=by
  simp only[BitVec.ofInt_natCast,BitVec.toNat_and,BitVec.toNat_ofNat];rw[Nat.mod_eq_of_lt (by simpa using ha),Nat.mod_eq_of_lt (by simpa using hb)]
 have e2:=G6 (n:=a&&&b) (by simpa using h);rw[←e1]at e2;rw[←e1];exact e2
def M6 (a b:Nat):Nat:=(BitVec.ofNat 64 a&&& ~~~BitVec.ofNat 64 b).toNat
def RM (a b:Nat):M6 a b<18446744073709551616:=by
 have:=(BitVec.ofNat 64 a&&& ~~~BitVec.ofNat 64 b).isLt;simpa[M6]using this
def QC {a b:Nat}:bits .andNot .u64 (a:Int) (b:Int)=((M6 a b:Nat):Int):=by
 simp only[bits,IntKind.bits]
 have e1:(BitVec.ofInt 64 (a:Int)&&& ~~~BitVec.ofInt 64 (b:Int)).toNat=M6 a b:=by
  simp only[BitVec.ofInt_natCast,M6]
 have e2:=G6 (n:=M6 a b) (RM a b);rw[←e1]at e2;rw[←e1];exact e2
def N1 {a b i:Nat} (hi:i<64):(M6 a b).testBit i=(a.testBit i&& !b.testBit i):=by
 rw[M6,BitVec.testBit_toNat,BitVec.getLsbD_and,BitVec.getLsbD_not];rw[BitVec.getLsbD_ofNat,BitVec.getLsbD_ofNat];simp only[hi,decide_true,Ev]
def Vz {c:Nat} (h:c<64):IntKind.u64.wrap (1*2 ^ (min c IntKind.u64.bits))=((2 ^ c:Nat):Int):=by
 have hb:IntKind.u64.bits=64:=rfl;rw[hb,Nat.min_eq_left (by omega),Int.one_mul];have:=G6 (n:=2 ^ c) (by have:=Nat.pow_lt_pow_right (show 1<2 by omega) h;simpa using this);rw[←this];simp
def JY {c:Nat} (h:c<64):2 ^ c<18446744073709551616:=by
 have:=Nat.pow_lt_pow_right (show 1<2 by omega) h;simpa using this
def Vy {a c:Nat} (h:c<64):(a:Int).fdiv (2 ^ (min c IntKind.u64.bits))=((a >>> c:Nat):Int):=by
 have hb:IntKind.u64.bits=64:=rfl;rw[hb,Nat.min_eq_left (by omega),Nat.shiftRight_eq_div_pow,Int.fdiv_eq_ediv_of_nonneg _ (Int.pow_nonneg (by omega))];simp
def DI {v:V} {Q:R→AH→Prop} (h:Q (.Cw v) σ):Ai σ v Q:=⟨v,σ,fun _ _ h=>h,.refl v,h⟩
def Bk {g:FuncId} {fi ca args:List V} {Q:R→AH→Prop} (h:BD P g (fi++args++ca) σ Q):Ay P (.f (.func g) fi ca) args σ Q:=h
def Pure.of {f:FuncId} {args:List V} {v:V} (h:BD P f args emp fun r _=>r= .ret v):Pure P f args v:=by
 refine⟨h.1,fun Λ w cs G hv=>Calls.mono (h.2 Λ w cs G hv) fun e w' ⟨r,σ',hr,h1,h2,h3⟩=>?_⟩;subst hr;obtain⟨c,rfl,hv'⟩:=h1;have hsub:Sub emp σ':=fun n o ho=>by cases ho
 exact⟨.ret v,emp,⟨rfl,rfl⟩,⟨c,rfl,Fa.rel h2 hsub (.refl v) hv'⟩,h2.drop hsub,⟨h3.frame,h3.size,h3.os,h3.tape,h3.output,fun _ _ _=>rfl⟩⟩
def C5 {α S:Type} (P:Program) (x:V) (ea:α→V) (H:S→List At) (stp:α→S→Bool×S) (D:α→S→Prop):Prop:=
 ∀y s,D y s→ ∀σ,Sat σ (H s)→Ay P x [ea y] σ fun r σ'=>r= .ret (.b (stp y s).1)∧Sat σ' (H (stp y s).2)
def C5.use {α S:Type} {x:V} {ea:α→V} {H:S→List At} {stp:α→S→Bool×S} {D:α→S→Prop} (h:C5 P x ea H stp D) {y:α} {s:S} (hd:D y s) (hs:Sat σ (H s)) {k kp:V→AH→Prop} (hk: ∀σ',Sat σ' (H (stp y s).2)→k (.b (stp y s).1) σ'):Ay P x [ea y] σ (qk k kp):=
 (h y s hd σ hs).mono fun r σ' ⟨e,h'⟩=>by rw[e];exact hk σ' h'
def C5.tY {α S:Type} {g:FuncId} {fi ca:List V} {ea:α→V} {H:S→List At} {stp:α→S→Bool×S} {D:α→S→Prop} (h:C5 P (.f (.func g) fi ca) ea H stp D) {y:α} {s:S} (hd:D y s) {rest:List At} (hs:Sat σ (H s++rest)) {k kp:V→AH→Prop} (hk: ∀σ',Sat σ' (H (stp y s).2++rest)→k (.b (stp y s).1) σ'):Ay P (.f (.func g) fi ca) [ea y] σ (qk k kp):=by
 refine Bk ?_;have h1:Bc P g (fi++[ea y]++ca) (H s) fun r post=>r= .ret (.b (stp y s).1)∧post=H (stp y s).2:=fun σ hs=>BD.mono (h y s hd σ hs) fun r σ' ⟨e,h2⟩=>⟨_,⟨e,rfl⟩,h2⟩
 refine h1.use hs ?_;rintro r post σ' ⟨rfl,rfl⟩ hs';exact hk σ' hs'
def Bh {α S:Type} (stp:α→S→Bool×S):List α→Nat→S→Int×S
 | [],_,s=>(-1,s)
 | y::r,k,s=>if(stp y s).1 then((k:Int),(stp y s).2)else Bh stp r (k+1) (stp y s).2
def Ch {α S:Type} (stp:α→S→Bool×S):List α→S→Bool×S
 | [],s=>(true,s)
 | y::r,s=>if(stp y s).1 then Ch stp r (stp y s).2 else(false,(stp y s).2)
def T1 {α S:Type} (stp:α→S→Bool×S) (D:α→S→Prop):List α→S→Prop
 | [],_=>True
 | y::r,s=>D y s∧T1 stp D r (stp y s).2
def Ll {α S:Type} {stp:α→S→Bool×S}: ∀(xs:List α) (k:Nat) (s:S),(Bh (fun y s=>(!(stp y s).1,(stp y s).2)) xs k s).2=(Ch stp xs s).2∧(decide ((Bh (fun y s=>(!(stp y s).1,(stp y s).2)) xs k s).1≥0)= !(Ch stp xs s).1)
 | [],_,_=>⟨rfl,rfl⟩
 | y::r,k,s=>by
   simp only[Bh,Ch];cases h:(stp y s).1
   ·simp
   ·simpa using Ll r (k+1) (stp y s).2
def Q3 {α S:Type} {stp:α→S→Bool×S} {D:α→S→Prop}: ∀(xs:List α) (s:S),T1 stp D xs s→T1 (fun y s=>(!(stp y s).1,(stp y s).2)) D xs s
 | [],_,_=>trivial
 | _::r,_,h=>⟨h.1,Q3 r _ h.2⟩
def I2 {α:Type} (f:α→Bool): ∀(xs:List α),Ch (fun y (_:Unit)=>(f y,())) xs ()=(xs.all f,())
 | []=>rfl
 | y::r=>by
   simp only[Ch,Rs];cases f y
   ·rfl
   ·simpa using I2 f r
def Gk {α S:Type} {stp:α→S→Bool×S} {D:α→S→Prop}: ∀ {xs:List α} {s:S},(∀y∈xs,∀s,D y s)→T1 stp D xs s
 | [],_,_=>trivial
 | y::r,s,h=>⟨h y (.head _) s,Gk fun z hz=>h z (.tail _ hz)⟩
end Go.Gl
namespace Go.Gl
open Go.Proofs
attribute [local irreducible] BD Aw Ai AU AO Ah AV AW AN Ag AS AT Ay A9 Sat Ab A4 Aj W
def Qm {xs:List Int} {f:Bool} (h:Eu (.l (iL xs) f)):xs.length≤Ac:=L4 h
def bD:Pure Tryz.prog 164 [.b true] (.t []):=by
 refine Zw kZ ?_;have hs:=Sn
 conv=>whnf
 repeat'((first|apply st|(apply sq;intro K U)|(apply si;intro A B Y Z)|(apply Y;clear Z B Y A)|(apply U;clear U K)|refine EM ?_|fail)<;>conv=>whnf)
 all_goals exact AI rfl
abbrev Dn:V:= .J1 242 (.a [])
def Y2 (xs:List Int) (x:Int):Int:=(Bh (fun y (_:Unit)=>(x==y,())) xs 0 ()).1
def Kk {α:Type} (f:α→Bool): ∀(xs:List α) (k:Nat),(decide ((Bh (fun y (_:Unit)=>(f y,())) xs k ()).1≥0))=xs.any f
 | [],_=>rfl
 | y::r,k=>by
   simp only[Bh,QO];cases f y
   ·simpa using Kk f r (k+1)
   ·simp
def Rg (xs:List Int) (x:Int):xs.any (x== ·)=xs.contains x:=by
 induction xs with
 | nil=>rfl
 | cons y r ih=>rw[QO,List.contains_cons,ih]
def eL (xs:List Int) (x:Int):decide (Y2 xs x≥0)=xs.contains x:=by
 rw[←Rg];exact Kk (x== ·) xs 0
def S4 (xs:List Int) (f:Bool) (x:Int):Pure Tryz.prog 193 [.l (iL xs) f,eI x] (eI (Y2 xs x)):=by
 refine Pure.fit (by kernel_rfl) fun hf=>?_
 have hxl:=Qm hf.1;have hM:=Mx;refine k9 kZ ?_;have hs:=Sn
 conv=>whnf
 repeat'((first|apply st|(apply sq;intro K U)|(apply si;intro A B Y Z)|(apply Y;clear Z B Y A)|(apply U;clear U K)|fail)<;>conv=>whnf)
 refine CZ xs.length (fun k (_:Unit)=>[(8,eI (BH k))]) (fun _ _=>[]) (fun k _=>Y2 xs x=(Bh (fun y (_:Unit)=>(x==y,())) (xs.drop k) k ()).1) () rfl rfl hs ?_;clear hs;rintro k - σ hk hn hs;have hck:BH k=k:=AM (by omega);rcases BM xs hk with⟨y,hy,hlt⟩|hke
 ·rw[drop_cons hy,Bh]at hn
  conv=>whnf
  repeat'((first|apply st|(apply sq;intro K U)|(apply si;intro A B Y Z)|(apply Y;clear Z B Y A)|(apply U;clear U K)|refine⟨rfl,?_⟩|refine ix ?_|(refine Cv (fun hc=>?_)<;>(try rw[hc])<;>clear hc)|(constructor<;>intro hc<;>(try rw[hc])<;>(replace hc:=bp hc))|clear U K)<;>conv=>whnf)
  ·exact AI (by rw[hn,hc,hck];simp)
  ·exact⟨hlt,(),rfl,by rw[hn];simp[hc],hs⟩
 ·rw[Ap hke,Bh]at hn
  conv=>whnf
  repeat'((first|apply st|(apply sq;intro K U)|(apply si;intro A B Y Z)|(apply Y;clear Z B Y A)|(apply U;clear U K)|refine⟨rfl,?_⟩|(refine EI (fun hc=>?_)<;>(try rw[hc])<;>clear hc)|clear U K)<;>conv=>whnf)
  exact AI (by rw[hn])
def Ds (xs:List Int) (f:Bool) (x:Int):Pure Tryz.prog 172 [.l (iL xs) f,eI x] (.b (xs.contains x)):=by
 refine lO kZ ?_;have hs:=Sn
 conv=>whnf
 repeat'((first|apply st|(apply sq;intro K U)|(apply si;intro A B Y Z)|(apply Y;clear Z B Y A)|(apply U;clear U K)|refine⟨rfl,?_⟩|refine Pure.use (S4 _ _ _) ?_|fail)<;>conv=>whnf)
 all_goals exact AI (by rw[←eL])
def Ol (n:Int):Pure Tryz.prog 211 [eI n] (.b (Qf n)):=by
 refine kq kZ ?_;have hs:=Sn
 conv=>whnf
 repeat'((first|apply st|(apply sq;intro K U)|(apply si;intro A B Y Z)|(apply Y;clear Z B Y A)|(apply U;clear U K)|refine⟨rfl,?_⟩|(constructor<;>intro hc<;>(try rw[hc])<;>(replace hc:=bp hc))|fail)<;>conv=>whnf)
 all_goals exact AI (by simp[Qf, *]<;>omega)
def Nj (f:Fact):Bm f=(decide (2≤f.op)&&decide (f.op≤4)):=by
 rw[K5];simp only[Bm,Fj,BV,Du,CL];omega
def Mm (f:Fact):Pure Tryz.prog 150 [.a (xF f)] (.b (Bm f)):=by
 refine ly kZ ?_;have hs:=Sn
 conv=>whnf
 repeat'((first|apply st|(apply sq;intro K U)|(apply si;intro A B Y Z)|(apply Y;clear Z B Y A)|(apply U;clear U K)|refine⟨rfl,?_⟩|(constructor<;>intro hc<;>(try rw[hc])<;>(replace hc:=bp hc))|fail)<;>conv=>whnf)
 all_goals exact AI (by rw[Nj];simp[*]<;>omega)
def Vv (s c:Nat) (hs0:s<18446744073709551616) (hc:c<64):Pure Tryz.prog 176 [eU s,eI c] (eU (s|||2 ^ c)):=by
 refine lL kZ ?_;have hs:=Sn
 conv=>whnf
 repeat'((first|(apply sq;intro K U)|(apply si;intro A B Y Z)|(apply Y;clear Z B Y A)|(apply U;clear U K)|fail)<;>conv=>whnf)
 refine⟨Int.natCast_nonneg _,?_⟩
 conv=>whnf
 repeat'((first|apply st|(apply Y;clear Z B Y A)|(apply U;clear U K)|refine⟨rfl,?_⟩|fail)<;>conv=>whnf)
 exact AI (by rw[Jz,Vz hc,KQ hs0 (JY hc)])
def NS (s c:Nat) (hs0:s<18446744073709551616) (hc:c<64):Pure Tryz.prog 152 [eU s,eI c] (.b (s.testBit c)):=by
 refine lr kZ ?_;have hs:=Sn
 conv=>whnf
 repeat'((first|(apply sq;intro K U)|(apply si;intro A B Y Z)|(apply Y;clear Z B Y A)|(apply U;clear U K)|fail)<;>conv=>whnf)
 refine⟨Int.natCast_nonneg _,?_⟩
 conv=>whnf
 repeat'((first|apply st|(apply Y;clear Z B Y A)|(apply U;clear U K)|refine⟨rfl,?_⟩|fail)<;>conv=>whnf)
 refine AI ?_;rw[Jz,Vy hc];have h1:s >>> c<18446744073709551616:=by rw[Nat.shiftRight_eq_div_pow];exact Nat.lt_of_le_of_lt (Nat.div_le_self _ _) hs0
 have h2:bits .and .u64 ((s >>> c:Nat):Int) 1=((s >>> c&&&1:Nat):Int):=Kl h1 (show 1<_ by decide);rw[h2];simp only[Nat.testBit,Nat.and_comm 1];congr 1;rcases Nat.mod_two_eq_zero_or_one (s >>> c)with h|h<;>simp[Nat.and_one_is_mod,h]
def eG (op:Int):Pure Tryz.prog 220 [eI op] (eI (By op)):=by
 refine kW kZ ?_;have hs:=Sn
 conv=>whnf
 repeat'((first|apply st|(apply sq;intro K U)|(apply si;intro A B Y Z)|(apply Y;clear Z B Y A)|(apply U;clear U K)|refine⟨rfl,?_⟩|(constructor<;>intro hc<;>(try rw[hc])<;>(replace hc:=bp hc))|clear U K)<;>conv=>whnf)
 all_goals exact AI (by simp[By, *])
def Uo (b:Bool):Pure Tryz.prog 215 [.b b] (eI (if b then 0 else 2)):=by
 refine kg kZ ?_;have hs:=Sn
 conv=>whnf
 repeat'((first|apply st|(apply sq;intro K U)|(apply si;intro A B Y Z)|(apply Y;clear Z B Y A)|(apply U;clear U K)|(constructor<;>intro hc<;>(try rw[hc])<;>(replace hc:=bp hc))|clear U K)<;>conv=>whnf)
 all_goals exact AI (by simp[*])
def Ho {S:Type} (g:FuncId) (fi ca:List V) (H:S→List At) (stp:Int→S→Bool×S) (D:Int→S→Prop) (hx:C5 Tryz.prog (.f (.func g) fi ca) eI H stp D) (xs:List Int) (f:Bool) (s0:S) (hd:T1 stp D xs s0) :
    Bc Tryz.prog 103 [.l (iL xs) f,.f (.func g) fi ca] (H s0) fun r post=>r= .ret (eI (Bh stp xs 0 s0).1)∧post=H (Bh stp xs 0 s0).2:=by
 intro σ hs;refine BD.fit (by kernel_rfl) fun hf=>?_
 have hxl:=Qm hf.1;have hM:=Mx;refine Zz kZ ?_
 conv=>whnf
 repeat'((first|apply st|(apply sq;intro K U)|(apply si;intro A B Y Z)|(apply Y;clear Z B Y A)|(apply U;clear U K)|fail)<;>conv=>whnf)
 refine CZ xs.length (fun k (_:S)=>[(8,eI (BH k))]) (fun _ s=>H s) (fun k s=>T1 stp D (xs.drop k) s∧Bh stp xs 0 s0=Bh stp (xs.drop k) k s) s0 rfl ⟨hd,rfl⟩ hs ?_;clear hs;rintro k s σ hk ⟨hd,hn⟩ hs;have hck:BH k=k:=AM (by omega);rcases BM xs hk with⟨y,hy,hlt⟩|hke
 ·rw[drop_cons hy]at hn hd
  obtain⟨hd1,hd2⟩:=hd;rw[Bh]at hn
  conv=>whnf
  repeat'((first|apply st|(apply sq;intro K U)|(apply si;intro A B Y Z)|(apply Y;clear Z B Y A)|(apply U;clear U K)|refine⟨rfl,?_⟩|refine ix ?_|(refine Cv (fun hc=>?_)<;>(try rw[hc])<;>clear hc)|fail)<;>conv=>whnf)
  refine hx.use hd1 hs ?_;clear hs;intro σ hs
  conv=>whnf
  repeat'((first|apply st|(apply sq;intro K U)|(apply si;intro A B Y Z)|(apply Y;clear Z B Y A)|(apply U;clear U K)|refine⟨rfl,?_⟩|(constructor<;>intro hc<;>(try rw[hc])<;>(replace hc:=bp hc))|clear U K)<;>conv=>whnf)
  ·rw[hc,if_pos rfl]at hn
   rw[hn];exact Aq hs (List.Sublist.refl _) (by rw[hck];exact .refl _) fun σ' hs'=>⟨_,⟨rfl,rfl⟩,hs'⟩
  ·rw[hc,if_neg (by decide)]at hn
   exact⟨hlt,_,rfl,⟨hd2,hn⟩,hs⟩
 ·rw[Ap hke,Bh]at hn
  conv=>whnf
  repeat'((first|apply st|(apply sq;intro K U)|(apply si;intro A B Y Z)|(apply Y;clear Z B Y A)|(apply U;clear U K)|refine⟨rfl,?_⟩|(refine EI (fun hc=>?_)<;>(try rw[hc])<;>clear hc)|clear U K)<;>conv=>whnf)
  rw[hn];exact Aq hs (List.Sublist.refl _) (.refl _) fun σ' hs'=>⟨_,⟨rfl,rfl⟩,hs'⟩
section
variable {S:Type} (g:FuncId) (fi ca:List V) (H:S→List At)
def GH (stp:Int→S→Bool×S) (D:Int→S→Prop) (hx:C5 Tryz.prog (.f (.func g) fi ca) eI H stp D) (xs:List Int) (f:Bool) (s0:S) (hd:T1 stp D xs s0) :
    Bc Tryz.prog 72 [.l (iL xs) f,.f (.func g) fi ca] (H s0) fun r post=>r= .ret (.b (decide ((Bh stp xs 0 s0).1≥0)))∧post=H (Bh stp xs 0 s0).2:=by
 intro σ hs;refine gI kZ ?_
 conv=>whnf
 repeat'((first|(apply sq;intro K U)|(apply si;intro A B Y Z)|(apply Y;clear Z B Y A)|(apply U;clear U K)|fail)<;>conv=>whnf)
 refine(Ho g fi ca H stp D hx xs f s0 hd).use (rest:=[]) (by simpa using hs) ?_;rintro r post σ ⟨rfl,rfl⟩ hs
 conv=>whnf
 repeat'((first|apply st|(apply Y;clear Z B Y A)|(apply U;clear U K)|refine⟨rfl,?_⟩|fail)<;>conv=>whnf)
 exact Aq hs (by simp) (.refl _) fun σ' hs'=>⟨_,⟨rfl,rfl⟩,hs'⟩
def jD (stp:Int→S→Bool×S) (D:Int→S→Prop) (hx:C5 Tryz.prog (.f (.func g) fi ca) eI H stp D):C5 Tryz.prog (.f (.func 217) [] [.rp [.f (.func g) fi ca]]) eI H (fun y s=>(!(stp y s).1,(stp y s).2)) D:=by
 intro y s hd σ hs;refine Bk ?_;show BD Tryz.prog 217 ([]++[eI y]++[.rp [.f (.func g) fi ca]]) σ _;refine Zr kZ ?_
 conv=>whnf
 repeat'((first|apply st|(apply sq;intro K U)|(apply si;intro A B Y Z)|(apply Y;clear Z B Y A)|(apply U;clear U K)|fail)<;>conv=>whnf)
 refine hx.use hd hs ?_;clear hs;intro σ hs
 conv=>whnf
 repeat'((first|apply st|(apply Y;clear Z B Y A)|(apply U;clear U K)|fail)<;>conv=>whnf)
 exact Aq hs (List.Sublist.refl _) (.refl _) fun σ' hs'=>⟨rfl,hs'⟩
def Z8 (stp:Int→S→Bool×S) (D:Int→S→Prop) (hx:C5 Tryz.prog (.f (.func g) fi ca) eI H stp D) (xs:List Int) (f:Bool) (s0:S) (hd:T1 stp D xs s0) :
    Bc Tryz.prog 177 [.l (iL xs) f,.f (.func g) fi ca] (H s0) fun r post=>r= .ret (.b (Ch stp xs s0).1)∧post=H (Ch stp xs s0).2:=by
 intro σ hs;obtain⟨e1,e2⟩:=Ll (stp:=stp) xs 0 s0;refine Zu kZ ?_
 conv=>whnf
 repeat'((first|(apply sq;intro K U)|(apply si;intro A B Y Z)|(apply Y;clear Z B Y A)|(apply U;clear U K)|fail)<;>conv=>whnf)
 refine(GH 217 [] [.rp [.f (.func g) fi ca]] H _ D (jD g fi ca H stp D hx) xs f s0 (Q3 xs s0 hd)).use (rest:=[]) (by simpa using hs) ?_;rintro r post σ ⟨rfl,rfl⟩ hs;rw[e2];rw[e1]at hs
 conv=>whnf
 repeat'((first|apply st|(apply Y;clear Z B Y A)|(apply U;clear U K)|fail)<;>conv=>whnf)
 exact Aq hs (by simp) (by rw[Bool.not_not];exact .refl _) fun σ' hs'=>⟨_,⟨rfl,rfl⟩,hs'⟩
def RY (stp:Fact→S→Bool×S) (D:Fact→S→Prop) (hx:C5 Tryz.prog (.f (.func g) fi ca) (fun y=> .a (xF y)) H stp D) (xs:List Fact) (f:Bool) (s0:S) (hxl:xs.length≤Ac) (hd:T1 stp D xs s0) :
    Bc Tryz.prog 253 [.l (facts xs) f,.f (.func g) fi ca] (H s0) fun r post=>r= .ret (eI (Bh stp xs 0 s0).1)∧post=H (Bh stp xs 0 s0).2:=by
 intro σ hs;have hM:=Mx;refine kB kZ ?_
 conv=>whnf
 repeat'((first|apply st|(apply sq;intro K U)|(apply si;intro A B Y Z)|(apply Y;clear Z B Y A)|(apply U;clear U K)|fail)<;>conv=>whnf)
 refine CZ xs.length (fun k (_:S)=>[(8,eI (BH k))]) (fun _ s=>H s) (fun k s=>T1 stp D (xs.drop k) s∧Bh stp xs 0 s0=Bh stp (xs.drop k) k s) s0 rfl ⟨hd,rfl⟩ hs ?_;clear hs;rintro k s σ hk ⟨hd,hn⟩ hs;have hck:BH k=k:=AM (by omega);rcases BM xs hk with⟨y,hy,hlt⟩|hke
 ·rw[drop_cons hy]at hn hd
  obtain⟨hd1,hd2⟩:=hd;rw[Bh]at hn
  conv=>whnf
  repeat'((first|apply st|(apply sq;intro K U)|(apply si;intro A B Y Z)|(apply Y;clear Z B Y A)|(apply U;clear U K)|refine⟨rfl,?_⟩|refine⟨kZ,?_⟩|refine Ve ?_|(refine Cv (fun hc=>?_)<;>(try rw[hc])<;>clear hc)|fail)<;>conv=>whnf)
  refine hx.use hd1 hs ?_;clear hs;intro σ hs
  conv=>whnf
  repeat'((first|apply st|(apply sq;intro K U)|(apply si;intro A B Y Z)|(apply Y;clear Z B Y A)|(apply U;clear U K)|refine⟨rfl,?_⟩|(constructor<;>intro hc<;>(try rw[hc])<;>(replace hc:=bp hc))|clear U K)<;>conv=>whnf)
  ·rw[hc,if_pos rfl]at hn
   rw[hn];exact Aq hs (List.Sublist.refl _) (by rw[hck];exact .refl _) fun σ' hs'=>⟨_,⟨rfl,rfl⟩,hs'⟩
  ·rw[hc,if_neg (by decide)]at hn
   exact⟨hlt,_,rfl,⟨hd2,hn⟩,hs⟩
 ·rw[Ap hke,Bh]at hn
  conv=>whnf
  repeat'((first|apply st|(apply sq;intro K U)|(apply si;intro A B Y Z)|(apply Y;clear Z B Y A)|(apply U;clear U K)|refine⟨rfl,?_⟩|(refine EI (fun hc=>?_)<;>(try rw[hc])<;>clear hc)|clear U K)<;>conv=>whnf)
  rw[hn];exact Aq hs (List.Sublist.refl _) (.refl _) fun σ' hs'=>⟨_,⟨rfl,rfl⟩,hs'⟩
def Md (stp:Fact→S→Bool×S) (D:Fact→S→Prop) (hx:C5 Tryz.prog (.f (.func g) fi ca) (fun y=> .a (xF y)) H stp D) (xs:List Fact) (f:Bool) (s0:S) (hxl:xs.length≤Ac) (hd:T1 stp D xs s0) :
    Bc Tryz.prog 218 [.l (facts xs) f,.f (.func g) fi ca] (H s0) fun r post=>r= .ret (.b (decide ((Bh stp xs 0 s0).1≥0)))∧post=H (Bh stp xs 0 s0).2:=by
 intro σ hs;refine kY kZ ?_
 conv=>whnf
 repeat'((first|(apply sq;intro K U)|(apply si;intro A B Y Z)|(apply Y;clear Z B Y A)|(apply U;clear U K)|fail)<;>conv=>whnf)
 refine(RY g fi ca H stp D hx xs f s0 hxl hd).use (rest:=[]) (by simpa using hs) ?_;rintro r post σ ⟨rfl,rfl⟩ hs
 conv=>whnf
 repeat'((first|apply st|(apply Y;clear Z B Y A)|(apply U;clear U K)|refine⟨rfl,?_⟩|fail)<;>conv=>whnf)
 exact Aq hs (by simp) (.refl _) fun σ' hs'=>⟨_,⟨rfl,rfl⟩,hs'⟩
def jC (stp:Fact→S→Bool×S) (D:Fact→S→Prop) (hx:C5 Tryz.prog (.f (.func g) fi ca) (fun y=> .a (xF y)) H stp D):C5 Tryz.prog (.f (.func 219) [] [.rp [.f (.func g) fi ca]]) (fun y=> .a (xF y)) H (fun y s=>(!(stp y s).1,(stp y s).2)) D:=by
 intro y s hd σ hs;refine Bk ?_;show BD Tryz.prog 219 ([]++[.a (xF y)]++[.rp [.f (.func g) fi ca]]) σ _;refine kX kZ ?_
 conv=>whnf
 repeat'((first|apply st|(apply sq;intro K U)|(apply si;intro A B Y Z)|(apply Y;clear Z B Y A)|(apply U;clear U K)|refine⟨kZ,?_⟩|fail)<;>conv=>whnf)
 refine hx.use hd hs ?_;clear hs;intro σ hs
 conv=>whnf
 repeat'((first|apply st|(apply Y;clear Z B Y A)|(apply U;clear U K)|fail)<;>conv=>whnf)
 exact Aq hs (List.Sublist.refl _) (.refl _) fun σ' hs'=>⟨rfl,hs'⟩
def Z7 (stp:Fact→S→Bool×S) (D:Fact→S→Prop) (hx:C5 Tryz.prog (.f (.func g) fi ca) (fun y=> .a (xF y)) H stp D) (xs:List Fact) (f:Bool) (s0:S) (hxl:xs.length≤Ac) (hd:T1 stp D xs s0) :
    Bc Tryz.prog 179 [.l (facts xs) f,.f (.func g) fi ca] (H s0) fun r post=>r= .ret (.b (Ch stp xs s0).1)∧post=H (Ch stp xs s0).2:=by
 intro σ hs;obtain⟨e1,e2⟩:=Ll (stp:=stp) xs 0 s0;refine lK kZ ?_
 conv=>whnf
 repeat'((first|(apply sq;intro K U)|(apply si;intro A B Y Z)|(apply Y;clear Z B Y A)|(apply U;clear U K)|fail)<;>conv=>whnf)
 refine(Md 219 [] [.rp [.f (.func g) fi ca]] H _ D (jC g fi ca H stp D hx) xs f s0 hxl (Q3 xs s0 hd)).use (rest:=[]) (by simpa using hs) ?_;rintro r post σ ⟨rfl,rfl⟩ hs;rw[e2];rw[e1]at hs
 conv=>whnf
 repeat'((first|apply st|(apply Y;clear Z B Y A)|(apply U;clear U K)|fail)<;>conv=>whnf)
 exact Aq hs (by simp) (by rw[Bool.not_not];exact .refl _) fun σ' hs'=>⟨_,⟨rfl,rfl⟩,hs'⟩
end
abbrev SI (f:Int→Bool):Int→Unit→Bool×Unit:=fun y _=>(f y,())
def OC {g:FuncId} {fi ca:List V} {f:Int→Bool} {D:Int→Unit→Prop} (h: ∀y,D y ()→Pure Tryz.prog g (fi++[eI y]++ca) (.b (f y))):C5 Tryz.prog (.f (.func g) fi ca) eI (fun _=>[]) (SI f) D:=by
 intro y s hd σ hs;refine Bk ?_;show BD Tryz.prog g (fi++[eI y]++ca) σ _;refine BD.mono ((h y hd).use (k:=fun v σ'=>v= .b (f y)∧Sat σ' []) (kp:=fun _ _=>False) ⟨rfl,Sat.nil⟩) ?_;rintro(v|v) σ' hq
 ·obtain⟨rfl,h⟩:=hq
  exact⟨rfl,h⟩
 ·exact hq.elim
def fM {g:FuncId} {fi ca:List V} {f:Int→Bool} {xs:List Int} (b:Bool) (h: ∀y∈xs,Pure Tryz.prog g (fi++[eI y]++ca) (.b (f y))):Pure Tryz.prog 177 [.l (iL xs) b,.f (.func g) fi ca] (.b (xs.all f)):=by
 have:=Z8 g fi ca (fun _=>[]) (SI f) (fun y _=>y∈xs) (OC fun y hy=>h y hy) xs b () (Gk fun y hy _=>hy);rw[I2]at this;exact Pure.of (BD.mono (this emp Sat.nil) fun r σ' ⟨post,⟨h1,h2⟩,h3⟩=>h1)
def SR (g:FuncId) (fi ca:List V) (f:Int→Bool):Prop:= ∀y:Int,Pure Tryz.prog g (fi++[eI y]++ca) (.b (f y))
def SR.use {g:FuncId} {fi ca:List V} {f:Int→Bool} (h:SR g fi ca f) {y:Int} {σ:AH} {k kp:V→AH→Prop} (hk:k (.b (f y)) σ):Ay Tryz.prog (.f (.func g) fi ca) [eI y] σ (qk k kp):=Bk ((h y).use hk)
def eJ (g:FuncId) (fi ca:List V) (L:List At) (p:Int→Bool) (hx:C5 Tryz.prog (.f (.func g) fi ca) eI (fun _:Unit=>L) (SI p) (fun _ _=>True)) (xs:List Int) (f:Bool):Bc Tryz.prog 286 [.l (iL xs) f,.f (.func g) fi ca] L fun r post=>r= .ret (.l (iL (xs.filter p)) false)∧post=L:=by
 intro σ hs;refine BD.fit (by kernel_rfl) fun hf=>?_
 have hxl:=Qm hf.1;have hM:=Mx;refine Zp kZ ?_
 conv=>whnf
 repeat'((first|apply st|(apply sq;intro K U)|(apply si;intro A B Y Z)|(apply Y;clear Z B Y A)|(apply U;clear U K)|fail)<;>conv=>whnf)
 refine CZ xs.length (fun k v=>[(5,v),(10,eI (BH k))]) (fun k v=>L++[.own v 1 (iL ((xs.take k).filter p))]) (fun _ _=>True) (.l [] true) rfl trivial (Fl hs 1) ?_;clear hs;rintro k v σ hk - hs;have hfl:=Oy p (xs.take k);rw[K6]at hfl;rcases BM xs hk with⟨y,hy,hlt⟩|hke
 ·have hst:(xs.take (k+1)).filter p=if p y then(xs.take k).filter p++[y]else(xs.take k).filter p:=by
   rw[AX hy,List.filter_append];cases hp:p y<;>simp[hp]
  generalize (xs.take k).filter p=zs at *
  conv=>whnf
  repeat'((first|apply st|(apply sq;intro K U)|(apply si;intro A B Y Z)|(apply Y;clear Z B Y A)|(apply U;clear U K)|refine⟨rfl,?_⟩|refine ix ?_|(refine Cv (fun hc=>?_)<;>(try rw[hc])<;>clear hc)|refine hx.tY (s:=()) (rest:=[_]) trivial hs (fun σ hs=>?_)|(constructor<;>intro hc<;>(try rw[hc])<;>(replace hc:=bp hc)<;>(try simp(disch:=omega) only[BR,wrap64,AM]at hc))|clear U K)<;>conv=>whnf)
  ·refine GC (Fh hs L.length (xs:=zs) (x:=y) List.getElem?_concat_length (by omega) Cs fun v' σ' hs' hsl=>?_)
   rw[List.set_append_right _ _ (IE _),Nat.sub_self]at hs';replace hs:=hs'
   conv=>whnf
   repeat'((first|(apply si;intro A B Y Z)|(apply Y;clear Z B Y A)|(apply U;clear U K)|refine⟨rfl,?_⟩|clear U K)<;>conv=>whnf)
   rw[if_pos (by assumption)]at hst;exact⟨hlt,_,rfl,trivial,by rw[hst];exact hs⟩
  ·rw[if_neg (by simp[*])]at hst
   exact⟨hlt,_,rfl,trivial,by rw[hst];exact hs⟩
 ·conv=>whnf
  repeat'((first|apply st|(apply sq;intro K U)|(apply si;intro A B Y Z)|(apply Y;clear Z B Y A)|(apply U;clear U K)|refine⟨rfl,?_⟩|(refine EI (fun hc=>?_)<;>(try rw[hc])<;>clear hc)|clear U K)<;>conv=>whnf)
  rw[BC hke]at hs;obtain⟨σ2,h1,h2,h3⟩:=Ht hs L.length List.getElem?_concat_length;refine Gb h1 h2 ⟨_,⟨rfl,rfl⟩,?_⟩;rw[List.eraseIdx_append_of_length_le (IE _),Nat.sub_self]at h3;simpa using h3
def bP (g:FuncId) (fi ca:List V) (p:Int→Bool) (hpf:SR g fi ca p) (xs:List Int) (u:V) (hxl:xs.length≤Ac):Bc Tryz.prog 286 [u,.f (.func g) fi ca] [.own u 1 (iL xs)] fun r post=>r= .ret (.l (iL (xs.filter p)) false)∧post= [.own u 1 (iL xs)]:=by
 intro σ hs;have hM:=Mx;refine Zp kZ ?_
 conv=>whnf
 repeat'((first|apply st|(apply sq;intro K U)|(apply si;intro A B Y Z)|(apply Y;clear Z B Y A)|(apply U;clear U K)|refine lo ?_|fail)<;>conv=>whnf)
 refine CZ xs.length (fun k v=>[(5,v),(10,eI (BH k))]) (fun k v=>[.own u 1 (iL xs),.own v 1 (iL ((xs.take k).filter p))]) (fun _ _=>True) (.l [] true) rfl trivial (Fl hs 1) ?_;clear hs;rintro k v σ hk - hs;have hfl:=Oy p (xs.take k);rw[K6]at hfl;rcases BM xs hk with⟨y,hy,hlt⟩|hke
 ·have hst:(xs.take (k+1)).filter p=if p y then(xs.take k).filter p++[y]else(xs.take k).filter p:=by
   rw[AX hy,List.filter_append];cases hp:p y<;>simp[hp]
  generalize (xs.take k).filter p=zs at *
  conv=>whnf
  repeat'((first|apply st|(apply sq;intro K U)|(apply si;intro A B Y Z)|(apply Y;clear Z B Y A)|(apply U;clear U K)|refine⟨rfl,?_⟩|refine oc ?_|refine m6 ?_|refine aq fun v σ hs hsl=>?_|(refine Cv (fun hc=>?_)<;>(try rw[hc])<;>clear hc)|refine SR.use hpf ?_|(constructor<;>intro hc<;>(try rw[hc])<;>(replace hc:=bp hc))|clear U K)<;>conv=>whnf)
  ·rw[if_pos (by assumption)]at hst
   exact⟨hlt,_,rfl,trivial,by rw[hst];exact hs.take 2⟩
  ·rw[if_neg (by simp[*])]at hst
   exact⟨hlt,_,rfl,trivial,by rw[hst];exact hs.take 2⟩
 ·conv=>whnf
  repeat'((first|apply st|(apply sq;intro K U)|(apply si;intro A B Y Z)|(apply Y;clear Z B Y A)|(apply U;clear U K)|refine⟨rfl,?_⟩|(refine EI (fun hc=>?_)<;>(try rw[hc])<;>clear hc)|clear U K)<;>conv=>whnf)
  rw[BC hke]at hs;obtain⟨σ2,h1,h2,h3⟩:=Ht hs 1 rfl;exact Gb h1 h2 ⟨_,⟨rfl,rfl⟩,h3⟩
def ny:SR 289 [] [] (· != 0):=by
 intro y;refine jj kZ ?_;have hs:=Sn
 conv=>whnf
 repeat'((first|apply st|(apply sq;intro K U)|(apply si;intro A B Y Z)|(apply Y;clear Z B Y A)|(apply U;clear U K)|refine⟨rfl,?_⟩|fail)<;>conv=>whnf)
 all_goals exact AI rfl
def cD (xs:List Int) (u:V) (hxl:xs.length≤Ac):Bc Tryz.prog 285 [u] [.own u 1 (iL xs)] fun r post=>r= .ret (.l (iL (xs.filter (· != 0))) false)∧post= [.own u 1 (iL xs)]:=by
 intro σ hs;refine jm kZ ?_
 conv=>whnf
 repeat'((first|(apply sq;intro K U)|(apply si;intro A B Y Z)|(apply Y;clear Z B Y A)|(apply U;clear U K)|fail)<;>conv=>whnf)
 refine(bP 289 [] [] (· != 0) ny xs u hxl).use (rest:=[]) hs ?_;clear hs;rintro r post σ ⟨rfl,rfl⟩ hs
 conv=>whnf
 repeat'((first|apply st|(apply Y;clear Z B Y A)|(apply U;clear U K)|fail)<;>conv=>whnf)
 exact Aq hs (by simp) (.refl _) fun σ' hs'=>⟨_,⟨rfl,rfl⟩,hs'⟩
def Wj (g : List (List Int)) (f:Bool):Pure Tryz.prog 249 [.l (Ei g) f] (.b (Dk g)):=by
 refine Pure.fit (by kernel_rfl) fun hf=>?_
 have⟨g1,g2⟩:=UT hf.1;have hM:=Mx;refine kE kZ ?_;have hs:=Sn;by_cases h16:g.length≤16
 ·conv=>whnf
  repeat'((first|apply st|(apply sq;intro K U)|(apply si;intro A B Y Z)|(apply Y;clear Z B Y A)|(apply U;clear U K)|refine⟨rfl,?_⟩|(constructor<;>intro hc<;>(try rw[hc])<;>(replace hc:=bp hc)<;>(try simp(disch:=omega) only[BR,wrap64,AM]at hc)<;>try(exfalso;omega))|fail)<;>conv=>whnf)
  all_goals try(exfalso;omega)
  refine CZ g.length (fun k (_:Unit)=>[(12,eI (BH k))]) (fun _ _=>[]) (fun k _=>Dk g=Hr k (g.drop k)) () rfl (by simp[Dk,h16]) hs ?_;clear hs;rintro k - σ hk hn hs;have hck:BH k=k:=AM (by omega);rcases BM g hk with⟨l,hl,hlt⟩|hke
  ·have hll:=g2 l (Cg hl)
   rw[drop_cons hl,Hr]at hn;by_cases h3:l.length≤3
   ·rw[decide_eq_true h3,Ev]at hn
    conv=>whnf
    repeat'((first|apply st|(apply sq;intro K U)|(apply si;intro A B Y Z)|(apply Y;clear Z B Y A)|(apply U;clear U K)|refine⟨rfl,?_⟩|refine ix ?_|(refine Cv (fun hc=>?_)<;>(try rw[hc])<;>clear hc)|(constructor<;>intro hc<;>(try rw[hc])<;>(replace hc:=bp hc)<;>(try simp(disch:=omega) only[BR,wrap64,AM]at hc)<;>try(exfalso;omega))|fail)<;>conv=>whnf)
    all_goals try(exfalso;omega)
    refine CZ l.length (fun j (_:Unit)=>[(22,eI (BH j))]) (fun _ _=>[]) (fun j _=>Dk g=(LG k (l.take j) (l.drop j)&&Hr (k+1) (g.drop (k+1)))) () rfl hn hs ?_;clear hs hn;rintro j - σ hj hn hs;rcases BM l hj with⟨c,hc0,hjlt⟩|hje
    ·rw[drop_cons hc0,LG,gd]at hn
     have hw:IntKind.i64.wrap (3+BH k)=3+(k:Int):=by rw[hck,wrap64 (by omega) (by omega)]
     conv=>whnf
     repeat'((first|apply st|(apply sq;intro K U)|(apply si;intro A B Y Z)|(apply Y;clear Z B Y A)|(apply U;clear U K)|refine⟨rfl,?_⟩|refine ix ?_|refine tL ?_|(refine Cv (fun hc=>?_)<;>(try rw[hc])<;>clear hc)|refine Pure.use (Ds _ _ _) ?_|(constructor<;>intro hc<;>(try rw[hc])<;>(replace hc:=bp hc)<;>(try simp(disch:=omega) only[BR,wrap64,AM]at hc))|clear U K)<;>conv=>whnf)
     ·exact AI (by rw[hn,hc];simp)
     ·exact⟨hjlt,(),rfl,by rw[hn,hc,AX hc0];simp[*],hs⟩
     ·exact AI (by(rw[hn];have: ¬c<3+(k:Int):=by omega);simp[this])
     ·exact AI (by(rw[hn];have: ¬3≤c:=by omega);simp[this])
    ·conv=>whnf
     repeat'((first|apply st|(apply sq;intro K U)|(apply si;intro A B Y Z)|(apply Y;clear Z B Y A)|(apply U;clear U K)|refine⟨rfl,?_⟩|(refine EI (fun hc=>?_)<;>(try rw[hc])<;>clear hc)|clear U K)<;>conv=>whnf)
     exact⟨hlt,(),rfl,by rw[hn,Ap hje];rfl,hs⟩
   ·conv=>whnf
    repeat'((first|apply st|(apply sq;intro K U)|(apply si;intro A B Y Z)|(apply Y;clear Z B Y A)|(apply U;clear U K)|refine⟨rfl,?_⟩|refine ix ?_|(refine Cv (fun hc=>?_)<;>(try rw[hc])<;>clear hc)|(constructor<;>intro hc<;>(try rw[hc])<;>(replace hc:=bp hc)<;>(try simp(disch:=omega) only[BR,wrap64,AM]at hc)<;>try(exfalso;omega))|clear U K)<;>conv=>whnf)
    all_goals try(exfalso;omega)
    exact AI (by rw[hn];simp[h3])
  ·conv=>whnf
   repeat'((first|apply st|(apply sq;intro K U)|(apply si;intro A B Y Z)|(apply Y;clear Z B Y A)|(apply U;clear U K)|refine⟨rfl,?_⟩|(refine EI (fun hc=>?_)<;>(try rw[hc])<;>clear hc)|clear U K)<;>conv=>whnf)
   exact AI (by rw[hn,Ap hke];rfl)
 ·conv=>whnf
  repeat'((first|apply st|(apply sq;intro K U)|(apply si;intro A B Y Z)|(apply Y;clear Z B Y A)|(apply U;clear U K)|refine⟨rfl,?_⟩|(constructor<;>intro hc<;>(try rw[hc])<;>(replace hc:=bp hc)<;>(try simp(disch:=omega) only[BR,wrap64,AM]at hc)<;>try(exfalso;omega))|clear U K)<;>conv=>whnf)
  all_goals try(exfalso;omega)
  exact AI (by simp[Dk,h16])
def TE (g:List (List Int)) (f:Bool):Pure Tryz.prog 208 [.l (Ei g) f] (eI (if Dk g then 0 else 2)):=by
 refine kx kZ ?_;have hs:=Sn
 conv=>whnf
 repeat'((first|apply st|(apply sq;intro K U)|(apply si;intro A B Y Z)|(apply Y;clear Z B Y A)|(apply U;clear U K)|refine Pure.use (Wj _ _) ?_|(constructor<;>intro hc<;>(try rw[hc])<;>(replace hc:=bp hc))|clear U K)<;>conv=>whnf)
 all_goals exact AI (by simp[*])
def nz (n:Nat) (h:Int):C5 Tryz.prog (.f (.func 287) [] [.p n 0]) eI (fun _:Unit=>[.box n [eI h]]) (SI (· != h)) (fun _ _=>True):=by
 intro y s _ σ hs;refine Bk ?_;show BD Tryz.prog 287 ([]++[eI y]++[.p n 0]) σ _;refine jl kZ ?_
 conv=>whnf
 repeat'((first|apply st|(apply sq;intro K U)|(apply si;intro A B Y Z)|(apply Y;clear Z B Y A)|(apply U;clear U K)|refine⟨rfl,?_⟩|refine ld ?_|fail)<;>conv=>whnf)
 exact Aq hs (List.Sublist.refl _) (.refl _) fun σ' hs'=>⟨rfl,hs'⟩
def YG (ls:List (List Int)):Ez ls []=false:=rfl
def VC (ls:List (List Int)) (x:Int) (r:List Int):Ez ls (x::r)=free ls x:=rfl
def YO {α:Type} {p:α→Bool} {xs:List α} {k:Nat} {x:α} (hx:xs[k]? =some x) (h:(xs.take k).find? p=none):(xs.take (k+1)).find? p=if p x then some x else none:=by
 rw[AX hx,List.find?_append,h];simp only[List.find?_cons,List.find?_nil,Option.none_or];cases p x<;>rfl
def YN {α:Type} {p:α→Bool} {xs:List α} {k:Nat} {x:α} (h:(xs.take k).find? p=some x):xs.find? p=some x:=by
 conv=>lhs;rw[←List.take_append_drop k xs]
 rw[List.find?_append,h];rfl
def V7 (ls:List (List Int)):pick ls=(ls.find? (Ez ls)).bind List.head? :=rfl
set_option maxHeartbeats 4000000 in
def bG (ls:List (List Int)) (f:Bool) (hok:LD ls) (ht:total ls<Ac):Pure Tryz.prog 283 [.l (Ei ls) f] (.t [.l (iL (CC ls).1) false,.b (CC ls).2]):=by
 have hM:=Mx;refine jo kZ ?_;have hs:=Sn
 conv=>whnf
 repeat'((first|apply st|(apply sq;intro K U)|(apply si;intro A B Y Z)|(apply Y;clear Z B Y A)|(apply U;clear U K)|fail)<;>conv=>whnf)
 refine Gh (fun(x:List (List Int)×Bool×V×List Int)=>total x.1) (fun x=>[(0,.l (Ei x.1) x.2.1),(4,x.2.2.1)]) (fun x=>[.own x.2.2.1 1 (iL x.2.2.2)])
  (fun x=>LD x.1∧x.2.2.2.length+total x.1≤total ls∧DF (total x.1) x.1 x.2.2.2=CC ls) (ls,f,.l [] true,[]) rfl ⟨hok,by simp,rfl⟩ (Fl hs 1) ?_
 clear hs;rintro⟨ls',f',v,out⟩ σ ⟨hok',hlen,hm⟩ hs;dsimp only at hok' hlen hm hs;dsimp only;have hol:=hok'.1
 conv=>whnf
 repeat'((first|apply st|(apply sq;intro K U)|(apply si;intro A B Y Z)|(apply Y;clear Z B Y A)|(apply U;clear U K)|fail)<;>conv=>whnf)
 refine CZ ls'.length (fun k (t:Bool)=>[(5,.b t),(16,eI (BH k))]) (fun _ _=>[.own v 1 (iL out)]) (fun k t=>(ls'.take k).find? (Ez ls')=none∧t=(ls'.take k).any fun l=> !l.isEmpty) false rfl ⟨rfl,rfl⟩ hs ?_;clear hs;rintro k t σ hk ⟨hfd,hta⟩ hs;rcases BM ls' hk with⟨l,hl,hlt⟩|hke
 ·have hfs:=YO (p:=Ez ls') hl hfd
  have has:((ls'.take (k+1)).any fun l=> !l.isEmpty)=(t|| !l.isEmpty):=by rw[AX hl,List.any_append,←hta];simp
  have hb:=hok'.2 _ (Cg hl);cases l with
  | nil=>
    have hnl:([]:List Int).length=0:=rfl;rw[YG,if_neg (by decide)]at hfs
    conv=>whnf
    repeat'((first|apply st|(apply sq;intro K U)|(apply si;intro A B Y Z)|(apply Y;clear Z B Y A)|(apply U;clear U K)|refine⟨rfl,?_⟩|refine ix ?_|(refine Cv (fun hc=>?_)<;>(try rw[hc])<;>clear hc)|(constructor<;>intro hc<;>(try rw[hc])<;>(replace hc:=bp hc)<;>(try simp(disch:=omega) only[BR,wrap64,AM]at hc)<;>try(exfalso;omega))|clear U K)<;>conv=>whnf)
    exact⟨hlt,_,rfl,⟨hfs,by rw[has];simp⟩,hs⟩
  | cons x r=>
    have hx0:(x::r)[Int.toNat 0]? =some x:=rfl;have hnl:(x::r).length=r.length+1:=rfl;rw[VC]at hfs;simp only[List.isEmpty_cons,Bool.not_false,Bool.or_true]at has
    conv=>whnf
    repeat'((first|apply st|(apply sq;intro K U)|(apply si;intro A B Y Z)|(apply Y;clear Z B Y A)|(apply U;clear U K)|refine⟨rfl,?_⟩|refine ix ?_|(refine Cv (fun hc=>?_)<;>(try rw[hc])<;>clear hc)|(constructor<;>intro hc<;>(try rw[hc])<;>(replace hc:=bp hc)<;>(try simp(disch:=omega) only[BR,wrap64,AM]at hc)<;>try(exfalso;omega))|fail)<;>conv=>whnf)
    refine CZ ls'.length (fun j (_:Unit)=>[(25,eI (BH j))]) (fun _ _=>[.own v 1 (iL out)]) (fun j _=>free ls' x=(ls'.drop j).all fun m=> !(m.drop 1).contains x) () rfl rfl hs ?_;clear hs;rintro j - σ hj hfr hs;rcases BM ls' hj with⟨m,hm0,hjlt⟩|hje
    ·have hmb:=(hok'.2 _ (Cg hm0)).1
     rw[drop_cons hm0,Rs]at hfr;cases m with
     | nil=>
       have hml:([]:List Int).length=0:=rfl
       conv=>whnf
       repeat'((first|apply st|(apply sq;intro K U)|(apply si;intro A B Y Z)|(apply Y;clear Z B Y A)|(apply U;clear U K)|apply dr|refine⟨rfl,?_⟩|refine ix ?_|(refine Cv (fun hc=>?_)<;>(try rw[hc])<;>clear hc)|(constructor<;>intro hc<;>(try rw[hc])<;>(replace hc:=bp hc)<;>(try simp(disch:=omega) only[BR,wrap64,AM]at hc)<;>try(exfalso;omega))|clear U K)<;>conv=>whnf)
       exact⟨hjlt,(),rfl,by rw[hfr];rfl,hs⟩
     | cons y s=>
       have hml:(y::s).length=s.length+1:=rfl
       conv=>whnf
       repeat'((first|apply st|(apply sq;intro K U)|(apply si;intro A B Y Z)|(apply Y;clear Z B Y A)|(apply U;clear U K)|apply dr|refine⟨rfl,?_⟩|refine ix ?_|(refine Cv (fun hc=>?_)<;>(try rw[hc])<;>clear hc)|(constructor<;>intro hc<;>(try rw[hc])<;>(replace hc:=bp hc)<;>(try simp(disch:=omega) only[BR,wrap64,AM]at hc)<;>try(exfalso;omega))|fail)<;>conv=>whnf)
       refine Si 1 rfl (by omega) (fun _=>rfl) ?_
       conv=>whnf
       repeat'((first|apply st|(apply si;intro A B Y Z)|(apply Y;clear Z B Y A)|(apply U;clear U K)|apply dr|refine⟨rfl,?_⟩|refine ID ?_|refine Pure.use (Ds _ _ _) ?_|(constructor<;>intro hc<;>(try rw[hc])<;>(replace hc:=bp hc))|clear U K)<;>conv=>whnf)
       ·rw[hc]at hfr
        have hfr2:free ls' x=false:=by rw[hfr];rfl
        rw[hfr2,if_neg (by decide)]at hfs;exact⟨hlt,true,rfl,⟨hfs,by rw[has]⟩,hs⟩
       ·exact⟨hjlt,(),rfl,by rw[hfr,hc];rfl,hs⟩
    ·rw[Ap hje]at hfr
     have hgood:free ls' x=true:=hfr;rw[hgood,if_pos rfl]at hfs;have hp:pick ls'=some x:=by rw[V7,YN hfs];rfl
     have htp:=Hd hp
     conv=>whnf
     repeat'((first|apply st|(apply sq;intro K U)|(apply si;intro A B Y Z)|(apply Y;clear Z B Y A)|(apply U;clear U K)|refine⟨rfl,?_⟩|refine ID ?_|refine ld ?_|refine s1 fun σ hs=>?_|refine aq fun v σ hs hsl=>?_|(refine EI (fun hc=>?_)<;>(try rw[hc])<;>clear hc)|(intro nn hnn;generalize hg:A7 _ nn _=σ;refine al hg fun hs=>?_;clear hg)|clear U K)<;>conv=>whnf)
     have hs2:Sat σ [.own v 1 (iL (out++[x])),.box nn [eI x]]:=hs;refine CZ ls'.length (fun k u=>[(11,u),(50,eI (BH k))]) (fun k u=>[.own v 1 (iL (out++[x])),.box nn [eI x],.own u 1 (Ei ((ls'.take k).map fun l=>l.filter (· != x)))]) (fun _ _=>True) (.l [] true) rfl trivial (Fl hs2 1) ?_;clear hs hs2;rintro q u σ hq - hs;rcases BM ls' hq with⟨w,hw,hqlt⟩|hqe
     ·conv=>whnf
      repeat'((first|apply st|(apply sq;intro K U)|(apply si;intro A B Y Z)|(apply Y;clear Z B Y A)|(apply U;clear U K)|refine⟨rfl,?_⟩|refine ix ?_|(refine Cv (fun hc=>?_)<;>(try rw[hc])<;>clear hc)|fail)<;>conv=>whnf)
      refine(eJ 287 [] [.p nn 0] [.box nn [eI x]] (· != x) (nz nn x) w false).use (rest:=[_,_]) (hs.perm (.swap _ _ _)) ?_;clear hs;rintro rr post σ ⟨rfl,rfl⟩ hs
      conv=>whnf
      repeat'((first|(apply si;intro A B Y Z)|(apply Y;clear Z B Y A)|(apply U;clear U K)|refine⟨rfl,?_⟩|refine aq fun v σ hs hsl=>?_|clear U K)<;>conv=>whnf)
      refine⟨hqlt,_,rfl,trivial,?_⟩;rw[AX hw,Tu];exact hs.perm (.swap _ _ _)
     ·conv=>whnf
      repeat'((first|apply st|(apply sq;intro K U)|(apply si;intro A B Y Z)|(apply Y;clear Z B Y A)|(apply U;clear U K)|refine⟨rfl,?_⟩|(refine EI (fun hc=>?_)<;>(try rw[hc])<;>clear hc)|clear U K)<;>conv=>whnf)
      rw[BC hqe]at hs;refine hQ hs 2 rfl fun σ' hs'=>?_
      conv=>whnf
      repeat'((first|apply st|(apply Y;clear Z B Y A)|(apply U;clear U K)|clear U K)<;>conv=>whnf)
      refine⟨(ls'.map fun l=>l.filter (· != x),false,v,out++[x]),htp,rfl,⟨hok'.filter x,by simp;omega,?_⟩,hs'.take 1⟩;rw[←MH hp];exact hm
 ·rw[BC hke]at hfd hta
  have hp:pick ls'=none:=by rw[V7,hfd];rfl
  rw[OS hp]at hm
  conv=>whnf
  repeat'((first|apply st|(apply sq;intro K U)|(apply si;intro A B Y Z)|(apply Y;clear Z B Y A)|(apply U;clear U K)|refine⟨rfl,?_⟩|(refine EI (fun hc=>?_)<;>(try rw[hc])<;>clear hc)|clear U K)<;>conv=>whnf)
  refine Bu ?_;rw[←hm];refine .t (.cons (hs.QU 0 rfl) (.cons ?_ .nil));have:(!t)=ls'.all List.isEmpty:=by rw[hta];simp[List.all_eq_not_any_not]
  rw[←this];exact .refl _
end Go.Gl
namespace Go.Gl
variable {P:Program} {σ:AH}
def Sat.nD {l:List At} {a:At} (h:Sat σ (l++[a])):Sat σ (a::l):=h.perm (by
 have:=Rt (l₁:=l) (l₂:=[a])
 simpa using this)
def DN {l:List At} (h:Sat σ l) (sz:Nat):Sat σ (.own (.l [] true) sz []::l):=(Fl h sz).nD
def gB {l:List At} (h:Sat σ l) {sz:Nat} {es:List (List V)} (hs: ∀e∈es,e.length=sz):Sat σ (.own (.l es true) sz es::l):=(gz h hs).nD
def CY {l:List At} {o:O} {n:Nat} {K:Prop} {σ':AH} (e:A7 σ n o=σ') (hk:Sat σ' (.obj n o::l)→K) (hn:σ n=none:=by assumption) (h:Sat σ l:=by assumption):K:=hk (e ▸ (Y4 h hn).nD)
def Jm {α:Type}: ∀ {l:List α} {j:Nat} {a:α},l[j]? =some a→l.Perm (a::l.eraseIdx j)
 | x::r,0,a,h=>by simp at h;subst h;simp
 | x::r,j+1,a,h=>by
   simp only[mz]at h;simp only[List.eraseIdx_cons_succ];exact((Jm h).cons x).trans (.swap _ _ _)
def Sat.front {l:List At} {j:Nat} {a:At} (h:Sat σ l) (hj:l[j]? =some a):Sat σ (a::l.eraseIdx j):=h.perm (Jm hj)
def Sat.back {l:List At} {j:Nat} {a:At} (h:Sat σ (a::l.eraseIdx j)) (hj:l[j]? =some a):Sat σ l:=h.perm (Jm hj).symm
def Bc.fe {f:FuncId} {args:List V} {a:At} {Φ:R→Prop} (h:Bc P f args [a] fun r post=>Φ r∧post= [a]) {l:List At} {j:Nat} (hs:Sat σ l) (hj:l[j]? =some a) {Q:R→AH→Prop} (hk: ∀r σ',Φ r→Sat σ' l→Q r σ'):BD P f args σ Q:=by
 refine h.use (rest:=l.eraseIdx j) (hs.front hj) ?_;rintro r post σ' ⟨hr,rfl⟩ hs';exact hk r σ' hr (Sat.back hs' hj)
def EV {l:List At} {i n off:Nat} {vs:List V} {x:V} {K:AH→Prop} (hk: ∀σ',Sat σ' (l.set i (.box n (vs.set off x)))→K σ') (h:Sat σ l:=by assumption)
    (hi:l[i]? =some (.box n vs):=by first|exact Rq|exact Rp|exact Ro|exact Rn|exact Rm|exact Rl)
    (h1:Di x=true:=by first|rfl|exact Fb (by assumption) 0 rfl|exact Fb (by assumption) 1 rfl|exact Fb (by assumption) 2 rfl|exact Fb (by assumption) 3 rfl|(simp<;>fail)) (ho:off+1≤vs.length:=by exact Nat.le_of_ble_eq_true rfl):AW σ 1 (.p n off) x K:=
 HZ h i hi h1 ho hk
def DT {l:List At} {i n off sz:Nat} {vs vc:List V} {x:V} {K:AH→Prop} (hk: ∀σ',Sat σ' (l.set i (.box n (putAt vs off vc)))→K σ') (h:Sat σ l:=by assumption)
    (hi:l[i]? =some (.box n vs):=by first|exact Rq|exact Rp|exact Ro|exact Rn|exact Rm|exact Rl)
    (hc:cellsOf x=some vc:=by rfl) (hl:vc.length=sz:=by rfl) (h1:vc.all Di=true:=by first|rfl|(simp<;>fail)|(simp[*]<;>fail)) (ho:off+sz≤vs.length:=by exact Nat.le_of_ble_eq_true rfl):AW σ sz (.p n off) x K:=
 F5 h i hi hc hl h1 ho hk
def Tx {sz m n o:Nat} {ki:IntKind} {j:Int} {K:V→Prop} (h:K (.p n (o+j.toNat*sz))) (h0:0≤j:=by omega) (h1:j<m:=by omega):AU sz (some m) (.p n o) (.i ki j) K:=⟨h0,h1,h⟩
def nE {sz m:Nat} {cs:List V} {ki:IntKind} {j:Int} {K:V→Prop} (h:K (.rp (cs.drop (j.toNat*sz)))) (h0:0≤j:=by omega) (h1:j<m:=by omega):AU sz (some m) (.rp cs) (.i ki j) K:=⟨h0,h1,h⟩
def Zd {l:List At} (h:Sat σ l) (i:Nat) {v:V} {sz:Nat} {es es':List (List V)} (hi:l[i]? =some (.own v sz es)) (he: ∀σ2,E5 σ σ2 es es'): ∃σ2,Sub σ2 σ∧Fa σ σ2 v (.l es' false)∧Sat σ2 (l.eraseIdx i):=by
 rcases h.get hi with⟨rfl,_⟩|⟨n,cap,rfl,hn⟩
 ·exact⟨σ,fun _ _ h=>h,.l (fun h=>(by cases h)) (he _),h.less (List.eraseIdx_sublist _ _)⟩
 ·refine⟨del σ n,GX σ n,.arr hn (EH σ n) rfl (he _),?_⟩
  refine⟨fun b hb=>?_,h.2.sublist (List.eraseIdx_sublist _ _)⟩;refine Ew (h.1 b (List.mem_of_mem_eraseIdx hb)) fun m hm=>?_
  rw[Gm];intro e;subst e;exact Et h.2 hi b hb m rfl hm
def nP {l:List At} (h:Sat σ l) {sz:Nat} {z:List V} {n m:Nat} {K:V→AH→Prop} (hnm:n≤m) (hn:m≤1073741824) (hk: ∀v σ',Sat σ' (.own v sz (List.replicate n z)::l)→(∃id,v= .sl id n m)→K v σ') {ki kj:IntKind} :
    AN σ sz z (.i ki (n:Int)) (.i kj (m:Int)) K:=by
 refine⟨by omega,by omega,by omega,fun id hid=>?_⟩;simp only[Jz];refine hk _ _ (h.add (a:= .own (.sl id n m) sz (List.replicate n z)) (fun b hb=>Ew hb fun m hm=>?_) (fun b hb m hm hb'=>?_) (.inr ⟨id,m,by simp,by simp[A7]⟩)).nD ⟨id,rfl⟩
 ·obtain⟨o,ho⟩:=Ct hb hm
  rw[Ci];intro e;subst e;rw[hid]at ho;cases ho
 ·cases hm
  obtain⟨o,ho⟩:=Ct hb hb';rw[hid]at ho;cases ho
def Vq {σ:AH} {l:List At} {i:Nat} {v:V} {sz:Nat} {es:List (List V)} (hs:Sat σ l) (hi:l[i]? =some (.own v sz es)) (he: ∀e∈es,e.length=sz) (hm:es.length≤Ac) {K:V→AH→Prop} (hk: ∀σ',Sat σ' (l.eraseIdx i)→K (.l es true) σ'):AV σ sz v none (some (.i .i64 (es.length:Int))) (some (.i .i64 (es.length:Int))) K:=by
 rcases hs.get hi with⟨rfl,_⟩|⟨n,cap,rfl,hn⟩
 ·refine⟨he,?_⟩
  simp only[Ow];refine⟨Int.le_refl _,Int.natCast_nonneg _,Int.le_refl _,trivial,?_⟩;have:=hk σ (hs.less (List.eraseIdx_sublist _ _));simpa using this
 ·unfold AV
  simp only[Ow];refine⟨Int.le_refl _,Int.natCast_nonneg _,Int.le_refl _,trivial,trivial,trivial,?_⟩;rw[hn];refine⟨rfl,rfl,rfl,.inl (hk _ ?_)⟩;refine⟨fun b hb=>?_,hs.2.sublist (List.eraseIdx_sublist _ _)⟩;refine Ew (hs.1 b (List.mem_of_mem_eraseIdx hb)) fun m hm=>?_
  rw[Gm];intro e;subst e;exact Et hs.2 hi b hb m rfl hm
end Go.Gl
namespace Go.Gl
open Go.Proofs
attribute [local irreducible] BD Aw Ai AU AO Ah AV AW AN Ag AS AT Ay A9 Sat Ab A4 Aj W
abbrev Ord:=Int×V×List Int
def cj (e:Ord):V×V:=(eI e.1,e.2.1)
def Yp (e:Ord):At:= .own e.2.1 1 (iL e.2.2)
abbrev pL (ps:List (List Int×Bool)):List (List V):=ps.map fun p=>[.l (iL p.1) p.2]
abbrev gH (n mm:Nat) (vp vu:V) (ps:List (List Int×Bool)) (us:List Nat) (M:List Ord):List At:=
 .box n [vp,vu,.m mm]:: .own vp 1 (pL ps):: .own vu 1 (us.map fun u=>[eU u]):: .map mm (M.map cj)::M.map Yp
def B1 (M:List Ord) (c:Int):List Int:=((M.find? fun e=>c==e.1).map fun e=>e.2.2).getD []
def IF (M:List Ord) (c:Int):V:=((M.find? fun e=>c==e.1).map fun e=>e.2.1).getD (.l [] true)
def bN (M:List Ord) (c:Int):found (.l [] true) false (C9 (eI c) (M.map cj))=IF M c:=by
 induction M with
 | nil=>rfl
 | cons e r ih=>
   simp only[EA,cj,C9,IF,List.find?_cons]at *;have he:EF (eI c) (eI e.1)=(c==e.1):=rfl;rw[he];cases c==e.1
   ·exact ih
   ·rfl
def UL (M:List Ord): ∀kv∈M.map cj,Bo (.i .i64) kv.1=true:=by
 intro kv h;obtain⟨e,_,rfl⟩:=Ls.1 h;rfl
def dw {M:List Ord} {c:Int} (v:V) (l:List Int) (h: ∀e∈M,e.1≠c):ED (eI c) v (M.map cj)=(M++[(c,v,l)]).map cj:=by
 induction M with
 | nil=>rfl
 | cons e r ih=>
   simp only[EA,List.cons_append,cj,ED];have he:EF (eI c) (eI e.1)=(c==e.1):=rfl;rw[he,beq_false_of_ne (fun e'=>h e (.head _) e'.symm)];simp only[cond_false];rw[ih fun e he=>h e (.tail _ he)]
def NX (M:List Ord) (c:Int):(B1 M c= []∧IF M c= .l [] true)∨ ∃j:Nat,(M.map Yp)[j]? =some (At.own (IF M c) 1 (iL (B1 M c))):=by
 unfold B1 IF;cases h:M.find? fun e=>c==e.1 with
 | none=>exact .inl ⟨rfl,rfl⟩
 | some e=>
   refine .inr ?_;obtain⟨j,hj⟩:=List.getElem?_of_mem (List.mem_of_find?_eq_some h);refine⟨j,?_⟩;rw[PF,hj];rfl
def NY {M:List Ord} {c:Int} {σ:AH} {fx:List At} (hs:Sat σ (fx++M.map Yp)) (hl:(B1 M c).length≤Ac) {K:V→Prop} (hk:K (.i .i64 (B1 M c).length)):A4 (IF M c) K:=by
 rcases NX M c with⟨h1,h2⟩|⟨j,hj⟩
 ·rw[h2]
  rw[h1]at hk;exact Ey hk
 ·have hj':(fx++M.map Yp)[fx.length+j]? =some (At.own (IF M c) 1 (iL (B1 M c))):=by
   rw[List.getElem?_append_right (by omega),Nat.add_sub_cancel_left,hj]
  exact nQ hs _ hj' (by simpa using hl) (by simpa using hk)
def tR {σ:AH} {l:List At} {i mm:Nat} {M:List Ord} {c:Int} {K:V→Prop} (hk:K (IF M c)) (h:Sat σ l:=by assumption)
    (hi:l[i]? =some (.map mm (M.map cj)):=by first|exact Rq|exact Rp|exact Ro|exact Rn|exact Rm|exact Rl):AS σ (.i .i64) (.l [] true) false (.m mm) (eI c) K:=
 Io h i hi rfl (UL M) (by rw[bN];exact hk)
def pt {M:List Ord} {c:Int} {σ:AH} {fx:List At} (hs:Sat σ (fx++M.map Yp)) (hl:(B1 M c).length≤Ac) (hne:B1 M c≠[]) {k kp:V→AH→Prop} (hk: ∀σ',Sat σ' (fx++M.map Yp)→k (.l (iL ((B1 M c).filter (· != 0))) false) σ'):BD Tryz.prog 285 [IF M c] σ (qk k kp):=by
 rcases NX M c with⟨h1,h2⟩|⟨j,hj⟩
 ·exact absurd h1 hne
 ·have hj':(fx++M.map Yp)[fx.length+j]? =some (At.own (IF M c) 1 (iL (B1 M c))):=by
   rw[List.getElem?_append_right (by omega),Nat.add_sub_cancel_left,hj]
  refine(cD (B1 M c) (IF M c) hl).fe hs hj' ?_;rintro r σ' rfl hs';exact hk σ' hs'
def N5 {σ σ2:AH}: ∀ {a a' b b':List (List V)},E5 σ σ2 a a'→E5 σ σ2 b b'→E5 σ σ2 (a++b) (a'++b')
 | [],[],_,_,.nil,h=>h
 | _::_,_::_,_,_,.cons h1 h2,h=> .cons h1 (N5 h2 h)
def bI (n mm:Nat) (vp vu:V) (ps:List (List Int×Bool)) (us:List Nat) (M:List Ord) (c:Int) (l:List Int) (b:Bool) (hc0:0≤c) (hl:ps[c.toNat]? =some (l,b)) (hll:l.length≤3) (hol: ∀c,(B1 M c).length≤Ac) :
    Bc Tryz.prog 282 [.p n 0,eI c] (gH n mm vp vu ps us M) fun r post=>r= .ret (if l.any fun p=>(B1 M p).isEmpty then .t [.l [] true,.b false]else .t [.l (Ei (l.map (fun p=>(B1 M p).filter (· != 0))++[l])) false,.b true])∧post=gH n mm vp vu ps us M:=by
 intro σ hs;have hM:=Mx;have hci:c<ps.length:=by have:=(H4.1 hl).1;omega
 refine jq kZ ?_
 conv=>whnf
 repeat'((first|apply st|(apply sq;intro K U)|(apply si;intro A B Y Z)|(apply Y;clear Z B Y A)|(apply U;clear U K)|refine ld ?_|refine oi ?_|refine m6 ?_|fail)<;>conv=>whnf)
 refine CZ l.length (fun k v=>[(6,v),(17,eI (BH k))]) (fun k v=> .own v 1 (Ei ((l.take k).map fun p=>(B1 M p).filter (· != 0)))::gH n mm vp vu ps us M) (fun k _=>((l.take k).any fun p=>(B1 M p).isEmpty)=false) (.l [] true) rfl rfl (DN hs 1) ?_;clear hs;rintro k v σ hk hne hs;rcases BM l hk with⟨p,hp,hlt⟩|hke
 ·have han:((l.take (k+1)).any fun p=>(B1 M p).isEmpty)=(B1 M p).isEmpty:=by rw[AX hp,List.any_append,hne];simp
  have hap:(l.take k).length≤3:=by rw[K6];omega
  conv=>whnf
  repeat'((first|apply st|(apply sq;intro K U)|(apply si;intro A B Y Z)|(apply Y;clear Z B Y A)|(apply U;clear U K)|refine⟨rfl,?_⟩|refine ix ?_|refine ld ?_|(refine Cv (fun hc=>?_)<;>(try rw[hc])<;>clear hc)|refine tR ?_|refine NY (fx:=_::_::_::_::_:: []) hs (hol _) ?_|(constructor<;>intro hc<;>(try rw[hc])<;>(replace hc:=bp hc))|clear U K)<;>conv=>whnf)
  ·have h0:(B1 M p).isEmpty=true:=by rw[List.isEmpty_iff_length_eq_zero];omega
   have hany:(l.any fun p=>(B1 M p).isEmpty)=true:=JA.2 ⟨p,Cg hp,h0⟩;refine Aq (l':=gH n mm vp vu ps us M) hs (JR _ _) (.refl _) fun σ' hs'=>⟨_,⟨?_,rfl⟩,hs'⟩
   rw[if_pos hany]
  ·have h0:(B1 M p).isEmpty=false:=by
    cases h:(B1 M p).isEmpty
    ·rfl
    ·rw[List.isEmpty_iff_length_eq_zero]at h;omega
   refine pt (fx:=_::_::_::_::_:: []) hs (hol _) (fun e=>by rw[e]at h0;cases h0) fun σ hs=>?_
   conv=>whnf
   repeat'((first|(apply si;intro A B Y Z)|(apply Y;clear Z B Y A)|(apply U;clear U K)|refine⟨rfl,?_⟩|refine aq fun v σ hs hsl=>?_|clear U K)<;>conv=>whnf)
   refine⟨hlt,_,rfl,by rw[han];exact h0,?_⟩;rw[AX hp,Tu];exact hs
 ·rw[BC hke]at hne hs
  conv=>whnf
  repeat'((first|apply st|(apply sq;intro K U)|(apply si;intro A B Y Z)|(apply Y;clear Z B Y A)|(apply U;clear U K)|refine⟨rfl,?_⟩|refine ld ?_|refine oi ?_|refine m6 ?_|(refine EI (fun hc=>?_)<;>(try rw[hc])<;>clear hc)|clear U K)<;>conv=>whnf)
  refine hAppend hs 0 rfl (by simp;omega) (fun e he=>by simp at he;subst he;rfl) (fun e he v hv=>by simp at he;subst he;simp at hv;subst hv;rfl) fun v σ hs=>?_
  conv=>whnf
  repeat'((first|apply st|(apply Y;clear Z B Y A)|(apply U;clear U K)|fail)<;>conv=>whnf)
  obtain⟨σ2,h1,h2,h3⟩:=Zd (es':=Ei (l.map (fun p=>(B1 M p).filter (· != 0))++[l])) hs 0 rfl fun σ2=>by
   have e:Ei (l.map (fun p=>(B1 M p).filter (· != 0))++[l])=Ei (l.map fun p=>(B1 M p).filter (· != 0))++[[.l (iL l) false]]:=by simp only[Ei,Tu,EA,List.map_nil]
   rw[e];exact N5 (HN _) (.cons (.cons L3 .nil) .nil)
  refine Gb h1 (.t (.cons h2 (.cons (.refl _) .nil))) ⟨_,⟨?_,rfl⟩,h3⟩;rw[hne,if_neg (by decide)]
def Sat.te {σ:AH} {l:List At} {a:At} (h:Sat σ (a::l)):Sat σ (l++[a]):=h.perm (by
 have:=Rt (l₁:=[a]) (l₂:=l)
 simpa using this)
def C8 (M:List Ord) (l:List Int):List (List Int):=l.map (fun p=>(B1 M p).filter (· != 0))++[l]
def Gg (M:List Ord) (l:List Int) (c:Int):List Int:=
 if c=0 then [0]else if l.any (fun p=>(B1 M p).isEmpty)then []else if(CC (C8 M l)).2 then [c]++(CC (C8 M l)).1++[0]else []
def Wf (n mm:Nat) (vp vu:V) (ps:List (List Int×Bool)) (us:List Nat) (M:List Ord) {c:Int} {v:V} {l:List Int} (hk: ∀e∈M,e.1≠c) {σ:AH}
    (hs:Sat σ (.own v 1 (iL l):: .box n [vp,vu,.m mm]:: .own vp 1 (pL ps):: .own vu 1 (us.map fun u=>[eU u]):: .map mm (ED (eI c) v (M.map cj))::M.map Yp)):Sat σ (gH n mm vp vu ps us (M++[(c,v,l)])):=by
 rw[dw v l hk]at hs;have:=hs.te;unfold gH;rw[Tu (f:=Yp)];exact this
def au (n mm:Nat) (vp vu:V) (ps:List (List Int×Bool)) (us:List Nat) (M:List Ord) (c:Int) (l:List Int) (b:Bool) (hc0:0≤c) (hl:ps[c.toNat]? =some (l,b)) (hll:l.length≤3) (hol: ∀c,(B1 M c).length≤Ac) (hk: ∀e∈M,e.1≠c)
    (hok:LD (C8 M l)) (ht:total (C8 M l)<1000000000) :
    Bc Tryz.prog 271 [.p n 0,eI c] (gH n mm vp vu ps us M) fun r post=>r= .ret (.t [])∧ ∃M',post=gH n mm vp vu ps us M'∧((M'=M∧Gg M l c= [])∨ ∃v,M'=M++[(c,v,Gg M l c)]∧Gg M l c≠[]):=by
 intro σ hs;have hM:=Mx;refine jz kZ ?_;by_cases hc:c=0
 ·subst hc
  conv=>whnf
  repeat'((first|apply st|(apply sq;intro K U)|(apply si;intro A B Y Z)|(apply Y;clear Z B Y A)|(apply U;clear U K)|refine⟨rfl,?_⟩|refine ld ?_|(constructor<;>intro hc<;>(try rw[hc])<;>(replace hc:=bp hc)<;>(try simp(disch:=omega) only[BR,wrap64,AM]at hc)<;>try(exfalso;omega))|fail)<;>conv=>whnf)
  refine Ha hs 3 rfl rfl (UL M) fun σ hs=>?_
  conv=>whnf
  repeat'((first|apply st|(apply Y;clear Z B Y A)|(apply U;clear U K)|clear U K)<;>conv=>whnf)
  refine Aq (l':=gH n mm vp vu ps us (M++[(0,.l [[eI 0]] true,[0])])) ?_ (List.Sublist.refl _) (.refl _) fun σ' hs'=>⟨_,⟨rfl,_,rfl,.inr ⟨.l [[eI 0]] true,?_,?_⟩⟩,hs'⟩
  ·refine Wf n mm vp vu ps us M hk ?_
   exact gB hs (fun e he=>by simp at he;subst he;rfl)
  ·rw[Gg,if_pos rfl]
  ·rw[Gg,if_pos rfl];exact fun e=>by cases e
 ·have hoc:Gg M l c=if l.any (fun p=>(B1 M p).isEmpty)then []else if(CC (C8 M l)).2 then [c]++(CC (C8 M l)).1++[0]else []:=by rw[Gg,if_neg hc]
  have hli:=bI n mm vp vu ps us M c l b hc0 hl hll hol;have hmg:=bG (C8 M l) false hok (by omega);have hml:=Hi (total (C8 M l)) (C8 M l) [];have hml2:(CC (C8 M l)).1.length≤total (C8 M l):=by simpa[CC]using hml
  cases hany:l.any fun p=>(B1 M p).isEmpty
  ·rw[hany,if_neg (by decide)]at hoc
   simp only[hany,Lu,if_false]at hli;have hdn: ∀ {σ:AH} {M':List Ord},Sat σ (gH n mm vp vu ps us M')→((M'=M∧Gg M l c= [])∨ ∃v,M'=M++[(c,v,Gg M l c)]∧Gg M l c≠[])→Aw σ (.t []) fun r σ'=> ∃post,(r= .ret (.t [])∧ ∃M',post=gH n mm vp vu ps us M'∧((M'=M∧Gg M l c= [])∨ ∃v,M'=M++[(c,v,Gg M l c)]∧Gg M l c≠[]))∧Sat σ' post:=fun hs h=>Aq hs (List.Sublist.refl _) (.refl _) fun σ' hs'=>⟨_,⟨rfl,_,rfl,h⟩,hs'⟩
   conv=>whnf
   repeat'((first|apply st|(apply sq;intro K U)|(apply si;intro A B Y Z)|(apply Y;clear Z B Y A)|(apply U;clear U K)|refine⟨rfl,?_⟩|(constructor<;>intro hc<;>(try rw[hc])<;>(replace hc:=bp hc)<;>try(exfalso;omega))|fail)<;>conv=>whnf)
   refine hli.use (rest:=[]) (by simpa using hs) ?_;clear hs;rintro r post σ ⟨rfl,rfl⟩ hs;rw[H3]at hs;have hml3:(C8 M l)=l.map (fun p=>(B1 M p).filter (· != 0))++[l]:=rfl;rw[←hml3];generalize C8 M l=ll at *;cases hb:(CC ll).2<;>rw[hb]at hmg hoc
   ·conv=>whnf
    repeat'((first|apply st|(apply sq;intro K U)|(apply si;intro A B Y Z)|(apply Y;clear Z B Y A)|(apply U;clear U K)|refine EM ?_|refine Pure.use (by assumption) ?_|fail)<;>conv=>whnf)
    exact hdn hs (.inl ⟨rfl,by rw[hoc];rfl⟩)
   ·rw[if_pos rfl]at hoc
    conv=>whnf
    repeat'((first|apply st|(apply sq;intro K U)|(apply si;intro A B Y Z)|(apply Y;clear Z B Y A)|(apply U;clear U K)|apply dr|refine ld ?_|refine EM ?_|refine Pure.use (by assumption) ?_|fail)<;>conv=>whnf)
    replace hs:=gB hs (sz:=1) (es:=[[eI c]]) (fun e he=>by simp at he;subst he;rfl);refine NF hs 0 (xs:=[c]) (ys:=(CC ll).1) rfl (by simp;omega) Cs fun v σ hs=>?_
    conv=>whnf
    repeat'((first|apply dr|refine rk ?_ ?_|exact fun s e=>by cases e;rfl|refine ld ?_|refine aq fun v σ hs hsl=>?_|fail)<;>conv=>whnf)
    refine Ha hs 4 rfl rfl (UL M) fun σ hs=>?_
    conv=>whnf
    repeat'((first|(apply Y;clear Z B Y A)|apply dr|fail)<;>conv=>whnf)
    refine hdn (Wf n mm vp vu ps us M hk (l:=Gg M l c) ?_) (.inr ⟨v,rfl,by rw[hoc];simp⟩);rw[hoc];exact hs
  ·rw[hany,if_pos rfl]at hoc
   simp only[hany,if_true]at hli
   conv=>whnf
   repeat'((first|apply st|(apply sq;intro K U)|(apply si;intro A B Y Z)|(apply Y;clear Z B Y A)|(apply U;clear U K)|refine⟨rfl,?_⟩|(constructor<;>intro hc<;>(try rw[hc])<;>(replace hc:=bp hc)<;>try(exfalso;omega))|fail)<;>conv=>whnf)
   refine hli.use (rest:=[]) (by simpa using hs) ?_;clear hs;rintro r post σ ⟨rfl,rfl⟩ hs;rw[H3]at hs
   conv=>whnf
   repeat'((first|apply st|(apply sq;intro K U)|(apply si;intro A B Y Z)|(apply Y;clear Z B Y A)|(apply U;clear U K)|refine FI ?_|clear U K)<;>conv=>whnf)
   exact Aq hs (List.Sublist.refl _) (.refl _) fun σ' hs'=>⟨_,⟨rfl,_,rfl,.inl ⟨rfl,hoc⟩⟩,hs'⟩
end Go.Gl
namespace Go.Gl
def Xo {M:List Ord} {k:Int} {v:V} {o:List Int} (h: ∀e∈M,e.1<k) (d:Int):B1 (M++[(k,v,o)]) d=if d=k then o else B1 M d:=by
 unfold B1;rw[List.find?_append];split
 ·rename_i e
  have:M.find? (fun e=>d==e.1)=none:=by
   rw[List.find?_eq_none];intro x hx;have:=h x hx;simp;omega
  rw[this];simp[e]
 ·rename_i e
  cases hf:M.find? fun e=>d==e.1 with
  | some x=>simp
  | none=>simp[List.find?_cons,e]
structure H0 (g:List (List Int)) (k:Nat) (M:List Ord):Prop where
 keys: ∀e∈M,0≤e.1∧e.1<(k:Int)
 Y0: ∀d:Int,0≤d→d<k→B1 M d=(Bz g).getD d.toNat []
def Su {g:List (List Int)} {k:Nat} {M:List Ord} (h:H0 g k M) {d:Int} (hd:d<0∨(k:Int)≤d):B1 M d= []:=by
 unfold B1
 have:M.find? (fun e=>d==e.1)=none:=by
  rw[List.find?_eq_none];intro x hx;have:=h.keys x hx;simp;omega
 rw[this];rfl
def Ka {g:List (List Int)} (hg:Hu g) {k:Nat} {M:List Ord} (h:H0 g k M) (d:Int):(B1 M d).length≤71744535∧ ∀x∈B1 M d,(0:Int)≤x:=by
 by_cases hd:d<0∨(k:Int)≤d
 ·rw[Su h hd]
  exact⟨by simp,fun x hx=>by cases hx⟩
 ·rw[h.Y0 d (by omega) (by omega)]
  have hb:=Hn hg (2+g.length);have hl:=Ww (k:=2+g.length) (by have:=hg.1;omega);unfold Bz;exact⟨S7 (fun o ho=>Nat.le_trans (hb o ho).1 hl) _,Nq (fun o ho=>(hb o ho).2) _⟩
def Xw {g:List (List Int)} (hg:Hu g) {k:Nat} {M:List Ord} (h:H0 g k M) {l:List Int} (hl:l.length≤3) (h0: ∀x∈l,(0:Int)≤x):LD (C8 M l)∧total (C8 M l)<1000000000:=by
 have hM:Ac=17592186044416:=rfl;have hf: ∀p,((B1 M p).filter (· != 0)).length≤71744535:=fun p=>Nat.le_trans (Oy _ _) (Ka hg h p).1
 have ht: ∀l:List Int,total (l.map fun p=>(B1 M p).filter (· != 0))≤l.length*71744535:=by
  intro l
  induction l with
  | nil=>simp[total]
  | cons p r ih=>
    simp only[total,EA,List.sum_cons,Lt]at *;have:=hf p;rw[Nat.add_mul];omega
 refine⟨⟨by simp[C8];omega,fun m hm=>?_⟩,?_⟩
 ·rcases FX.1 hm with hm|hm
  ·obtain⟨p,_,rfl⟩:=Ls.1 hm
   refine⟨by have:=hf p;omega,fun x hx=>(Ka hg h p).2 x (K9.1 hx).1⟩
  ·rw[K8.1 hm]
   exact⟨by omega,h0⟩
 ·have h1:=ht l
  have h2:total (C8 M l)=total (l.map fun p=>(B1 M p).filter (· != 0))+l.length:=by simp[C8,total]
  have h3:=Ru 71744535 hl;omega
def df {g:List (List Int)} {k:Nat} {M:List Ord} (h:H0 g (k+1) M) {l:List Int} (hl:l=Ax g ((k:Int)+1)) (hp: ∀p∈l,(0:Int)≤p∧p<(k:Int)+1) (hk:k+1<3+g.length) :
    Gg M l ((k:Int)+1)=Dy g (Bd g k) ((k:Int)+1):=by
 have ho: ∀p∈l,B1 M p=(Bd g k).getD p.toNat []:=fun p hpl=>by
  obtain⟨h0,h1⟩:=hp p hpl;rw[h.Y0 p h0 (by omega)];unfold Bz;rw[DS,DS,Es (k:=2+g.length) (j:=p.toNat) (by omega),Es (k:=k) (j:=p.toNat) (by omega)]
 have e1:(l.any fun p=>(B1 M p).isEmpty)=(l.any fun p=>((Bd g k).getD p.toNat []).isEmpty):=by
  rw[K5,JA,JA];constructor
  ·rintro⟨p,h1,h2⟩;exact⟨p,h1,by rw[←ho p h1];exact h2⟩
  ·rintro⟨p,h1,h2⟩;exact⟨p,h1,by rw[ho p h1];exact h2⟩
 have e2:C8 M l=l.map (fun p=>((Bd g k).getD p.toNat []).filter (· != 0))++[l]:=by
  unfold C8;congr 1;exact List.map_congr_left fun p hpl=>by rw[ho p hpl]
 unfold Gg Dy EK;rw[if_neg (by omega),e1,e2,←hl];split<;>rfl
def H0.nil {g:List (List Int)}:H0 g 0 []:=⟨fun e h=>(by cases h),fun d h0 h1=>by omega⟩
def H0.step {g:List (List Int)} {k:Nat} {M M':List Ord} (h:H0 g k M) {l:List Int} (hl:l=Ax g (k:Int)) (hp: ∀p∈l,(0:Int)≤p∧p<(k:Int)) (hk:k<3+g.length)
    (hM:(M'=M∧Gg M l k= [])∨ ∃v,M'=M++[((k:Int),v,Gg M l k)]∧Gg M l k≠[]):H0 g (k+1) M':=by
 have hc:Gg M l k=(Bz g).getD k []:=by
  cases k with
  | zero=>
    unfold Gg Bz;rw[if_pos (by simp),DS,Es (j:=0) (by omega)];rfl
  | succ k=>
    have:=df h (by simpa using hl) (fun p hpl=>by have:=hp p hpl;simpa using this) hk;have e:((k+1:Nat):Int)=(k:Int)+1:=by omega
    rw[e,this];unfold Bz;rw[DS,Es (k:=2+g.length) (j:=k+1) (by omega),Bd,List.getElem?_append_right (by rw[Cd];omega),Cd,Nat.sub_self];rfl
 rcases hM with⟨rfl,he⟩|⟨v,rfl,_⟩
 ·refine⟨fun e he=>by have:=h.keys e he;omega,fun d h0 h1=>?_⟩
  by_cases hd:d=k
  ·subst hd
   rw[Su h (by omega)];rw[Jz,←hc,he]
  ·exact h.Y0 d h0 (by omega)
 ·refine⟨fun e he=>?_,fun d h0 h1=>?_⟩
  ·rcases FX.1 he with he|he
   ·have:=h.keys e he;omega
   ·rw[K8.1 he]
    exact⟨by simp,by simp;omega⟩
  ·rw[Xo (fun e he=>(h.keys e he).2)]
   split
   ·rename_i hd
    rw[hd,Jz];exact hc
   ·exact h.Y0 d h0 (by omega)
end Go.Gl
