import Derived.Test.YtnidfcmdimehdaaGreatV14
import Derived.Test.YtnidfcmdimehdaaGreatV15
import Derived.Test.YtnidfcmdimehdaaGreatV18
import Derived.Test.YtnidfcmdimehdaaGreatV20
import Derived.Test.YtnidfcmdimehdaaGreatV23
import Derived.Test.YtnidfcmdimehdaaGreatV28
import Derived.Test.YtnidfcmdimehdaaGreatV29
import Derived.Test.YtnidfcmdimehdaaGreatV30
set_option linter.all false
set_option linter.defProp false
set_option maxHeartbeats 8000000
noncomputable section
namespace Go.Gl
open Go.Proofs
def R8 (w:AG):F3->Prop
 | .int n=> -1000000000<=n/\n<=1000000000
 | .HY=>True
 | .obj C kid=>(∃c:Nat,3<=c/\c<3+w.parents.length/\ ∀b,C b=GA w.parents c b)/\ ∀s,R8 w (kid s)
def Ta (w:AG) (t:F3) (c:Nat):Prop:=match t with
 | .int _=>c=1
 | .HY=>c=2
 | .obj C _=>3<=c/\c<3+w.parents.length/\ ∀b,C b=GA w.parents c b
def gp {w:AG} (hw:He w): ∀t:F3,R8 w t->Ex w t
 | .int _,h=>h
 | .HY,_=>trivial
 | .obj C kid,⟨⟨c,h1,h2,h3⟩,h4⟩=>⟨fun d _ hd q hq=>by
  rw[h3]at hd ⊢;refine IB hw.ord _ d _ hd ?_;rw[D0 hw.ord,EP,Gx]
  exact .inr ⟨q,hq,ET hw.ord _⟩,fun s=>gp hw (kid s) (h4 s)⟩
def YH {w:AG}: ∀t:F3,R8 w t-> ∃c,Ta w t c/\1<=c/\c<3+w.parents.length
 | .int _,_=>⟨1,rfl,by omega,by omega⟩
 | .HY,_=>⟨2,rfl,by omega,by omega⟩
 | .obj C kid,⟨⟨c,h1,h2,h3⟩,_⟩=>⟨c,⟨h1,h2,h3⟩,by omega,h2⟩
def VW (w:AG) (kf:Int->List Int->Kn) (a:Int) (p:List Int) (can:Int->Bool) (c:Nat):Bool:=
 if c=1 then Fw kf a p else if c=2 then DT kf a p else Ru w kf a p ((BX w.parents).getD c 0) can
def Ry (w:AG) (kf:Int->List Int->Kn) (a:Int):Nat->(Nat->Bool)->List Int->Bool
 | 0,fit,p=>(List.range (3+w.parents.length)).any fun c=>decide (1<=c)&&(fit c&&VW w kf a p (fun _=>false) c)
 | d+1,fit,p=>(List.range (3+w.parents.length)).any fun c=>decide (1<=c)&&(fit c&&VW w kf a p (fun s=>Ry w kf a d (fun _=>true) (p++[s])) c)
def W0 {w : AG} (hw:He w) {ls:List Fact} (hl: ∀l∈ls,Df w l) {a:Int} {p:List Int} {can:Int->Bool} (hcan: ∀s∈(kg ls a p).AF,(can s=true↔ ∃t,R8 w t/\TT w ls a (p++[s]) t)) {c:Nat} (h1:1<=c) (h2:c<3+w.parents.length) :
    VW w (kg ls) a p can c=true↔ ∃t,Ta w t c/\R8 w t/\TT w ls a p t:=by
 rw[VW];split
 .rename_i e
  subst e;rw[aT hw hl];constructor
  .rintro⟨m,k1,k2⟩
   exact⟨.int m,rfl,k1,k2⟩
  .rintro⟨t,k0,k1,k2⟩
   cases t with
   | int m=>exact⟨m,k1,k2⟩
   | HY=>cases k0
   | obj C kid=>exact absurd k0.1 (by omega)
 .split
  .rename_i e
   subst e;rw[Wc hw hl];constructor
   .intro k
    exact⟨.HY,rfl,trivial,k⟩
   .rintro⟨t,k0,k1,k2⟩
    cases t with
    | int m=>cases k0
    | HY=>exact k2
    | obj C kid=>exact absurd k0.1 (by omega)
  .rename_i e1 e2
   have hb:=fun b=>V9 hw.ord (b:=b) h2
   have h3:3<=c:=by omega
   have u0:((BX w.parents).getD c 0).testBit 0=true:=by rw[hb];rfl
   have hno: ∀b,b=1\/b=2->((BX w.parents).getD c 0).testBit b=false:=fun b hbb=>by
    rw[hb,<-Bool.not_eq_true,EP,C1];rintro(h|h)
    .omega
    .have:=LH hw.ord c b h3 h
     omega
   rw[QO hw hl (OK:=R8 w) trivial u0 (hno 1 (.inl rfl)) (hno 2 (.inr rfl)) hcan]
   have hagree: ∀b,3<=b->((BX w.parents).getD c 0).testBit b=GA w.parents c b:=fun b hb3=>by
    rw[hb,beq_eq_false_iff_ne.2 (show b≠0 by omega),Bool.false_or]
   constructor
   .rintro⟨kid,k1,k2⟩
    exact⟨.obj (fun b=>GA w.parents c b) kid,⟨h3,h2,fun _=>rfl⟩,⟨⟨c,h3,h2,fun _=>rfl⟩,k1⟩,Pf hw hl hagree k2⟩
   .rintro⟨t,k0,k1,k2⟩
    cases t with
    | int m=>exact absurd k0 (by simp only[Ta];omega)
    | HY=>exact absurd k0 (by simp only[Ta];omega)
    | obj C kid=>
      exact⟨kid,k1.2,Pf hw hl (fun b hb3=>by rw[hagree b hb3,k0.2.2]) k2⟩
def Mw {w:AG} (hw:He w) {ls:List Fact} (hl: ∀l∈ls,Df w l) (a:Int): ∀(d:Nat) (fit:Nat->Bool) (p:List Int),p.length+d=2->(Ry w (kg ls) a d fit p=true↔ ∃t c,Ta w t c/\fit c=true/\R8 w t/\TT w ls a p t):=by
 have key: ∀(fit:Nat->Bool) (p:List Int) (can:Int->Bool),(∀s∈(kg ls a p).AF,(can s=true↔ ∃t,R8 w t/\TT w ls a (p++[s]) t))->(((List.range (3+w.parents.length)).any fun c=>decide (1<=c)&&(fit c&&VW w (kg ls) a p can c))=true↔ ∃t c,Ta w t c/\fit c=true/\R8 w t/\TT w ls a p t):=fun fit p can hcan=>by
  rw[Gx];constructor
  .rintro⟨c,h1,h2⟩
   rw[A4,A4,Cp]at h2;obtain⟨t,k0,k1,k2⟩:=(W0 hw hl hcan h2.1 (List.mem_range.1 h1)).1 h2.2.2;exact⟨t,c,k0,h2.2.1,k1,k2⟩
  .rintro⟨t,c,k0,k1,k2,k3⟩
   have hc:1<=c/\c<3+w.parents.length:=by
    cases t with
    | int m=>have k0:c=1:=k0;omega
    | HY=>have k0:c=2:=k0;omega
    | obj C kid=>have:=k0.1;have:=k0.2.1;omega
   refine⟨c,List.mem_range.2 hc.2,?_⟩;rw[decide_eq_true hc.1,k1,(W0 hw hl hcan hc.1 hc.2).2 ⟨t,k0,k2,k3⟩];rfl
 intro d
 induction d with
 | zero=>
   intro fit p hp;rw[Ry];refine key fit p _ fun s hs=>?_
   obtain⟨l,h1,h2,q,hq⟩:=(Jp hl).1 hs;have:=(hl l h1).short;rw[hq]at this;simp at this;omega
 | succ d ih=>
   intro fit p hp;rw[Ry];refine key fit p _ fun s _=>?_
   rw[ih (fun _=>true) (p++[s]) (by simp;omega)];constructor
   .rintro⟨t,c,_,_,k1,k2⟩
    exact⟨t,k1,k2⟩
   .rintro⟨t,k1,k2⟩
    obtain⟨c,k3,_⟩:=YH t k1;exact⟨t,c,k3,rfl,k1,k2⟩
def JK (cs:List Int) (a:Int) (c:Nat):Bool:=decide ((cs.length:Int)<=a)||cs.getD a.toNat 0==(c:Int)
def bn (w:AG) (cs:List Int) (ls:List Fact):Bool:=(Bi 3).all fun a=>Ry w (kg ls) a 2 (JK cs a) []
def mM (w:AG) (ls:List Fact):Bool:=(Bi 3).all fun a=>Rx w (kg ls) a 2 []
def rn (w:AG) (cs:List Int) (M:Int->F3):Prop:= ∀a,R8 w (M a)/\(0<=a->a<3-> ∃c,Ta w (M a) c/\JK cs a c=true)
def rm (w:AG) (M:Int->F3):Prop:= ∀a,Ex w (M a)
def WH {w:AG} (hw:He w) {cs:List Int} {ls:List Fact} (hl: ∀l∈ls,Df w l):bn w cs ls=true↔ ∃M:Int->F3,rn w cs M/\ ∀l∈ls,Fh w M l:=by
 rw[bn,Dj];constructor
 .intro h
  have hk: ∀a:Int,∃t,R8 w t/\(0<=a/\a<3->TT w ls a [] t/\ ∃c,Ta w t c/\JK cs a c=true):=fun a=>by
   rcases Classical.em (0<=a/\a<3)with e|e
   .obtain⟨t,c,k0,k1,k2,k3⟩:=(Mw hw hl a 2 _ [] rfl).1 (h a (C8.2 e))
    exact⟨t,k2,fun _=>⟨k3,c,k0,k1⟩⟩
   .exact⟨.HY,trivial,fun k=>absurd k e⟩
  exact⟨fun a=>Classical.choose (hk a),fun a=>⟨(Classical.choose_spec (hk a)).1,fun h0 h1=>((Classical.choose_spec (hk a)).2 ⟨h0,h1⟩).2⟩,fun l k=>((Classical.choose_spec (hk (Ah l).1.arg)).2 (hl l k).arg).1 l k rfl _ rfl⟩
 .rintro⟨M,h1,h2⟩ a ha
  have ha:=C8.1 ha;obtain⟨c,k0,k1⟩:=(h1 a).2 ha.1 (by omega);refine(Mw hw hl a 2 _ [] rfl).2 ⟨M a,c,k0,k1,(h1 a).1,fun l k1 k2 q hq=>?_⟩;have:=h2 l k1;rw[Fh,k2]at this;rw[List.nil_append]at hq;rw[<-hq];exact this
def jb {w:AG} (hw:He w) {ls:List Fact} (hl: ∀l∈ls,Df w l):mM w ls=true↔ ∃M:Int->F3,rm w M/\ ∀l∈ls,Fh w M l:=by
 show _↔ ∃M:Int->F3,(∀a,Ex w (M a))/\_;rw[mM,Dj,<-MZ hw hl,EG,Dj];constructor
 .intro h a ha
  exact(Jt hw hl a 2 [] rfl).2 ((W6 hw hl a 2 [] rfl).1 (h a ha))
 .intro h a ha
  exact(W6 hw hl a 2 [] rfl).2 ((Jt hw hl a 2 [] rfl).1 (h a ha))
def stepOf (w:AG) (c:Int) (x:Fact×Bool):Bool:=(x.1.op==2&&Na w.parents c x.1.cls)==x.2
def xd (w:AG) (ls:List Fact) (a:Int) (p:List Int) (can:Int->Bool) (c:Int):Bool:=
 (ls.filter (Kp a p)).all (fun l=> !stepOf w c (Ah l))&&(Cr w.owner.length ls a p).all fun s=>if hasB w c s then can s else E2 ls a (p++[s])
def cC (w:AG) (ls:List Fact) (a:Int):Nat->List Int->Bool
 | 0,p=>((O5 ls a p).isSome&&G0 w.owner.length ls a p)||(JZ w.owner.length ls a p||(Bi w.parents.length).any fun c=>xd w ls a p (fun _=>false) (3+c))
 | d+1,p=>((O5 ls a p).isSome&&G0 w.owner.length ls a p)||(JZ w.owner.length ls a p||(Bi w.parents.length).any fun c=>xd w ls a p (fun s=>cC w ls a d (p++[s])) (3+c))
def UT {w : AG} (hw:He w) {ls:List Fact} (hl: ∀l∈ls,Df w l) {a:Int} {p:List Int} {can:Int->Bool} (hcan: ∀s∈Cr w.owner.length ls a p,(can s=true↔ ∃t,R8 w t/\TT w ls a (p++[s]) t)) {c:Int} (h3:3<=c) (hc:c<3+(w.parents.length:Int)) :
    xd w ls a p can c=true↔ ∃kid,(∀s,R8 w (kid s))/\TT w ls a p (.obj (fun b=>GA w.parents c.toNat b) kid):=by
 have hleaf: ∀l∈ls,∀kid,Dk (.obj (fun b=>GA w.parents c.toNat b) kid) (Ah l).1=((Ah l).1.op==2&&Na w.parents c (Ah l).1.cls):=fun l hm kid=>by
  simp only[Dk];by_cases ho:(Ah l).1.op=2
  .have hcl:=(hl l hm).cls ho
   rw[C1.2 ho,Du,Du,Na,decide_eq_true h3,Du];by_cases hz:(Ah l).1.cls=0
   .rw[hz];simp
   rw[beq_eq_false_iff_ne.2 hz,Bool.false_or,Bool.false_or];by_cases h3c:3<=(Ah l).1.cls
   .rw[decide_eq_true h3c,Du]
    by_cases he:c=(Ah l).1.cls
    .rw[<-he,ET hw.ord];simp
    .rw[beq_eq_false_iff_ne.2 he,Bool.false_or]
   .rw[decide_eq_false h3c,Bool.false_and,beq_eq_false_iff_ne.2 (show c≠(Ah l).1.cls by omega),Bool.false_or]
    cases hb:GA w.parents c.toNat (Ah l).1.cls.toNat
    .rfl
    .have:=LH hw.ord _ _ (by omega) hb
     omega
  .rw[beq_eq_false_iff_ne.2 ho];rfl
 have hhas: ∀s,0<=s/\s<(w.owner.length:Int)->hasB w c s=GA w.parents c.toNat (Bh w s).toNat:=fun s hs=>by
  have ho:=Jf hw hs;rw[hasB,Na,decide_eq_true h3,Du,beq_eq_false_iff_ne.2 (show Bh w s≠0 by omega),Bool.false_or,Du];by_cases he:c=Bh w s
  .rw[<-he,ET hw.ord];simp
  .rw[beq_eq_false_iff_ne.2 he,Bool.false_or]
 have hstep: ∀l∈ls,∀kid,(!stepOf w c (Ah l))=true↔Dk (.obj (fun b=>GA w.parents c.toNat b) kid) (Ah l).1= !(Ah l).2:=fun l hm kid=>by
  rw[hleaf l hm kid,stepOf];cases((Ah l).1.op==2&&Na w.parents c (Ah l).1.cls)<;>cases(Ah l).2<;>decide
 rw[xd,A4,Dj,Dj];constructor
 .rintro⟨h1,h2⟩
  have hk: ∀s,∃t,R8 w t/\(s∈Cr w.owner.length ls a p->hasB w c s=true->TT w ls a (p++[s]) t):=fun s=>by
   rcases Classical.em (s∈Cr w.owner.length ls a p/\hasB w c s=true)with⟨e1,e2⟩|e
   .have:=h2 s e1
    rw[if_pos e2]at this;obtain⟨t,q1,q2⟩:=(hcan s e1).1 this;exact⟨t,q1,fun _ _=>q2⟩
   .exact⟨.HY,trivial,fun e1 e2=>absurd ⟨e1,e2⟩ e⟩
  refine⟨fun s=>Classical.choose (hk s),fun s=>(Classical.choose_spec (hk s)).1,fun l k1 k2 q hq=>?_⟩;cases q with
  | nil=>
    rw[FE]at hq;exact(hstep l k1 _).1 (h1 l (Kj.2 ⟨k1,EW.2 ⟨k2,hq⟩⟩))
  | cons s r=>
    have hs:s∈Cr w.owner.length ls a p:=(KO hl).2 ⟨l,k1,k2,r,hq⟩;have hin:=IC hs;rw[JN,<-hhas s hin];have hsp:=(Classical.choose_spec (hk s)).2;generalize Classical.choose (hk s)=t at hsp ⊢;cases hu:hasB w c s
    .have:=h2 s hs
     rw[hu,if_neg (by decide)]at this;rw[EV.1 this l k1 k2 r (by rw[hq];simp)];rfl
    .rw[Du]
     exact hsp hs hu l k1 k2 r (by rw[hq];simp)
 .rintro⟨kid,hkid,hT⟩
  refine⟨fun l hm=>?_,fun s hs=>?_⟩
  .obtain⟨k1,k2⟩:=Kj.1 hm
   obtain⟨k3,k4⟩:=EW.1 k2;exact(hstep l k1 kid).2 (hT l k1 k3 [] (by rw[k4];simp))
  .have hin:=IC hs
   cases hu:hasB w c s
   .rw[if_neg (by decide)]
    refine EV.2 fun l k1 k2 q hq=>?_
    have:=hT l k1 k2 (s::q) (by rw[hq];simp);rw[JN,<-hhas s hin,hu,Bool.false_and]at this;simpa using this.symm
   .rw[if_pos rfl]
    refine(hcan s hs).2 ⟨kid s,hkid s,fun l k1 k2 q hq=>?_⟩;have:=hT l k1 k2 (s::q) (by rw[hq];simp)
    rwa [JN,<-hhas s hin,hu,Du]at this
def W7 {w:AG} (hw:He w) {ls:List Fact} (hl: ∀l∈ls,Df w l) (a:Int): ∀(d:Nat) (p:List Int),p.length+d=2->(cC w ls a d p=true↔ ∃t,R8 w t/\TT w ls a p t):=by
 have key: ∀(p:List Int) (can:Int->Bool),(∀s∈Cr w.owner.length ls a p,(can s=true↔ ∃t,R8 w t/\TT w ls a (p++[s]) t))->((((O5 ls a p).isSome&&G0 w.owner.length ls a p)||(JZ w.owner.length ls a p||(Bi w.parents.length).any fun c=>xd w ls a p can (3+c)))=true↔ ∃t,R8 w t/\TT w ls a p t):=fun p can hcan=>by
  rw[EP,EP,Mp hl,KT hl,Gx];constructor
  .rintro(⟨m,h1,h2⟩|h|⟨c,h1,h2⟩)
   .exact⟨.int m,h1,h2⟩
   .exact⟨.HY,trivial,h⟩
   .have:=C8.1 h1
    obtain⟨kid,k1,k2⟩:=(UT hw hl hcan (by omega) (by omega)).1 h2;exact⟨.obj (fun b=>GA w.parents (3+c).toNat b) kid,⟨⟨(3+c).toNat,by omega,by omega,fun _=>rfl⟩,k1⟩,k2⟩
  .rintro⟨t,h1,h2⟩
   cases t with
   | int m=>exact .inl ⟨m,h1,h2⟩
   | HY=>exact .inr (.inl h2)
   | obj C kid=>
     obtain⟨⟨c,k1,k2,k3⟩,k4⟩:=h1;refine .inr (.inr ⟨(c:Int) - 3,C8.2 (by omega),(UT hw hl hcan (by omega) (by omega)).2 ⟨kid,k4,?_⟩⟩);rw[show(3+((c:Int) - 3)).toNat=c by omega];exact Pf hw hl (fun b _=>k3 b) h2
 intro d
 induction d with
 | zero=>
   intro p hp;rw[cC];refine key p _ fun s hs=>?_
   rw[N3 (m:=2) (fun l h=>(hl l h).short) (by omega)]at hs;cases hs
 | succ d ih=>
   intro p hp;rw[cC];exact key p _ fun s _=>ih (p++[s]) (by simp;omega)
def rW (w:AG) (ls:List Fact) (cs:List Int) (a:Int):Bool:=
 if(cs.length:Int)<=a\/cs.getD a.toNat 0=0 then cC w ls a 2 []else if cs.getD a.toNat 0=1 then(O5 ls a []).isSome&&G0 w.owner.length ls a []else if cs.getD a.toNat 0=2 then JZ w.owner.length ls a []else xd w ls a [] (fun s=>cC w ls a 1 [s]) (cs.getD a.toNat 0)
def JQ (w:AG) (cs:List Int) (ls:List Fact):Bool:=(Bi 3).all (rW w ls cs)
def WG {w : AG} (hw:He w) {ls:List Fact} (hl: ∀l∈ls,Df w l) {cs:List Int} (hcs: ∀c∈cs,1<=c/\c<3+(w.parents.length:Int)) {a:Int} (h0:0<=a):rW w ls cs a=true↔ ∃t c,Ta w t c/\JK cs a c=true/\R8 w t/\TT w ls a [] t:=by
 rw[rW];by_cases hle:(cs.length:Int)<=a
 .rw[if_pos (.inl hle),W7 hw hl a 2 [] rfl]
  have hf: ∀c,JK cs a c=true:=fun c=>by rw[JK,decide_eq_true hle];rfl
  constructor
  .rintro⟨t,k1,k2⟩
   obtain⟨c,k3,_⟩:=YH t k1;exact⟨t,c,k3,hf c,k1,k2⟩
  .rintro⟨t,c,_,_,k1,k2⟩
   exact⟨t,k1,k2⟩
 .obtain ⟨x,hx⟩: ∃x,cs[a.toNat]? =some x:=⟨_,Dp (by omega)⟩
  have hxd:cs.getD a.toNat 0=x:=by rw[DK,hx];rfl
  have hxc:=hcs x (Cm hx);have hf: ∀c:Nat,JK cs a c=true↔x=(c:Int):=fun c=>by rw[JK,decide_eq_false hle,Bool.false_or,hxd,C1]
  rw[hxd,if_neg (by omega)];by_cases h1:x=1
  .rw[if_pos h1,Mp hl]
   constructor
   .rintro⟨m,k1,k2⟩
    exact⟨.int m,1,rfl,(hf 1).2 h1,k1,k2⟩
   .rintro⟨t,c,k0,k1,k2,k3⟩
    have:=(hf c).1 k1;cases t with
    | int m=>exact⟨m,k2,k3⟩
    | HY=>have k0:c=2:=k0;omega
    | obj C kid=>have:=k0.1;omega
  .rw [if_neg h1]
   by_cases h2:x=2
   .rw[if_pos h2,KT hl]
    constructor
    .intro k
     exact⟨.HY,2,rfl,(hf 2).2 h2,trivial,k⟩
    .rintro⟨t,c,k0,k1,k2,k3⟩
     have:=(hf c).1 k1;cases t with
     | int m=>have k0:c=1:=k0;omega
     | HY=>exact k3
     | obj C kid=>have:=k0.1;omega
   .rw [if_neg h2,UT hw hl (fun s _=>W7 hw hl a 1 [s] rfl) (by omega) (by omega)]
    constructor
    .rintro⟨kid,k1,k2⟩
     exact⟨.obj (fun b=>GA w.parents x.toNat b) kid,x.toNat,⟨by omega,by omega,fun _=>rfl⟩,(hf _).2 (by omega),⟨⟨x.toNat,by omega,by omega,fun _=>rfl⟩,k1⟩,k2⟩
    .rintro⟨t,c,k0,k1,k2,k3⟩
     have:=(hf c).1 k1;cases t with
     | int m=>have k0:c=1:=k0;omega
     | HY=>have k0:c=2:=k0;omega
     | obj C kid=>
       refine⟨kid,k2.2,Pf hw hl (fun b _=>?_) k3⟩;rw[k0.2.2,show x.toNat=c by omega]
def sP {w:AG} (hw:He w) {cs:List Int} (hcs: ∀c∈cs,1<=c/\c<3+(w.parents.length:Int)) {ls:List Fact} (hl: ∀l∈ls,Df w l):bn w cs ls=JQ w cs ls:=by
 rw[bn,JQ,Hb,Dj,Dj];constructor
 .intro h a ha
  exact(WG hw hl hcs (C8.1 ha).1).2 ((Mw hw hl a 2 _ [] rfl).1 (h a ha))
 .intro h a ha
  exact(Mw hw hl a 2 _ [] rfl).2 ((WG hw hl hcs (C8.1 ha).1).1 (h a ha))
def Vl (A B:List (List Fact)):List (List Fact):=A.flatMap fun x=>B.map fun y=>x++y
def P4 (f:Fact) (l:List (Bool->List (List Fact))) (c:Bool):List (List Fact):=
 if f.op=1 then(if c then []else [[]])else
 if f.op=5 then(l.getD 0 (fun _=>[])) (!c)else
 if f.op=6\/f.op=7 then(if c != (f.op==7)then l.getD 0 (fun _=>[]) c++l.getD 1 (fun _=>[]) c else Vl (l.getD 0 (fun _=>[]) c) (l.getD 1 (fun _=>[]) c))else
 if c then [[Ey f]]else [[f]]
def CS (f:Fact):Bool->List (List Fact):=f.Hm P4
def Kg (f:Fact) (c:Bool):CS f c=P4 f (f.kids.map CS) c:=congrFun (Fact.Dn P4 f) c
def FP {A B:List (List Fact)} {l:List Fact}:l∈Vl A B↔ ∃x∈A,∃y∈B,l=x++y:=by
 simp only[Vl,List.mem_flatMap,Hc];constructor
 .rintro⟨x,hx,y,hy,rfl⟩
  exact⟨x,hx,y,hy,rfl⟩
 .rintro⟨x,hx,y,hy,rfl⟩
  exact⟨x,hx,y,hy,rfl⟩
def Oy {w:AG} (f:Fact):A6 w f=true-> ∀c,∀l∈CS f c,∀x∈l,Dq w x:=by
 induction f using Fact.ind with
 | h f ih=>
   intro h c;have har:=B5 f h;have h':=h;rw[CA,A4,Dj]at h';rw[Kg,P4];by_cases h1:f.op=1
   .rw[if_pos h1]
    cases c
    .rw[if_neg (by decide)]
     intro l hl x hx;simp at hl;subst hl;cases hx
    .rw[if_pos rfl]
     intro l hl;cases hl
   rw[if_neg h1];by_cases h5:f.op=5
   .obtain⟨a,ha,hb⟩:=Fe har h5
    rw[if_pos h5,ha];exact ih a (by rw[ha];exact .head _) (h'.2 a (by rw[ha];exact .head _)) (!c)
   rw[if_neg h5];by_cases h6:f.op=6\/f.op=7
   .obtain⟨a,b,ha,hb1,hb2⟩:=Fc har h6
    rw[if_pos h6,ha];have i1:=ih a (by rw[ha];exact .head _) (h'.2 a (by rw[ha];exact .head _)) c;have j1:=ih b (by rw[ha];exact .tail _ (.head _)) (h'.2 b (by rw[ha];exact .tail _ (.head _))) c;simp only[EZ,List.map_nil,List.getD_cons_zero,List.getD_cons_succ];split
    .intro l hl
     rcases Ds.1 hl with hl|hl
     .exact i1 l hl
     .exact j1 l hl
    .intro l hl x hx
     obtain⟨y,hy,z,hz,rfl⟩:=FP.1 hl;rcases Ds.1 hx with h|h
     .exact i1 y hy x h
     .exact j1 z hz x h
   .have hr:=EA f h c
    rw[FR,HR,if_neg h1,if_neg h5,if_neg h6]at hr;rw[if_neg h6];exact hr
def RT (f:Fact):arity f=true-> ∀c,∀l∈CS f c,l.length<=lv f:=by
 induction f using Fact.ind with
 | h f ih=>
   intro h c;rw[Kg,Kt,P4,bb];by_cases h1:f.op=1
   .have e5: ¬f.op=5:=by omega
    have e6: ¬(f.op=6\/f.op=7):=by omega
    rw[if_pos h1,if_neg e5,if_neg e6];cases c
    .rw[if_neg (by decide)]
     exact fun l hl=>by simp at hl;subst hl;simp
    .rw[if_pos rfl]
     exact fun l hl=>by cases hl
   rw[if_neg h1];by_cases h5:f.op=5
   .obtain⟨a,ha,hb⟩:=Fe h h5
    rw[if_pos h5,if_pos h5,ha];exact ih a (by rw[ha];exact .head _) hb (!c)
   rw[if_neg h5,if_neg h5];by_cases h6:f.op=6\/f.op=7
   .obtain⟨a,b,ha,hb1,hb2⟩:=Fc h h6
    rw[if_pos h6,if_pos h6,ha];simp only[EZ,List.map_nil,List.getD_cons_zero,List.getD_cons_succ];have i2:=ih a (by rw[ha];exact .head _) hb1 c;have j2:=ih b (by rw[ha];exact .tail _ (.head _)) hb2 c;split
    .intro l hl
     rcases Ds.1 hl with hl|hl
     .have:=i2 l hl;omega
     .have:=j2 l hl;omega
    .intro l hl
     obtain⟨x,hx,y,hy,rfl⟩:=FP.1 hl;have:=i2 x hx;have:=j2 y hy;rw[Ri];omega
   .rw[if_neg h6,if_neg h6]
    cases c
    .exact fun l hl=>by simp at hl;subst hl;simp
    .exact fun l hl=>by simp at hl;subst hl;simp
def RU {w : AG} {M:Int->F3} (f:Fact):A6 w f=true-> ∀c,(∃l∈CS f c,∀x∈l,Fh w M x)↔O1 w M f= !c:=by
 induction f using Fact.ind with
 | h f ih=>
   intro h c;have har:=B5 f h;have h':=h;rw[CA,A4,Dj]at h';have hF:=Ep (M:=M) f h c;rw[FR,HR]at hF;rw[Kg,P4];by_cases h1:f.op=1
   .rw[if_pos h1]at hF ⊢
    exact hF
   rw[if_neg h1]at hF ⊢;by_cases h5:f.op=5
   .obtain⟨a,ha,hb⟩:=Fe har h5
    have i1:=ih a (by rw[ha];exact .head _) (h'.2 a (by rw[ha];exact .head _)) (!c);have k1:=Ep (M:=M) a (h'.2 a (by rw[ha];exact .head _)) (!c);rw[if_pos h5,ha]at hF ⊢;exact(i1.trans k1.symm).trans hF
   rw[if_neg h5]at hF ⊢;by_cases h6:f.op=6\/f.op=7
   .obtain⟨a,b,ha,hb1,hb2⟩:=Fc har h6
    have hna:=h'.2 a (by rw[ha];exact .head _);have hnb:=h'.2 b (by rw[ha];exact .tail _ (.head _));have i1:=(ih a (by rw[ha];exact .head _) hna c).trans (Ep (M:=M) a hna c).symm;have j1:=(ih b (by rw[ha];exact .tail _ (.head _)) hnb c).trans (Ep (M:=M) b hnb c).symm;rw[if_pos h6,ha]at hF ⊢;simp only[EZ,List.map_nil,List.getD_cons_zero,List.getD_cons_succ]at hF ⊢;refine Iff.trans ?_ hF;split
    .constructor
     .rintro⟨l,hl,hx⟩
      rcases Ds.1 hl with hl|hl
      .obtain⟨m,h1,h2⟩:=i1.1 ⟨l,hl,hx⟩
       exact⟨m,OT _ h1,h2⟩
      .obtain⟨m,h1,h2⟩:=j1.1 ⟨l,hl,hx⟩
       exact⟨m,NO _ h1,h2⟩
     .rintro⟨l,hl,hx⟩
      rcases Ds.1 hl with hl|hl
      .obtain⟨m,h1,h2⟩:=i1.2 ⟨l,hl,hx⟩
       exact⟨m,OT _ h1,h2⟩
      .obtain⟨m,h1,h2⟩:=j1.2 ⟨l,hl,hx⟩
       exact⟨m,NO _ h1,h2⟩
    .constructor
     .rintro⟨l,hl,hx⟩
      obtain⟨y,hy,z,hz,rfl⟩:=FP.1 hl;obtain⟨m,h1,h2⟩:=i1.1 ⟨y,hy,fun x h=>hx x (OT _ h)⟩;obtain⟨n,h3,h4⟩:=j1.1 ⟨z,hz,fun x h=>hx x (NO _ h)⟩;refine⟨Cz m n,?_,(Mo m _ n).2 ⟨h2,h4⟩⟩;simp only[Fj,List.mem_flatMap,Hc];exact⟨m,h1,n,h3,rfl⟩
     .rintro⟨l,hl,hx⟩
      simp only[Fj,List.mem_flatMap,Hc]at hl;obtain⟨y,hy,z,hz,rfl⟩:=hl;rw[Mo]at hx;obtain⟨m,h1,h2⟩:=i1.2 ⟨y,hy,hx.1⟩;obtain⟨n,h3,h4⟩:=j1.2 ⟨z,hz,hx.2⟩;refine⟨m++n,FP.2 ⟨m,h1,n,h3,rfl⟩,fun x hx=>?_⟩;rcases Ds.1 hx with h|h
      .exact h2 x h
      .exact h4 x h
   .rw[if_neg h6]at hF ⊢
    exact hF
def O3 (tog:List Fact->Bool):List (List (List Fact))->List Fact->Bool
 | [],l=>tog l
 | cs::r,l=>tog l&&cs.any fun c=>O3 tog r (l++c)
def QL {w:AG} {tog:List Fact->Bool} {OK:(Int->F3)->Prop} (htog: ∀l,(∀x∈l,Dq w x)->(tog l=true↔ ∃M,OK M/\ ∀x∈l,Fh w M x)): ∀(css:List (List (List Fact))) (l:List Fact),(∀x∈l,Dq w x)->(∀cs∈css,∀c∈cs,∀x∈c,Dq w x)->
    (O3 tog css l=true↔ ∃M,OK M/\(∀x∈l,Fh w M x)/\ ∀cs∈css,∃c∈cs,∀x∈c,Fh w M x)
 | [],l,hl,_=>by
   rw[O3,htog l hl];constructor
   .rintro⟨M,h1,h2⟩
    exact⟨M,h1,h2,fun _ h=>by cases h⟩
   .rintro⟨M,h1,h2,_⟩
    exact⟨M,h1,h2⟩
 | cs::r,l,hl,hcs=>by
   have ih:=fun c (hc:c∈cs)=>QL htog r (l++c) (fun x hx=>(Ds.1 hx).elim (hl x) (hcs cs (.head _) c hc x)) (fun d hd=>hcs d (.tail _ hd))
   rw[O3,A4,Gx];constructor
   .rintro⟨_,c,hc,h⟩
    obtain⟨M,h1,h2,h3⟩:=(ih c hc).1 h;refine⟨M,h1,fun x hx=>h2 x (OT _ hx),fun d hd=>?_⟩;rcases Fg.1 hd with rfl|hd
    .exact⟨c,hc,fun x hx=>h2 x (NO _ hx)⟩
    .exact h3 d hd
   .rintro⟨M,h1,h2,h3⟩
    obtain⟨c,hc,h4⟩:=h3 cs (.head _);refine⟨(htog l hl).2 ⟨M,h1,h2⟩,c,hc,(ih c hc).2 ⟨M,h1,fun x hx=>(Ds.1 hx).elim (h2 x) (h4 x),fun d hd=>h3 d (.tail _ hd)⟩⟩
def sG (fs:List (Fact×Bool)):List (List (List Fact)):=fs.map fun x=>Bb x.1 (!x.2)
def cA (fs:List (Fact×Bool)):List (List (List Fact)):=fs.map fun x=>CS x.1 (!x.2)
def ji {w:AG} {tog:List Fact->Bool} {OK:(Int->F3)->Prop} (htog: ∀l,(∀x∈l,Dq w x)->(tog l=true↔ ∃M,OK M/\ ∀x∈l,Fh w M x)) {fs:List (Fact×Bool)} (hn: ∀x∈fs,A6 w x.1=true) :
    O3 tog (sG fs) []=true↔ ∃M,OK M/\ ∀x∈fs,O1 w M x.1=x.2:=by
 rw[QL htog (sG fs) [] (fun _ h=>by cases h) (fun cs hcs=>by
  obtain⟨x,hx,rfl⟩:=Hc.1 hcs
  exact EA x.1 (hn x hx) _)]
 constructor
 .rintro⟨M,h1,_,h3⟩
  exact⟨M,h1,fun x hx=>by simpa using(Ep x.1 (hn x hx) (!x.2)).1 (h3 _ (Hc.2 ⟨x,hx,rfl⟩))⟩
 .rintro⟨M,h1,h2⟩
  refine⟨M,h1,(fun _ h=>by cases h),fun cs hcs=>?_⟩;obtain⟨x,hx,rfl⟩:=Hc.1 hcs;exact(Ep x.1 (hn x hx) (!x.2)).2 (by simpa using h2 x hx)
def jh {w:AG} {tog:List Fact->Bool} {OK:(Int->F3)->Prop} (htog: ∀l,(∀x∈l,Dq w x)->(tog l=true↔ ∃M,OK M/\ ∀x∈l,Fh w M x)) {fs:List (Fact×Bool)} (hn: ∀x∈fs,A6 w x.1=true) :
    O3 tog (cA fs) []=true↔ ∃M,OK M/\ ∀x∈fs,O1 w M x.1=x.2:=by
 rw[QL htog (cA fs) [] (fun _ h=>by cases h) (fun cs hcs=>by
  obtain⟨x,hx,rfl⟩:=Hc.1 hcs
  exact Oy x.1 (hn x hx) _)]
 constructor
 .rintro⟨M,h1,_,h3⟩
  exact⟨M,h1,fun x hx=>by simpa using(RU x.1 (hn x hx) (!x.2)).1 (h3 _ (Hc.2 ⟨x,hx,rfl⟩))⟩
 .rintro⟨M,h1,h2⟩
  refine⟨M,h1,(fun _ h=>by cases h),fun cs hcs=>?_⟩;obtain⟨x,hx,rfl⟩:=Hc.1 hcs;exact(RU x.1 (hn x hx) (!x.2)).2 (by simpa using h2 x hx)
def Gt (E:List Bool->Bool):Nat->List Bool->List (List Bool)
 | 0,pre=>if E pre then [pre]else []
 | k+1,pre=>if E pre then Gt E k (pre++[false])++Gt E k (pre++[true])else []
def Is {E E':List Bool->Bool} (h: ∀l,E l=E' l): ∀(k:Nat) (pre:List Bool),Gt E k pre=Gt E' k pre
 | 0,pre=>by rw[Gt,Gt,h]
 | k+1,pre=>by rw[Gt,Gt,h,Is h k,Is h k]
def O9 (tog:List Fact->Bool) (fs:List Fact) (bs:List Bool):Bool:=O3 tog (sG (fs.zip bs)) []
def F8 (tog:List Fact->Bool) (fs:List Fact) (bs:List Bool):Bool:=O3 tog (cA (fs.zip bs)) []
def Gd {w:AG} {tog:List Fact->Bool} {OK:(Int->F3)->Prop} (htog: ∀l,(∀x∈l,Dq w x)->(tog l=true↔ ∃M,OK M/\ ∀x∈l,Fh w M x)) {fs:List Fact} (hn: ∀f∈fs,A6 w f=true) (bs:List Bool) :
    O9 tog fs bs=true↔ ∃M,OK M/\ ∀x∈fs.zip bs,O1 w M x.1=x.2:=ji htog fun x hx=>hn x.1 (List.of_mem_zip hx).1
def eK {w:AG} {tog:List Fact->Bool} {OK:(Int->F3)->Prop} (htog: ∀l,(∀x∈l,Dq w x)->(tog l=true↔ ∃M,OK M/\ ∀x∈l,Fh w M x)) {fs:List Fact} (hn: ∀f∈fs,A6 w f=true) (bs:List Bool) :
    F8 tog fs bs=true↔ ∃M,OK M/\ ∀x∈fs.zip bs,O1 w M x.1=x.2:=jh htog fun x hx=>hn x.1 (List.of_mem_zip hx).1
def Mt {E E':List Bool->Bool} (h: ∀l,E l=true->E' l=true): ∀(k:Nat) (pre l:List Bool),l∈Gt E k pre->l∈Gt E' k pre
 | 0,pre,l,hm=>by
   rw[Gt]at hm;split at hm
   .rename_i he
    rw[Gt,if_pos (h _ he)];exact hm
   .cases hm
 | k + 1,pre,l,hm=>by
   rw[Gt]at hm;split at hm
   .rename_i he
    rw[Gt,if_pos (h _ he)];rcases Ds.1 hm with hm|hm
    .exact OT _ (Mt h k _ l hm)
    .exact NO _ (Mt h k _ l hm)
   .cases hm
def Ct (ms:List Int) (bs:List Bool):List Int:=((ms.zip bs).filter fun x=>x.2).map fun x=>x.1
def Ze {w:AG} (hw:He w): ∀l,(∀x∈l,Dq w x)->(EG w l=true↔ ∃M,rm w M/\ ∀x∈l,Fh w M x):=fun l hl=>MZ hw fun x hx=>G5 (hl x hx)
def Zf {w:AG} (hw:He w) {cs:List Int} (hcs: ∀c∈cs,1<=c/\c<3+(w.parents.length:Int)): ∀l,(∀x∈l,Dq w x)->(JQ w cs l=true↔ ∃M,rn w cs M/\ ∀x∈l,Fh w M x):=fun l hl=>by
 rw[<-sP hw hcs fun x hx=>G5 (hl x hx)];exact WH hw fun x hx=>G5 (hl x hx)
def s5 {w:AG} (hw:He w) {cs:List Int} {M:Int->F3} (h:rn w cs M):rm w M:=fun a=>gp hw _ (h a).1
def PT {n:Int}: ∀c∈([]:List Int),1<=c/\c<n:=fun _ h=>by cases h
def xL {w:AG} (hw:He w) {cs:List Int} (hcs: ∀c∈cs,1<=c/\c<3+(w.parents.length:Int)) {fs:List Fact} (hn: ∀f∈fs,A6 w f=true) (bs:List Bool) (h:O9 (JQ w cs) fs bs=true):O9 (EG w) fs bs=true:=by
 obtain⟨M,h1,h2⟩:=(Gd (Zf hw hcs) hn bs).1 h;exact(Gd (Ze hw) hn bs).2 ⟨M,s5 hw h1,h2⟩
structure Xx (w w':AG) (ps:List Int):Prop where
 par:w'.parents=w.parents++[ps]
 own:w'.owner=w.owner
section
variable {w w':AG} {ps:List Int}
def Xx.pl (h:Xx w w' ps):w'.parents.length=w.parents.length+1:=by rw[h.par];simp
def Xx.Tw (h:Xx w w' ps) {c:Nat} (hc:c<3+w.parents.length):Gl.par w'.parents c=Gl.par w.parents c:=by
 unfold Gl.par;split
 .rfl
 .rw[h.par,DK,DK,ec (by omega)]
def Xx.Bh (h:Xx w w' ps) (s:Int):Bh w' s=Bh w s:=by rw[Gl.Bh,Gl.Bh,h.own]
def aL (h:Xx w w' ps): ∀(l:List Int) (t:F3) (f:Fact),JN w' t l f=JN w t l f
 | [],t,f=>by cases t<;>rfl
 | s::r,t,f=>by
   cases t with
   | int n=>rfl
   | HY=>rfl
   | obj C kid=>simp only[JN];rw[h.Bh,aL h r (kid s) f]
def Ih (h:Xx w w' ps) (M:Int->F3) (f:Fact):O1 w' M f=O1 w M f:=by
 induction f using Fact.ind with
 | h f ih=>
   rw[LM,LM w];have e:f.kids.map (O1 w' M)=f.kids.map (O1 w M):=List.map_congr_left ih;rw[e,VE,VE,aL h]
def YJ (h:Xx w w' ps): ∀t:F3,Ex w' t->Ex w t
 | .int n,hq=>hq
 | .HY,_=>trivial
 | .obj C kid,hq=>by
   refine⟨fun c h3 hc q hq2=>?_,fun s=>YJ h (kid s) (hq.2 s)⟩;rcases Nat.lt_or_ge c (3+w.parents.length)with hl|hl
   .exact hq.1 c h3 hc q (by rw[h.Tw hl];exact hq2)
   .rw[su hl]at hq2
    cases hq2
def Un (h:Xx w w' ps) (hw:He w): ∀t:F3,Ex w t->Ex w' (Tl (3+w.parents.length) t)
 | .int n,hq=>hq
 | .HY,_=>trivial
 | .obj C kid,hq=>by
   refine⟨fun c h3 hc q hq2=>?_,fun s=>Un h hw (kid s) (hq.2 s)⟩;simp only[A4,Cp]at hc ⊢;rw[h.Tw hc.2]at hq2;have:=hw.ord c q hq2;exact⟨hq.1 c h3 hc.1 q hq2,by omega⟩
def mr (h:Xx w w' ps) (ho:ordered w.parents) (ho':ordered w'.parents) (b:Nat): ∀c:Nat,c<3+w.parents.length->GA w'.parents c b=GA w.parents c b:=by
 intro c
 induction c using Nat.strongRecOn with
 | _ c ih=>
   intro hc;rw[D0 ho',D0 ho,h.Tw hc,Hb,EP,EP,Gx,Gx]
   have e: ∀q∈Gl.par w.parents c,GA w'.parents q.toNat b=GA w.parents q.toNat b:=fun q hq=>by
    have:=ho c q hq;exact ih q.toNat (by omega) (by omega)
   constructor
   .rintro(h1|⟨q,h1,h2⟩)
    .exact .inl h1
    .exact .inr ⟨q,h1,by rw[<-e q h1];exact h2⟩
   .rintro(h1|⟨q,h1,h2⟩)
    .exact .inl h1
    .exact .inr ⟨q,h1,by rw[e q h1];exact h2⟩
def US (h:Xx w w' ps) (ho:ordered w.parents) (ho':ordered w'.parents): ∀t:F3,R8 w t->R8 w' t
 | .int n,hq=>hq
 | .HY,_=>trivial
 | .obj C kid,⟨⟨c,h1,h2,h3⟩,h4⟩=>⟨⟨c,h1,by rw[h.pl];omega,fun b=>by rw[h3,mr h ho ho' b c h2]⟩,fun s=>US h ho ho' (kid s) (h4 s)⟩
def pg (h:Xx w w' ps) (hw:He w) (hw':He w') {fs:List Fact} (hn: ∀f∈fs,A6 w f=true) (hn': ∀f∈fs,A6 w' f=true) (bs:List Bool):O9 (EG w') fs bs=O9 (EG w) fs bs:=by
 rw[Hb,Gd (Ze hw') hn',Gd (Ze hw) hn];constructor
 .rintro⟨M,h1,h2⟩
  exact⟨M,fun a=>YJ h _ (h1 a),fun x hx=>by rw[<-Ih h];exact h2 x hx⟩
 .rintro⟨M,h1,h2⟩
  refine⟨fun a=>Tl (3+w.parents.length) (M a),fun a=>Un h hw _ (h1 a),fun x hx=>?_⟩;rw[Ih h,Ul hw M x.1 (hn x.1 (List.of_mem_zip hx).1)];exact h2 x hx
def lX (h:Xx w w' ps) (hw:He w) (hw':He w') {fs:List Fact} (hn: ∀f∈fs,A6 w f=true) (hn': ∀f∈fs,A6 w' f=true) (bs:List Bool) (hc:O9 (JQ w []) fs bs=true):O9 (JQ w' []) fs bs=true:=by
 obtain⟨M,h1,h2⟩:=(Gd (Zf hw PT) hn bs).1 hc;refine(Gd (Zf hw' PT) hn' bs).2 ⟨M,fun a=>⟨US h hw.ord hw'.ord _ (h1 a).1,fun h0 _=>?_⟩,fun x hx=>by rw[Ih h];exact h2 x hx⟩;obtain⟨c,k,_⟩:=YH (M a) (US h hw.ord hw'.ord _ (h1 a).1);exact⟨c,k,by rw[JK,decide_eq_true (by simpa using h0)];rfl⟩
end
end Go.Gl
namespace Go.Gl
open Go.Proofs
attribute [local irreducible] Av An Af AQ AL Ac AP AS AK Ab AN AO As A3 Sat AV A0 Ag W
def mB (p:Prog) (l:List Int) (kd:Bool) (x:Int):Bool:=Ba p x&&((B3 p x).gen==(B3 p (l.getD 0 0)).gen&&(!kd||Jk p x (l.getD 0 0)))
def F6 (p:Prog) (l:List Int) (kd:Bool):Bool:=l.all (mB p l kd)&&decide l.Nodup
def dH {p:Prog} {l:List Int} {kd:Bool} {i:Nat} {x:Int} (hx:l[i]? =some x) (h:mB p l kd x=false):F6 p l kd=false:=by
 rw[F6,Bool.and_eq_false_iff];left;rw[<-Bool.not_eq_true,Dj];intro h2;rw[h2 x (Cm hx)]at h;cases h
def dG {p:Prog} {l:List Int} {kd:Bool} {i k:Nat} {x:Int} (hx:l[i]? =some x) (hk:l[k]? =some x) (h:k<i):F6 p l kd=false:=by
 rw[F6,Bool.and_eq_false_iff];right;rw[decide_eq_false_iff_not];intro h2;have hi:=(JM.1 hx)
 have hj:=(JM.1 hk)
 have:=(List.nodup_iff_pairwise_ne.1 h2)
 rw[List.pairwise_iff_getElem]at this;exact this k i hj.1 hi.1 h (by rw[hj.2,hi.2])
def Yy {l:List Int} {i:Nat} {x:Int} (hx:l[i]? =some x) (h:(l.take i).Nodup) (hn: ∀k y,k<i->l[k]? =some y->y≠x):(l.take (i+1)).Nodup:=by
 rw[AU hx,List.nodup_append];refine⟨h,by simp,fun a ha b hb=>?_⟩;rw[Lu.1 hb];obtain⟨k,hk⟩:=List.getElem?_of_mem ha;rw[List.getElem?_take]at hk;split at hk
 .exact hn k a (by assumption) hk
 .cases hk
def QP: ∀(n:Nat) (l:List Int),l.Nodup->(∀x∈l,0<=x/\x<(n:Int))->l.length<=n
 | 0,l,_,h=>by
   cases l with
   | nil=>simp
   | cons x r=>have:=h x (.head _);omega
 | n + 1,l,hn,h=>by
   have h1:=QP n (l.erase (n:Int)) (hn.erase _) fun x hx=>by
    have hm:=(List.Nodup.mem_erase_iff hn).1 hx;have:=h x hm.2;have:=hm.1;omega
   have h2:=List.length_erase (a:=(n:Int)) (l:=l);split at h2<;>omega
end Go.Gl
namespace Go.Gl
open Go.Proofs
end Go.Gl
namespace Go.Gl
open Go.Proofs
attribute [local irreducible] Av An Af AQ AL Ac AP AS AK Ab AN AO As A3 Sat AV A0 Ag W
def nz {p:Prog} (h:(BN p).isSome=true) {x:Nc} (hx:x∈p.methods):(1<=x.kind/\x.kind<=4)/\DL (AI p) x.fact=true/\A6 (AI p) x.fact=true/\GV x.fact<=p.Dr.getD x.gen.toNat 0:=by
 have:=(GL h).2 x hx;simp only[Pj,A4,Cp]at this;have hf:=this.2.2.2.2.1;simp only[DL,A4,Cp]at hf;exact⟨⟨this.1,this.2.1⟩,this.2.2.2.2.1,hf.2.2,this.2.2.2.2.2⟩
structure Pl where
 ar:List Int
 fA:Bool
 be:List Int
 pr:List Int
 prt:Bool
 af:List Int
abbrev plV (x:Pl) (g h:Bool):List V:=[.l (iL x.ar) g,.b x.fA,.l (iL x.be) g,.l (iL x.pr) g,.b x.prt,.l (iL x.af) h]
def DR (p:Prog) (l:List Int) (k:Int):List Int:=l.filter fun m=>(B3 p m).kind==k
def xr:Pl:=⟨[],false,[],[],false,[]⟩
def qS (A:Int->Int->Bool) (p:Prog) (l:List Int):Pl:=
 ⟨(Cb A (DR p l 4).length (DR p l 4)).1,(Cb A (DR p l 4).length (DR p l 4)).2,FL A (DR p l 2).length (I0 (DR p l 2)),(Cb A (DR p l 1).length (DR p l 1)).1,(Cb A (DR p l 1).length (DR p l 1)).2,(FL A (DR p l 3).length (I0 (DR p l 3))).reverse⟩
def GQ (A:Int->Int->Bool) (p:Prog) (l:List Int):Pl×Bool:=if(DR p l 1).isEmpty then(xr,false)else(qS A p l,true)
def rI (g:FuncId) (fi ca:List V) (q:Ob->Bool):Prop:= ∀v,Pure zP g (fi++[.a (eOb v)]++ca) (.b (q v))
def rI.use {g:FuncId} {fi ca:List V} {q:Ob->Bool} (h:rI g fi ca q) {v:Ob} {Z:AE} {k kp:V->AE->Prop} (hk:k (.b (q v)) Z):As zP (.f (.func g) fi ca) [.a (eOb v)] Z (qk k kp):=BH ((h v).use hk)
def fI (p:Prog) (gen:Int) (k:Nat):List Int:=(Bi k).filter fun m=>(B3 p m).gen==gen
def F0 (p:Prog) (gen:Int):List Int:=fI p gen p.methods.length
def kz (p:Prog) (gen:Int) (k:Nat):fI p gen (k+1)=if(B3 p (k:Int)).gen==gen then fI p gen k++[(k:Int)]else fI p gen k:=by
 rw[fI,XR,List.filter_append];cases hp:(B3 p (k:Int)).gen==gen<;>simp[fI,hp]
def og (p:Prog) (gen:Int) (k:Nat):(fI p gen k).length<=k:=by
 have:=Xv (fun m=>(B3 p m).gen==gen) (Bi k)
 rwa [Qw]at this
def Ug (p:Prog) (gen:Int) (m:Int):(F0 p gen).contains m=(Ba p m&&(B3 p m).gen==gen):=by
 rw[Hb,List.contains_iff_mem,F0,fI,Kj,C8,A4,Ba];simp only[A4,Cp]
def n6 {p:Prog} {k:Nat} {x:Nc} (hx:p.methods[k]? =some x):B3 p (k:Int)=x:=by
 have hlt:=(JM.1 hx).1;have:=Cu (p:=p) (m:=k) (by simp[Ba];omega);rw[HX,hx]at this;exact(Option.some.inj this).symm
def fS (p:Prog) (gen:Int) (l:List Int) (i:Nat):Bool:=Ba p (l.getD i 0)&&((B3 p (l.getD i 0)).gen==gen&& !(decide (0<i)&&decide (l.getD (i - 1) 0≥l.getD i 0)))
def Rt (p:Prog) (gen:Int) (l:List Int):Bool:=(List.range l.length).all (fS p gen l)
def nA {p:Prog} {gen:Int} {l:List Int} (h: ∀i,i<l.length->fS p gen l i=true):Rt p gen l=true:=by
 rw[Rt,Dj];exact fun i hi=>h i (List.mem_range.1 hi)
def Zy {p:Prog} {gen:Int} {l:List Int} (h:Rt p gen l=true): ∀i (hi:i+1<l.length),l[i]<l[i+1]:=fun i hi=>by
 rw[Rt,Dj]at h;have:=h (i+1) (List.mem_range.2 hi);simp only[fS,A4,Bool.not_eq_true',Bool.and_eq_false_iff,decide_eq_false_iff_not,Nat.add_sub_cancel,DK,Dp hi,Dp (show i<l.length by omega),Option.getD_some]at this;omega
def WQ {p:Prog} {gen:Int} {l:List Int} (h:Rt p gen l=true): ∀x∈l,Ba p x=true/\(B3 p x).gen=gen:=fun x hx=>by
 rw[Rt,Dj]at h;obtain⟨i,hi,rfl⟩:=List.mem_iff_getElem.1 hx;have:=h i (List.mem_range.2 hi);simp only[fS,A4,DK,Dp hi,Option.getD_some,C1]at this;exact⟨this.1,this.2.1⟩
def Sb {p:Prog} {gen:Int} {l:List Int} (h:Rt p gen l=true):F6 p l false=true:=by
 have hm:=WQ h;rw[F6,A4,Dj,Cp];refine⟨fun x hx=>?_,?_⟩
 .have h0:l.getD 0 0∈l:=by
   cases l with
   | nil=>cases hx
   | cons y r=>exact List.mem_cons_self ..
  rw[mB,(hm x hx).1,(hm x hx).2,(hm _ h0).2];simp
 .have hq: ∀(i d:Nat) (hd:i+d+1<l.length),l[i]<l[i+d+1]:=fun i d=>by
   induction d with
   | zero=>exact fun hd=>Zy h i hd
   | succ d ih=>exact fun hd=>Int.lt_trans (ih (by omega)) (Zy h (i+d+1) hd)
  have hp:List.Pairwise (· < ·) l:=List.pairwise_iff_getElem.2 fun i j hi hj hij=>by
   obtain⟨d,rfl⟩: ∃d,j=i+d+1:=⟨j - i - 1,by omega⟩
   exact hq i d hj
  exact hp.imp fun h e=>by omega
def jq {p:Prog} {gen:Int} {l:List Int} (h:Rt p gen l=true):l.length<=p.methods.length:=by
 have h1:=Sb h;rw[F6,A4,Cp]at h1;refine QP p.methods.length l h1.2 fun x hx=>?_
 have:=(WQ h x hx).1;simp only[Ba,A4,Cp]at this;omega
def Fi (p:Prog) (gen:Int):Bool:=(BN p).isSome&&mX p gen
def stO (x:Pl×Bool):Int:=if x.2 then(if x.1.ar.isEmpty&&(x.1.fA||x.1.pr.isEmpty)then 3 else if x.1.fA||x.1.prt then 2 else 1)else 4
def eg (p:Prog) (l:List Int):Int:=stO (GQ (Ap p) p l)
end Go.Gl
namespace Go.Gl
open Go.Proofs
def Ga (p:Prog) (gen:Int):List Fact:=(F0 p gen).map fun m=>(B3 p m).fact
def DS (p:Prog) (gen:Int) (tog:List Fact->Bool):List (List Int×Int):=(Gt (O9 tog (Ga p gen)) (F0 p gen).length []).map fun bs=>(Ct (F0 p gen) bs,eg p (Ct (F0 p gen) bs))
structure L4 (p:Prog) (l:List Int):Prop where
 I4: ∀x∈l,Ba p x=true
 gen: ∀x∈l,∀y∈l,(B3 p x).gen=(B3 p y).gen
 nodup:l.Nodup
 many:l.length<=16
def Ib {p:Prog} {l:List Int} {k x:Int} (h:x∈DR p l k):x∈l/\(B3 p x).kind=k:=by
 have:=Kj.1 h;exact⟨this.1,by simpa using this.2⟩
def nk {p:Prog} {l:List Int} {k:Int}:(DR p l k).length<=l.length:=Xv _ _
def L4.of {p:Prog} {l:List Int} (h:L4 p l) (k:Int):T2 p (DR p l k)/\(DR p l k).Nodup:=by
 refine⟨⟨fun x hx=>h.I4 x (Ib hx).1,fun x hx y hy=>?_,Nat.le_trans nk h.many⟩,h.nodup.sublist (List.filter_sublist ..)⟩;rw[Jk,h.gen x (Ib hx).1 y (Ib hy).1,(Ib hx).2,(Ib hy).2];simp
def XV {p:Prog} {l:List Int} {A B:Int->Int->Bool} (h:L4 p l) (hq: ∀x∈l,∀y∈l,Jk p x y=true->A x y=B x y):GQ A p l=GQ B p l:=by
 have hk: ∀k,∀x∈DR p l k,∀y∈DR p l k,A x y=B x y:=fun k x hx y hy=>hq x (Ib hx).1 y (Ib hy).1 ((h.of k).1.alike x hx y hy)
 have hc: ∀k,Cb A (DR p l k).length (DR p l k)=Cb B (DR p l k).length (DR p l k):=fun k=>NI _ _ (hk k)
 have hb: ∀k,FL A (DR p l k).length (I0 (DR p l k))=FL B (DR p l k).length (I0 (DR p l k)):=fun k=>Rb _ _ fun x hx y hy=>hk k x (N2.1 hx) y (N2.1 hy)
 unfold GQ qS;rw[hc 4,hc 1,hb 2,hb 3]
def bo.sub {T:List (List Bool)} {l l':List Int} (h:bo T l) (hs: ∀x∈l',x∈l) (hl:l'.length<=l.length):bo T l':=⟨h.len,h.sq,fun x hx=>h.ins x (hs x hx),Nat.le_trans hl h.many⟩
attribute [local irreducible] Av An Af AQ AL Ac AP AS AK Ab AN AO As A3 Sat AV A0 Ag W
end Go.Gl
