import Derived.Test.YtegbmnmnaijioaaGreatQ6
import Derived.Test.YtegbmnmnaijioaaGreatQ8
import Derived.Test.YtegbmnmnaijioaaGreatQ9
import Derived.Test.YtegbmnmnaijioaaGreatQ10
import Derived.Test.YtegbmnmnaijioaaGreatQ11
import Derived.Test.YtegbmnmnaijioaaGreatQ13
set_option linter.all false
set_option linter.defProp false
set_option maxHeartbeats 8000000
noncomputable section
namespace Go.Gl
open Go.Proofs
def Vn (w:AH):LM->Prop
 | .int n=> -1000000000<=n/\n<=1000000000
 | .LK=>True
 | .obj C kid=>(∃c:Nat,3<=c/\c<3+w.parents.length/\ ∀b,C b=G9 w.parents c b)/\ ∀s,Vn w (kid s)
def UI (w:AH) (t:LM) (c:Nat):Prop:=match t with
 | .int _=>c=1
 | .LK=>c=2
 | .obj C _=>3<=c/\c<3+w.parents.length/\ ∀b,C b=G9 w.parents c b
def iM {w:AH}: ∀t:LM,Vn w t-> ∃c,UI w t c/\1<=c/\c<3+w.parents.length
 | .int _,_=>⟨1,rfl,by omega,by omega⟩
 | .LK,_=>⟨2,rfl,by omega,by omega⟩
 | .obj C kid,⟨⟨c,h1,h2,h3⟩,_⟩=>⟨c,⟨h1,h2,h3⟩,by omega,h2⟩
def V5 (w:AH) (kf:Int->List Int->Kn) (a:Int) (p:List Int) (can:Int->Bool) (c:Nat):Bool:=
 if c=1 then Hs kf a p else if c=2 then Et kf a p else Vq w kf a p ((CJ w.parents).getD c 0) can
def Sg (w:AH) (kf:Int->List Int->Kn) (a:Int):Nat->(Nat->Bool)->List Int->Bool
 | 0,fit,p=>(List.range (3+w.parents.length)).any fun c=>decide (1<=c)&&(fit c&&V5 w kf a p (fun _=>false) c)
 | d+1,fit,p=>(List.range (3+w.parents.length)).any fun c=>decide (1<=c)&&(fit c&&V5 w kf a p (fun s=>Sg w kf a d (fun _=>true) (p++[s])) c)
def XO {w : AH} (hw:KG w) {ls:List Fact} (hl: ∀l∈ls,EC w l) {a:Int} {p:List Int} {can:Int->Bool} (hcan: ∀s∈(kg ls a p).AG,(can s=true↔ ∃t,Vn w t/\TT w ls a (p++[s]) t)) {c:Nat} (h1:1<=c) (h2:c<3+w.parents.length) :
    V5 w (kg ls) a p can c=true↔ ∃t,UI w t c/\Vn w t/\TT w ls a p t:=by
 rw[V5];split
 .rename_i e
  subst e;rw[pU hw hl];constructor
  .rintro⟨m,k1,k2⟩
   exact⟨.int m,rfl,k1,k2⟩
  .rintro⟨t,k0,k1,k2⟩
   cases t with
   | int m=>exact⟨m,k1,k2⟩
   | LK=>cases k0
   | obj C kid=>exact absurd k0.1 (by omega)
 .split
  .rename_i e
   subst e;rw[lG hw hl];constructor
   .intro k
    exact⟨.LK,rfl,trivial,k⟩
   .rintro⟨t,k0,k1,k2⟩
    cases t with
    | int m=>cases k0
    | LK=>exact k2
    | obj C kid=>exact absurd k0.1 (by omega)
  .rename_i e1 e2
   have hb:=fun b=>Wf hw.ord (b:=b) h2
   have h3:3<=c:=by omega
   have u0:((CJ w.parents).getD c 0).testBit 0=true:=by rw[hb];rfl
   have hno: ∀b,b=1\/b=2->((CJ w.parents).getD c 0).testBit b=false:=fun b hbb=>by
    rw[hb,<-Bool.not_eq_true,Fm,DD];rintro(h|h)
    .omega
    .have:=QX hw.ord c b h3 h
     omega
   rw[lE hw hl (OK:=Vn w) trivial u0 (hno 1 (.inl rfl)) (hno 2 (.inr rfl)) hcan]
   have hagree: ∀b,3<=b->((CJ w.parents).getD c 0).testBit b=G9 w.parents c b:=fun b hb3=>by
    rw[hb,beq_eq_false_iff_ne.2 (show b≠0 by omega),Bool.false_or]
   constructor
   .rintro⟨kid,k1,k2⟩
    exact⟨.obj (fun b=>G9 w.parents c b) kid,⟨h3,h2,fun _=>rfl⟩,⟨⟨c,h3,h2,fun _=>rfl⟩,k1⟩,P3 hw hl hagree k2⟩
   .rintro⟨t,k0,k1,k2⟩
    cases t with
    | int m=>exact absurd k0 (by simp only[UI];omega)
    | LK=>exact absurd k0 (by simp only[UI];omega)
    | obj C kid=>
      exact⟨kid,k1.2,P3 hw hl (fun b hb3=>by rw[hagree b hb3,k0.2.2]) k2⟩
def M6 {w:AH} (hw:KG w) {ls:List Fact} (hl: ∀l∈ls,EC w l) (a:Int): ∀(d:Nat) (fit:Nat->Bool) (p:List Int),p.length+d=2->(Sg w (kg ls) a d fit p=true↔ ∃t c,UI w t c/\fit c=true/\Vn w t/\TT w ls a p t):=by
 have key: ∀(fit:Nat->Bool) (p:List Int) (can:Int->Bool),(∀s∈(kg ls a p).AG,(can s=true↔ ∃t,Vn w t/\TT w ls a (p++[s]) t))->(((List.range (3+w.parents.length)).any fun c=>decide (1<=c)&&(fit c&&V5 w (kg ls) a p can c))=true↔ ∃t c,UI w t c/\fit c=true/\Vn w t/\TT w ls a p t):=fun fit p can hcan=>by
  rw[IY];constructor
  .rintro⟨c,h1,h2⟩
   rw[A9,A9,Cc]at h2;obtain⟨t,k0,k1,k2⟩:=(XO hw hl hcan h2.1 (List.mem_range.1 h1)).1 h2.2.2;exact⟨t,c,k0,h2.2.1,k1,k2⟩
  .rintro⟨t,c,k0,k1,k2,k3⟩
   have hc:1<=c/\c<3+w.parents.length:=by
    cases t with
    | int m=>have k0:c=1:=k0;omega
    | LK=>have k0:c=2:=k0;omega
    | obj C kid=>have:=k0.1;have:=k0.2.1;omega
   refine⟨c,List.mem_range.2 hc.2,?_⟩;rw[decide_eq_true hc.1,k1,(XO hw hl hcan hc.1 hc.2).2 ⟨t,k0,k2,k3⟩];rfl
 intro d
 induction d with
 | zero=>
   intro fit p hp;rw[Sg];refine key fit p _ fun s hs=>?_
   obtain⟨l,h1,h2,q,hq⟩:=(Qy hl).1 hs;have:=(hl l h1).short;rw[hq]at this;simp at this;omega
 | succ d ih=>
   intro fit p hp;rw[Sg];refine key fit p _ fun s _=>?_
   rw[ih (fun _=>true) (p++[s]) (by simp;omega)];constructor
   .rintro⟨t,c,_,_,k1,k2⟩
    exact⟨t,k1,k2⟩
   .rintro⟨t,k1,k2⟩
    obtain⟨c,k3,_⟩:=iM t k1;exact⟨t,c,k3,rfl,k1,k2⟩
def Jj (cs:List Int) (a:Int) (c:Nat):Bool:=decide ((cs.length:Int)<=a)||cs.getD a.toNat 0==(c:Int)
def cd (w:AH) (cs:List Int) (ls:List Fact):Bool:=(BV 3).all fun a=>Sg w (kg ls) a 2 (Jj cs a) []
def zx (w:AH) (cs:List Int) (M:Int->LM):Prop:= ∀a,Vn w (M a)/\(0<=a->a<3-> ∃c,UI w (M a) c/\Jj cs a c=true)
def Wl {w:AH} (hw:KG w) {cs:List Int} {ls:List Fact} (hl: ∀l∈ls,EC w l):cd w cs ls=true↔ ∃M:Int->LM,zx w cs M/\ ∀l∈ls,GS w M l:=by
 rw[cd,EB];constructor
 .intro h
  have hk: ∀a:Int,∃t,Vn w t/\(0<=a/\a<3->TT w ls a [] t/\ ∃c,UI w t c/\Jj cs a c=true):=fun a=>by
   rcases Classical.em (0<=a/\a<3)with e|e
   .obtain⟨t,c,k0,k1,k2,k3⟩:=(M6 hw hl a 2 _ [] rfl).1 (h a (C7.2 e))
    exact⟨t,k2,fun _=>⟨k3,c,k0,k1⟩⟩
   .exact⟨.LK,trivial,fun k=>absurd k e⟩
  exact⟨fun a=>Classical.choose (hk a),fun a=>⟨(Classical.choose_spec (hk a)).1,fun h0 h1=>((Classical.choose_spec (hk a)).2 ⟨h0,h1⟩).2⟩,fun l k=>((Classical.choose_spec (hk (Af l).1.arg)).2 (hl l k).arg).1 l k rfl _ rfl⟩
 .rintro⟨M,h1,h2⟩ a ha
  have ha:=C7.1 ha;obtain⟨c,k0,k1⟩:=(h1 a).2 ha.1 (by omega);refine(M6 hw hl a 2 _ [] rfl).2 ⟨M a,c,k0,k1,(h1 a).1,fun l k1 k2 q hq=>?_⟩;have:=h2 l k1;rw[GS,k2]at this;rw[List.nil_append]at hq;rw[<-hq];exact this
def stepOf (w:AH) (c:Int) (x:Fact×Bool):Bool:=(x.1.op==2&&Jm w.parents c x.1.cls)==x.2
def Zu (w:AH) (ls:List Fact) (a:Int) (p:List Int) (can:Int->Bool) (c:Int):Bool:=
 (ls.filter (Fo a p)).all (fun l=> !stepOf w c (Af l))&&(BO w.owner.length ls a p).all fun s=>if hasB w c s then can s else DF ls a (p++[s])
def PL (w:AH) (ls:List Fact) (a:Int):Nat->List Int->Bool
 | 0,p=>((GF ls a p).isSome&&DY w.owner.length ls a p)||(Eu w.owner.length ls a p||(BV w.parents.length).any fun c=>Zu w ls a p (fun _=>false) (3+c))
 | d+1,p=>((GF ls a p).isSome&&DY w.owner.length ls a p)||(Eu w.owner.length ls a p||(BV w.parents.length).any fun c=>Zu w ls a p (fun s=>PL w ls a d (p++[s])) (3+c))
def U5 {w : AH} (hw:KG w) {ls:List Fact} (hl: ∀l∈ls,EC w l) {a:Int} {p:List Int} {can:Int->Bool} (hcan: ∀s∈BO w.owner.length ls a p,(can s=true↔ ∃t,Vn w t/\TT w ls a (p++[s]) t)) {c:Int} (h3:3<=c) (hc:c<3+(w.parents.length:Int)) :
    Zu w ls a p can c=true↔ ∃kid,(∀s,Vn w (kid s))/\TT w ls a p (.obj (fun b=>G9 w.parents c.toNat b) kid):=by
 have hleaf: ∀l∈ls,∀kid,FA (.obj (fun b=>G9 w.parents c.toNat b) kid) (Af l).1=((Af l).1.op==2&&Jm w.parents c (Af l).1.cls):=fun l hm kid=>by
  simp only[FA];by_cases ho:(Af l).1.op=2
  .have hcl:=(hl l hm).cls ho
   rw[DD.2 ho,EA,EA,Jm,decide_eq_true h3,EA];by_cases hz:(Af l).1.cls=0
   .rw[hz];simp
   rw[beq_eq_false_iff_ne.2 hz,Bool.false_or,Bool.false_or];by_cases h3c:3<=(Af l).1.cls
   .rw[decide_eq_true h3c,EA]
    by_cases he:c=(Af l).1.cls
    .rw[<-he,F4 hw.ord];simp
    .rw[beq_eq_false_iff_ne.2 he,Bool.false_or]
   .rw[decide_eq_false h3c,Bool.false_and,beq_eq_false_iff_ne.2 (show c≠(Af l).1.cls by omega),Bool.false_or]
    cases hb:G9 w.parents c.toNat (Af l).1.cls.toNat
    .rfl
    .have:=QX hw.ord _ _ (by omega) hb
     omega
  .rw[beq_eq_false_iff_ne.2 ho];rfl
 have hhas: ∀s,0<=s/\s<(w.owner.length:Int)->hasB w c s=G9 w.parents c.toNat (B4 w s).toNat:=fun s hs=>by
  have ho:=Qa hw hs;rw[hasB,Jm,decide_eq_true h3,EA,beq_eq_false_iff_ne.2 (show B4 w s≠0 by omega),Bool.false_or,EA];by_cases he:c=B4 w s
  .rw[<-he,F4 hw.ord];simp
  .rw[beq_eq_false_iff_ne.2 he,Bool.false_or]
 have hstep: ∀l∈ls,∀kid,(!stepOf w c (Af l))=true↔FA (.obj (fun b=>G9 w.parents c.toNat b) kid) (Af l).1= !(Af l).2:=fun l hm kid=>by
  rw[hleaf l hm kid,stepOf];cases((Af l).1.op==2&&Jm w.parents c (Af l).1.cls)<;>cases(Af l).2<;>decide
 rw[Zu,A9,EB,EB];constructor
 .rintro⟨h1,h2⟩
  have hk: ∀s,∃t,Vn w t/\(s∈BO w.owner.length ls a p->hasB w c s=true->TT w ls a (p++[s]) t):=fun s=>by
   rcases Classical.em (s∈BO w.owner.length ls a p/\hasB w c s=true)with⟨e1,e2⟩|e
   .have:=h2 s e1
    rw[if_pos e2]at this;obtain⟨t,q1,q2⟩:=(hcan s e1).1 this;exact⟨t,q1,fun _ _=>q2⟩
   .exact⟨.LK,trivial,fun e1 e2=>absurd ⟨e1,e2⟩ e⟩
  refine⟨fun s=>Classical.choose (hk s),fun s=>(Classical.choose_spec (hk s)).1,fun l k1 k2 q hq=>?_⟩;cases q with
  | nil=>
    rw[GA]at hq;exact(hstep l k1 _).1 (h1 l (JX.2 ⟨k1,Fq.2 ⟨k2,hq⟩⟩))
  | cons s r=>
    have hs:s∈BO w.owner.length ls a p:=(Kg hl).2 ⟨l,k1,k2,r,hq⟩;have hin:=Fc hs;rw[Oe,<-hhas s hin];have hsp:=(Classical.choose_spec (hk s)).2;generalize Classical.choose (hk s)=t at hsp ⊢;cases hu:hasB w c s
    .have:=h2 s hs
     rw[hu,if_neg (by decide)]at this;rw[F8.1 this l k1 k2 r (by rw[hq];simp)];rfl
    .rw[EA]
     exact hsp hs hu l k1 k2 r (by rw[hq];simp)
 .rintro⟨kid,hkid,hT⟩
  refine⟨fun l hm=>?_,fun s hs=>?_⟩
  .obtain⟨k1,k2⟩:=JX.1 hm
   obtain⟨k3,k4⟩:=Fq.1 k2;exact(hstep l k1 kid).2 (hT l k1 k3 [] (by rw[k4];simp))
  .have hin:=Fc hs
   cases hu:hasB w c s
   .rw[if_neg (by decide)]
    refine F8.2 fun l k1 k2 q hq=>?_
    have:=hT l k1 k2 (s::q) (by rw[hq];simp);rw[Oe,<-hhas s hin,hu,Bool.false_and]at this;simpa using this.symm
   .rw[if_pos rfl]
    refine(hcan s hs).2 ⟨kid s,hkid s,fun l k1 k2 q hq=>?_⟩;have:=hT l k1 k2 (s::q) (by rw[hq];simp)
    rwa [Oe,<-hhas s hin,hu,EA]at this
def XS {w:AH} (hw:KG w) {ls:List Fact} (hl: ∀l∈ls,EC w l) (a:Int): ∀(d:Nat) (p:List Int),p.length+d=2->(PL w ls a d p=true↔ ∃t,Vn w t/\TT w ls a p t):=by
 have key: ∀(p:List Int) (can:Int->Bool),(∀s∈BO w.owner.length ls a p,(can s=true↔ ∃t,Vn w t/\TT w ls a (p++[s]) t))->((((GF ls a p).isSome&&DY w.owner.length ls a p)||(Eu w.owner.length ls a p||(BV w.parents.length).any fun c=>Zu w ls a p can (3+c)))=true↔ ∃t,Vn w t/\TT w ls a p t):=fun p can hcan=>by
  rw[Fm,Fm,My hl,Ki hl,IY];constructor
  .rintro(⟨m,h1,h2⟩|h|⟨c,h1,h2⟩)
   .exact⟨.int m,h1,h2⟩
   .exact⟨.LK,trivial,h⟩
   .have:=C7.1 h1
    obtain⟨kid,k1,k2⟩:=(U5 hw hl hcan (by omega) (by omega)).1 h2;exact⟨.obj (fun b=>G9 w.parents (3+c).toNat b) kid,⟨⟨(3+c).toNat,by omega,by omega,fun _=>rfl⟩,k1⟩,k2⟩
  .rintro⟨t,h1,h2⟩
   cases t with
   | int m=>exact .inl ⟨m,h1,h2⟩
   | LK=>exact .inr (.inl h2)
   | obj C kid=>
     obtain⟨⟨c,k1,k2,k3⟩,k4⟩:=h1;refine .inr (.inr ⟨(c:Int) - 3,C7.2 (by omega),(U5 hw hl hcan (by omega) (by omega)).2 ⟨kid,k4,?_⟩⟩);rw[show(3+((c:Int) - 3)).toNat=c by omega];exact P3 hw hl (fun b _=>k3 b) h2
 intro d
 induction d with
 | zero=>
   intro p hp;rw[PL];refine key p _ fun s hs=>?_
   rw[II (m:=2) (fun l h=>(hl l h).short) (by omega)]at hs;cases hs
 | succ d ih=>
   intro p hp;rw[PL];exact key p _ fun s _=>ih (p++[s]) (by simp;omega)
def cb (w:AH) (ls:List Fact) (cs:List Int) (a:Int):Bool:=
 if(cs.length:Int)<=a\/cs.getD a.toNat 0=0 then PL w ls a 2 []else if cs.getD a.toNat 0=1 then(GF ls a []).isSome&&DY w.owner.length ls a []else if cs.getD a.toNat 0=2 then Eu w.owner.length ls a []else Zu w ls a [] (fun s=>PL w ls a 1 [s]) (cs.getD a.toNat 0)
def SZ (w:AH) (cs:List Int) (ls:List Fact):Bool:=(BV 3).all (cb w ls cs)
def Wk {w : AH} (hw:KG w) {ls:List Fact} (hl: ∀l∈ls,EC w l) {cs:List Int} (hcs: ∀c∈cs,1<=c/\c<3+(w.parents.length:Int)) {a:Int} (h0:0<=a):cb w ls cs a=true↔ ∃t c,UI w t c/\Jj cs a c=true/\Vn w t/\TT w ls a [] t:=by
 rw[cb];by_cases hle:(cs.length:Int)<=a
 .rw[if_pos (.inl hle),XS hw hl a 2 [] rfl]
  have hf: ∀c,Jj cs a c=true:=fun c=>by rw[Jj,decide_eq_true hle];rfl
  constructor
  .rintro⟨t,k1,k2⟩
   obtain⟨c,k3,_⟩:=iM t k1;exact⟨t,c,k3,hf c,k1,k2⟩
  .rintro⟨t,c,_,_,k1,k2⟩
   exact⟨t,k1,k2⟩
 .obtain ⟨x,hx⟩: ∃x,cs[a.toNat]? =some x:=⟨_,Cr (by omega)⟩
  have hxd:cs.getD a.toNat 0=x:=by rw[C4,hx];rfl
  have hxc:=hcs x (Bo hx);have hf: ∀c:Nat,Jj cs a c=true↔x=(c:Int):=fun c=>by rw[Jj,decide_eq_false hle,Bool.false_or,hxd,DD]
  rw[hxd,if_neg (by omega)];by_cases h1:x=1
  .rw[if_pos h1,My hl]
   constructor
   .rintro⟨m,k1,k2⟩
    exact⟨.int m,1,rfl,(hf 1).2 h1,k1,k2⟩
   .rintro⟨t,c,k0,k1,k2,k3⟩
    have:=(hf c).1 k1;cases t with
    | int m=>exact⟨m,k2,k3⟩
    | LK=>have k0:c=2:=k0;omega
    | obj C kid=>have:=k0.1;omega
  .rw [if_neg h1]
   by_cases h2:x=2
   .rw[if_pos h2,Ki hl]
    constructor
    .intro k
     exact⟨.LK,2,rfl,(hf 2).2 h2,trivial,k⟩
    .rintro⟨t,c,k0,k1,k2,k3⟩
     have:=(hf c).1 k1;cases t with
     | int m=>have k0:c=1:=k0;omega
     | LK=>exact k3
     | obj C kid=>have:=k0.1;omega
   .rw [if_neg h2,U5 hw hl (fun s _=>XS hw hl a 1 [s] rfl) (by omega) (by omega)]
    constructor
    .rintro⟨kid,k1,k2⟩
     exact⟨.obj (fun b=>G9 w.parents x.toNat b) kid,x.toNat,⟨by omega,by omega,fun _=>rfl⟩,(hf _).2 (by omega),⟨⟨x.toNat,by omega,by omega,fun _=>rfl⟩,k1⟩,k2⟩
    .rintro⟨t,c,k0,k1,k2,k3⟩
     have:=(hf c).1 k1;cases t with
     | int m=>have k0:c=1:=k0;omega
     | LK=>have k0:c=2:=k0;omega
     | obj C kid=>
       refine⟨kid,k2.2,P3 hw hl (fun b _=>?_) k3⟩;rw[k0.2.2,show x.toNat=c by omega]
def tK {w:AH} (hw:KG w) {cs:List Int} (hcs: ∀c∈cs,1<=c/\c<3+(w.parents.length:Int)) {ls:List Fact} (hl: ∀l∈ls,EC w l):cd w cs ls=SZ w cs ls:=by
 rw[cd,SZ,IZ,EB,EB];constructor
 .intro h a ha
  exact(Wk hw hl hcs (C7.1 ha).1).2 ((M6 hw hl a 2 _ [] rfl).1 (h a ha))
 .intro h a ha
  exact(M6 hw hl a 2 _ [] rfl).2 ((Wk hw hl hcs (C7.1 ha).1).1 (h a ha))
end Go.Gl
namespace Go.Gl
open Go.Proofs
attribute [local irreducible] Au Am Ab AR AK AY AQ AS AJ AX AN AP Ao Az Sat AU Ax Ad W
def rX (w : AH) (ls:List Fact) (a:Int) (p:List Int) (c:Int) (can:Int->Bool) (hokL: ∀l∈ls,Ew l) (hln:ls.length<=1000000) (hw:KG w) (hcl:MJ w ls) (hc3:3<=c) (hcn:c<3+(w.parents.length:Int)) (hp:p.length<50)
    (hcan: ∀s∈BO w.owner.length ls a p,Pure zP 351 [.a (FB w ls a (p++[s]) true)] (.b (can s))):Pure zP 359 [.a (FB w ls a p true),eI c] (.b (Zu w ls a p can c)):=by
 refine Pure.fit (by kernel_rfl) fun hf=>?_
 have⟨h1,h2,h3,h4⟩:=F5 hf.1;have hM:=Mx;have hwl:=hw.len;have c1:=Z2 w ls a p true hokL hln;have c2:=Qp w ls a p true hokL (by omega);have hfl:=Oc (Fo a p) ls
 have hfl2:(BO w.owner.length ls a p).length<=w.owner.length:=by
  have:=Oc (fun s=>ls.any (YM a p s)) (BV w.owner.length);rw[DQ]at this;exact this
 have hok: ∀l∈ls.filter (Fo a p),Ew l:=fun l hl=>hokL l (JX.1 hl).1
 have hclo: ∀l∈ls.filter (Fo a p),(Af l).1.op=2->0<=(Af l).1.cls/\(Af l).1.cls<3+w.parents.length:=fun l hl=>hcl l (JX.1 hl).1
 have hV:Zu w ls a p can c=((ls.filter (Fo a p)).all (fun l=> !stepOf w c (Af l))&&(BO w.owner.length ls a p).all fun s=>if hasB w c s then can s else DF ls a (p++[s])):=rfl;generalize Zu w ls a p can c=R at *;generalize ls.filter (Fo a p)=os at *;have hin: ∀s∈BO w.owner.length ls a p,0<=s/\s<(w.owner.length:Int):=fun s h=>Fc h
 generalize BO w.owner.length ls a p=sl at *;refine vH kZ ?_;have hs:=Sn
 conv=>whnf
 repeat'((first|clear U K|apply st|(apply zk;intro K U)|refine zY ?_|refine zC ?_|fail)<;>conv=>whnf)
 refine Bw os.length (fun k (_:Unit)=>[(16,eI (A6 k))]) (fun _ _=>[]) (fun k _=>R=((os.drop k).all (fun l=> !stepOf w c (Af l))&&sl.all fun s=>if hasB w c s then can s else DF ls a (p++[s]))) () rfl hV (hs.less (JW _)) ?_;clear hs hV;rintro k - Z hk hn hs;rcases A7 os hk with⟨x,hx,hlt⟩|hke
 .rw [drop_cons hx,KE]at hn
  have c3:=Gq x (hok x (Bo hx));have hcx:=hclo x (Bo hx);generalize Af x=y at *;obtain⟨f,b⟩:=y;dsimp only at c3 hcx hn;by_cases h2:f.op=2
  .have c4:=XW w c f.cls (by omega) hw.ord (by omega) hcn (hcx h2).1 (hcx h2).2
   have e:stepOf w c (f,b)=(Jm w.parents c f.cls==b):=by
    show((f.op==2&&Jm w.parents c f.cls)==b)=_;rw[DD.2 h2,EA]
   rw[e]at hn;clear e;cases hB:Jm w.parents c f.cls<;>cases b<;>rw[hB]at c4 hn
   all_goals
    conv=>whnf
    repeat'((first|clear U K|apply st|(apply zk;intro K U)|refine zY ?_|refine zs fun Z hs=>?_|refine zC ?_|(refine zb (fun hc=>?_) (fun hc=>?_)<;>try exact⟨⟩)|refine zo fun nn hnn Z hs=>?_|fail)<;>conv=>whnf)
    all_goals try(exfalso;simp[h2]at hc;done)
    all_goals first
     | exact AF (by rw[hn];rfl)
     | exact⟨hlt,(),rfl,by rw[hn];rfl,hs.less (JW _)⟩
  .have e:stepOf w c (f,b)=(false==b):=by
    show((f.op==2&&Jm w.parents c f.cls)==b)=_;rw[beq_eq_false_iff_ne.2 h2,Bool.false_and]
   rw[e]at hn;clear e;cases b
   all_goals
    conv=>whnf
    repeat'((first|clear U K|apply st|(apply zk;intro K U)|refine zY ?_|refine zs fun Z hs=>?_|refine zC ?_|(refine zb (fun hc=>?_) (fun hc=>?_)<;>try exact⟨⟩)|refine zo fun nn hnn Z hs=>?_|fail)<;>conv=>whnf)
    all_goals try(exfalso;simp[h2]at hc;done)
    all_goals first
     | exact AF (by rw[hn];rfl)
     | exact⟨hlt,(),rfl,by rw[hn];rfl,hs.less (JW _)⟩
 .rw [Ai hke,List.all_nil,EA]at hn
  conv=>whnf
  repeat'((first|clear U K|apply st|(apply zk;intro K U)|refine zY ?_|refine zC ?_|fail)<;>conv=>whnf)
  clear hke hk;refine Bw sl.length (fun k (_:Unit)=>[(43,eI (A6 k))]) (fun _ _=>[]) (fun k _=>R=(sl.drop k).all fun s=>if hasB w c s then can s else DF ls a (p++[s])) () rfl hn hs ?_;clear hs hn;rintro k - Z hk hn hs;rcases A7 sl hk with⟨s,hsk,hlt⟩|hke
  .rw [drop_cons hsk,KE]at hn
   have hsm:=Bo hsk;have hi:=hin s hsm;have c5:=Io w ls a p true s (by omega);have c6:=iy w c s hw (by omega) hcn hi.1 hi.2;have c7:=hcan s hsm;have c8:=VQ w ls a (p++[s]) true hokL;cases hA:hasB w c s<;>rw[hA]at c6 hn
   .rw [if_neg (by decide)]at hn
    cases hB:DF ls a (p++[s])<;>rw[hB]at c8 hn
    all_goals
     conv=>whnf
     repeat'((first|clear U K|apply st|(apply zk;intro K U)|refine zY ?_|refine zs fun Z hs=>?_|refine c5.use ?_|refine c6.use ?_|refine c8.use ?_|refine zo fun nn hnn Z hs=>?_|fail)<;>conv=>whnf)
     all_goals first
      | exact AF (by rw[hn];rfl)
      | exact⟨hlt,(),rfl,by rw[hn];rfl,hs.less (JW _)⟩
   .rw [if_pos rfl]at hn
    cases hB:can s<;>rw[hB]at c7 hn
    all_goals
     conv=>whnf
     repeat'((first|clear U K|apply st|(apply zk;intro K U)|refine zY ?_|refine zs fun Z hs=>?_|refine c5.use ?_|refine c6.use ?_|refine c7.use ?_|refine zo fun nn hnn Z hs=>?_|fail)<;>conv=>whnf)
     all_goals first
      | exact AF (by rw[hn];rfl)
      | exact⟨hlt,(),rfl,by rw[hn];rfl,hs.less (JW _)⟩
  .rw[Ai hke]at hn
   refine zz ?_;(repeat clear U K);repeat intro K U
   all_goals exact AF (by rw[hn];rfl)
def Qq {n k:Nat} (h:k<n):(BV n)[k]? =some (k:Int):=by
 rw[BV,Je,List.getElem?_range h];rfl
def Tz (w : AH) (ls:List Fact) (a:Int) (p:List Int) (can:Int->Bool) (hokL: ∀l∈ls,Ew l) (hln:ls.length<=1000000) (hw:KG w) (hcl:MJ w ls) (hsm:HV ls) (hp:p.length<40)
    (hcan: ∀s∈BO w.owner.length ls a p,Pure zP 351 [.a (FB w ls a (p++[s]) true)] (.b (can s))):Pure zP 351 [.a (FB w ls a p true)] (.b (((GF ls a p).isSome&&DY w.owner.length ls a p)||(Eu w.owner.length ls a p||(BV w.parents.length).any fun c=>Zu w ls a p can (3+c)))):=by
 have hM:=Mx;have hwl:=hw.len;have c1:=I3 w ls a p true hokL hln (by omega) hsm;rw[Po]at c1;have c2:=Pj w ls a p true hokL hln (by omega);have hO:=fun c h3 hn=>rX w ls a p c can hokL hln hw hcl h3 hn (by omega) hcan
 have e2:((EK w.parents).length:Int)=w.parents.length:=by simp
 cases hA:(GF ls a p).isSome&&DY w.owner.length ls a p<;>cases hB:Eu w.owner.length ls a p<;>rw[hA]at c1<;>rw[hB]at c2
 rotate_left
 .refine Ny kZ ?_
  have hs:=Sn;exact zW
 .refine Ny kZ ?_
  have hs:=Sn;exact zW
 .refine Ny kZ ?_
  have hs:=Sn;exact zW
 .rw [Bool.false_or,Bool.false_or]
  generalize hR:((BV w.parents.length).any fun c=>Zu w ls a p can (3+c))=R;refine Ny kZ ?_;have hs:=Sn
  conv=>whnf
  repeat'((first|clear U K|apply st|(apply zk;intro K U)|refine zY ?_|refine zC ?_|fail)<;>conv=>whnf)
  refine Bw w.parents.length (fun k (_:Unit)=>[(24,eI (A6 k))]) (fun _ _=>[]) (fun k _=>R=((BV w.parents.length).drop k).any fun c=>Zu w ls a p can (3+c)) () rfl hR.symm (hs.less (JW _)) ?_;clear hs hR;rintro k - Z hk hn hs;have hck:A6 k=k:=Ae (by omega);by_cases hlt:k<w.parents.length
  .rw [drop_cons (Qq hlt),PV]at hn
   have c3:=hO (3+(k:Int)) (by omega) (by omega);have hw3:IntKind.i64.wrap (3+A6 k)=3+(k:Int):=by rw[hck,wrap64 (by omega) (by omega)]
   rw[<-hw3]at c3;generalize hO':Zu w ls a p can (3+(k:Int))=B at *;rw[hw3,hO']at c3;rw[<-hw3]at c3;cases B
   all_goals
    conv=>whnf
    repeat'((first|clear U K|apply st|(apply zk;intro K U)|refine zY ?_|(refine fc (fun x hx hlt hc=>?_) (fun hk hc=>?_)<;>(try rw[hc])<;>clear hc)|refine zC ?_|fail)<;>conv=>whnf)
    all_goals try(exfalso;omega)
    all_goals first
     | exact AF (by rw[hn];rfl)
     | exact⟨hlt,(),rfl,by rw[hn];rfl,hs.less (JW _)⟩
  .rw[List.drop_of_length_le (by rw[DQ];omega)]at hn
   conv=>whnf
   repeat'((first|clear U K|apply st|(apply zk;intro K U)|refine zY ?_|(refine fc (fun x hx hlt hc=>?_) (fun hk hc=>?_)<;>(try rw[hc])<;>clear hc)|fail)<;>conv=>whnf)
   all_goals try(exfalso;omega)
   all_goals exact AF (by rw[hn];rfl)
def b6 (w:AH) (ls:List Fact) (a:Int) (hokL: ∀l∈ls,Ew l) (hln:ls.length<=1000000) (hw:KG w) (hcl:MJ w ls) (hsm:HV ls) (hsh:Nl ls 2): ∀(d:Nat) (p:List Int),p.length+d=2->Pure zP 351 [.a (FB w ls a p true)] (.b (PL w ls a d p)):=by
 intro d
 induction d with
 | zero=>
   intro p hp;rw[PL];exact Tz w ls a p _ hokL hln hw hcl hsm (by omega) (by rw[II hsh (by omega)];intro s hs;cases hs)
 | succ d ih=>
   intro p hp;rw[PL];exact Tz w ls a p _ hokL hln hw hcl hsm (by omega) fun s _=>ih (p++[s]) (by simp;omega)
def ny (w : AH) (ls:List Fact) (cs:List Int) (g:Bool) (hokL: ∀l∈ls,Ew l) (hln:ls.length<=1000000) (hw:KG w) (hcl:MJ w ls) (hsm:HV ls) (hsh:Nl ls 2) (hcs: ∀c∈cs,1<=c/\c<3+(w.parents.length:Int)) (hc3:cs.length<=3) :
    Pure zP 334 [.a (A0 w),.l (facts ls) false,.l (iL cs) g] (.b (SZ w cs ls)):=by
 have hM:=Mx;have hT:SZ w cs ls=(BV 3).all (cb w ls cs):=rfl;generalize SZ w cs ls=R at *;refine vV kZ ?_;have hs:=Sn;refine zz ?_;(repeat clear U K);repeat intro K U
 refine Bw 3 (fun k (_:Unit)=>[(7,eI (k:Int))]) (fun _ _=>[]) (fun k _=>R=((BV 3).drop k).all (cb w ls cs)) () rfl hT hs ?_;clear hs;rintro k - Z hk hn hs;rcases Nat.lt_or_ge k 3 with hlt|hge
 .rw [drop_cons (Qq hlt),KE]at hn
  have hwk:IntKind.i64.wrap ((k:Int)+1)=((k+1:Nat):Int):=by rw[wrap64 (by omega) (by omega)];omega
  have d1:=fun(_:Nat)=>b6 w ls (k:Int) hokL hln hw hcl hsm hsh 2 [] rfl
  have d2:=I3 w ls (k:Int) [] true hokL hln (by simp) hsm;rw[Po]at d2;have d3:=Pj w ls (k:Int) [] true hokL hln (by simp);rw[cb]at hn;by_cases hle:(cs.length:Int)<=(k:Int)
  .rw [if_pos (.inl hle)]at hn
   generalize PL w ls (k:Int) 2 []=B at *;cases B
   all_goals
    conv=>whnf
    repeat'((first|clear U K|apply st|(apply zk;intro K U)|refine zY ?_|refine zs fun Z hs=>?_|refine Pure.L7 (d1 k) (.cons (.a (.cons (.refl _) (.cons (.refl _) (.cons (.refl _) (.cons (.refl _) (.cons FE (.cons (.refl _) .nil))))))) .nil) rfl ?_|(refine zb (fun hc=>?_) (fun hc=>?_)<;>try exact⟨⟩)|refine zo fun nn hnn Z hs=>?_|fail)<;>conv=>whnf)
    all_goals try(exfalso;simp at hc;omega)
    all_goals first
     | exact AF (by rw[hn];rfl)
     | exact⟨hlt,(),by rw[hwk];rfl,by rw[hn];rfl,hs.less (JW _)⟩
  .obtain ⟨x,hx⟩: ∃x,cs[k]? =some x:=⟨_,Cr (by omega)⟩
   have hx2:cs[((k:Nat):Int).toNat]? =some x:=by rw[GB];exact hx
   have hxd:cs.getD ((k:Nat):Int).toNat 0=x:=by rw[GB,C4,hx];rfl
   have hxc:=hcs x (Bo hx);rw[hxd,if_neg (by omega)]at hn;have d4:=fun h3=>rX w ls (k:Int) [] x (fun s=>PL w ls (k:Int) 1 [s]) hokL hln hw hcl h3 hxc.2 (by simp) fun s _=>b6 w ls (k:Int) hokL hln hw hcl hsm hsh 1 [s] rfl
   by_cases h1:x=1
   .rw [if_pos h1]at hn
    generalize ((GF ls (k:Int) []).isSome&&DY w.owner.length ls (k:Int) [])=B at *;cases B
    all_goals
     conv=>whnf
     repeat'((first|clear U K|apply st|(apply zk;intro K U)|refine zY ?_|refine zs fun Z hs=>?_|refine Pure.L7 d2 (.cons (.a (.cons (.refl _) (.cons (.refl _) (.cons (.refl _) (.cons (.refl _) (.cons FE (.cons (.refl _) .nil))))))) .nil) rfl ?_|(refine zb (fun hc=>?_) (fun hc=>?_)<;>try exact⟨⟩)|refine zo fun nn hnn Z hs=>?_|fail)<;>conv=>whnf)
     all_goals try(exfalso;simp at hc;omega)
     all_goals first
      | exact AF (by rw[hn];rfl)
      | exact⟨hlt,(),by rw[hwk];rfl,by rw[hn];rfl,hs.less (JW _)⟩
   .rw [if_neg h1]at hn
    by_cases h2:x=2
    .rw [if_pos h2]at hn
     generalize Eu w.owner.length ls (k:Int) []=B at *;cases B
     all_goals
      conv=>whnf
      repeat'((first|clear U K|apply st|(apply zk;intro K U)|refine zY ?_|refine zs fun Z hs=>?_|refine Pure.L7 d3 (.cons (.a (.cons (.refl _) (.cons (.refl _) (.cons (.refl _) (.cons (.refl _) (.cons FE (.cons (.refl _) .nil))))))) .nil) rfl ?_|(refine zb (fun hc=>?_) (fun hc=>?_)<;>try exact⟨⟩)|refine zo fun nn hnn Z hs=>?_|fail)<;>conv=>whnf)
      all_goals try(exfalso;simp at hc;omega)
      all_goals first
       | exact AF (by rw[hn];rfl)
       | exact⟨hlt,(),by rw[hwk];rfl,by rw[hn];rfl,hs.less (JW _)⟩
    .rw [if_neg h2]at hn
     replace d4:=d4 (by omega);generalize Zu w ls (k:Int) [] (fun s=>PL w ls (k:Int) 1 [s]) x=B at *;cases B
     all_goals
      conv=>whnf
      repeat'((first|clear U K|apply st|(apply zk;intro K U)|refine zY ?_|refine zs fun Z hs=>?_|refine Pure.L7 d4 (.cons (.a (.cons (.refl _) (.cons (.refl _) (.cons (.refl _) (.cons (.refl _) (.cons FE (.cons (.refl _) .nil))))))) (.cons (.refl _) .nil)) rfl ?_|(refine zb (fun hc=>?_) (fun hc=>?_)<;>try exact⟨⟩)|refine zo fun nn hnn Z hs=>?_|fail)<;>conv=>whnf)
      all_goals try(exfalso;simp at hc;omega)
      all_goals first
       | exact AF (by rw[hn];rfl)
       | exact⟨hlt,(),by rw[hwk];rfl,by rw[hn];rfl,hs.less (JW _)⟩
 .rw[List.drop_of_length_le (by rw[DQ];omega)]at hn
  conv=>whnf
  repeat'((first|clear U K|apply st|(apply zk;intro K U)|refine zY ?_|(refine zb (fun hc=>?_) (fun hc=>?_)<;>try exact⟨⟩)|fail)<;>conv=>whnf)
  all_goals try(exfalso;omega)
  all_goals exact AF (by rw[hn];rfl)
end Go.Gl
namespace Go.Gl
open Go.Proofs
def WG (A B:List (List Fact)):List (List Fact):=A.flatMap fun x=>B.map fun y=>x++y
def QP (f:Fact) (l:List (Bool->List (List Fact))) (c:Bool):List (List Fact):=
 if f.op=1 then(if c then []else [[]])else
 if f.op=5 then(l.getD 0 (fun _=>[])) (!c)else
 if f.op=6\/f.op=7 then(if c != (f.op==7)then l.getD 0 (fun _=>[]) c++l.getD 1 (fun _=>[]) c else WG (l.getD 0 (fun _=>[]) c) (l.getD 1 (fun _=>[]) c))else
 if c then [[EV f]]else [[f]]
def CZ (f:Fact):Bool->List (List Fact):=f.Hu QP
def Kr (f:Fact) (c:Bool):CZ f c=QP f (f.kids.map CZ) c:=congrFun (Fact.Ds QP f) c
def Ff {A B:List (List Fact)} {l:List Fact}:l∈WG A B↔ ∃x∈A,∃y∈B,l=x++y:=by
 simp only[WG,List.mem_flatMap,IX];constructor
 .rintro⟨x,hx,y,hy,rfl⟩
  exact⟨x,hx,y,hy,rfl⟩
 .rintro⟨x,hx,y,hy,rfl⟩
  exact⟨x,hx,y,hy,rfl⟩
def PB {w:AH} (f:Fact):Bb w f=true-> ∀c,∀l∈CZ f c,∀x∈l,Dj w x:=by
 induction f using Fact.ind with
 | h f ih=>
   intro h c;have har:=Bl f h;have h':=h;rw[CM,A9,EB]at h';rw[Kr,QP];by_cases h1:f.op=1
   .rw[if_pos h1]
    cases c
    .rw[if_neg (by decide)]
     intro l hl x hx;simp at hl;subst hl;cases hx
    .rw[if_pos rfl]
     intro l hl;cases hl
   rw[if_neg h1];by_cases h5:f.op=5
   .obtain⟨a,ha,hb⟩:=FH har h5
    rw[if_pos h5,ha];exact ih a (by rw[ha];exact .head _) (h'.2 a (by rw[ha];exact .head _)) (!c)
   rw[if_neg h5];by_cases h6:f.op=6\/f.op=7
   .obtain⟨a,b,ha,hb1,hb2⟩:=FG har h6
    rw[if_pos h6,ha];have i1:=ih a (by rw[ha];exact .head _) (h'.2 a (by rw[ha];exact .head _)) c;have j1:=ih b (by rw[ha];exact .tail _ (.head _)) (h'.2 b (by rw[ha];exact .tail _ (.head _))) c;simp only[E3,List.map_nil,List.getD_cons_zero,List.getD_cons_succ];split
    .intro l hl
     rcases Du.1 hl with hl|hl
     .exact i1 l hl
     .exact j1 l hl
    .intro l hl x hx
     obtain⟨y,hy,z,hz,rfl⟩:=Ff.1 hl;rcases Du.1 hx with h|h
     .exact i1 y hy x h
     .exact j1 z hz x h
   .have hr:=C3 f h c
    rw[Ey,Ek,if_neg h1,if_neg h5,if_neg h6]at hr;rw[if_neg h6];exact hr
def SA (f:Fact):arity f=true-> ∀c,∀l∈CZ f c,l.length<=lv f:=by
 induction f using Fact.ind with
 | h f ih=>
   intro h c;rw[Kr,Jq,QP,YJ];by_cases h1:f.op=1
   .have e5: ¬f.op=5:=by omega
    have e6: ¬(f.op=6\/f.op=7):=by omega
    rw[if_pos h1,if_neg e5,if_neg e6];cases c
    .rw[if_neg (by decide)]
     exact fun l hl=>by simp at hl;subst hl;simp
    .rw[if_pos rfl]
     exact fun l hl=>by cases hl
   rw[if_neg h1];by_cases h5:f.op=5
   .obtain⟨a,ha,hb⟩:=FH h h5
    rw[if_pos h5,if_pos h5,ha];exact ih a (by rw[ha];exact .head _) hb (!c)
   rw[if_neg h5,if_neg h5];by_cases h6:f.op=6\/f.op=7
   .obtain⟨a,b,ha,hb1,hb2⟩:=FG h h6
    rw[if_pos h6,if_pos h6,ha];simp only[E3,List.map_nil,List.getD_cons_zero,List.getD_cons_succ];have i2:=ih a (by rw[ha];exact .head _) hb1 c;have j2:=ih b (by rw[ha];exact .tail _ (.head _)) hb2 c;split
    .intro l hl
     rcases Du.1 hl with hl|hl
     .have:=i2 l hl;omega
     .have:=j2 l hl;omega
    .intro l hl
     obtain⟨x,hx,y,hy,rfl⟩:=Ff.1 hl;have:=i2 x hx;have:=j2 y hy;rw[NW];omega
   .rw[if_neg h6,if_neg h6]
    cases c
    .exact fun l hl=>by simp at hl;subst hl;simp
    .exact fun l hl=>by simp at hl;subst hl;simp
def SB {w : AH} {M:Int->LM} (f:Fact):Bb w f=true-> ∀c,(∃l∈CZ f c,∀x∈l,GS w M x)↔UF w M f= !c:=by
 induction f using Fact.ind with
 | h f ih=>
   intro h c;have har:=Bl f h;have h':=h;rw[CM,A9,EB]at h';have hF:=Ex (M:=M) f h c;rw[Ey,Ek]at hF;rw[Kr,QP];by_cases h1:f.op=1
   .rw[if_pos h1]at hF ⊢
    exact hF
   rw[if_neg h1]at hF ⊢;by_cases h5:f.op=5
   .obtain⟨a,ha,hb⟩:=FH har h5
    have i1:=ih a (by rw[ha];exact .head _) (h'.2 a (by rw[ha];exact .head _)) (!c);have k1:=Ex (M:=M) a (h'.2 a (by rw[ha];exact .head _)) (!c);rw[if_pos h5,ha]at hF ⊢;exact(i1.trans k1.symm).trans hF
   rw[if_neg h5]at hF ⊢;by_cases h6:f.op=6\/f.op=7
   .obtain⟨a,b,ha,hb1,hb2⟩:=FG har h6
    have hna:=h'.2 a (by rw[ha];exact .head _);have hnb:=h'.2 b (by rw[ha];exact .tail _ (.head _));have i1:=(ih a (by rw[ha];exact .head _) hna c).trans (Ex (M:=M) a hna c).symm;have j1:=(ih b (by rw[ha];exact .tail _ (.head _)) hnb c).trans (Ex (M:=M) b hnb c).symm;rw[if_pos h6,ha]at hF ⊢;simp only[E3,List.map_nil,List.getD_cons_zero,List.getD_cons_succ]at hF ⊢;refine Iff.trans ?_ hF;split
    .constructor
     .rintro⟨l,hl,hx⟩
      rcases Du.1 hl with hl|hl
      .obtain⟨m,h1,h2⟩:=i1.1 ⟨l,hl,hx⟩
       exact⟨m,PW _ h1,h2⟩
      .obtain⟨m,h1,h2⟩:=j1.1 ⟨l,hl,hx⟩
       exact⟨m,Od _ h1,h2⟩
     .rintro⟨l,hl,hx⟩
      rcases Du.1 hl with hl|hl
      .obtain⟨m,h1,h2⟩:=i1.2 ⟨l,hl,hx⟩
       exact⟨m,PW _ h1,h2⟩
      .obtain⟨m,h1,h2⟩:=j1.2 ⟨l,hl,hx⟩
       exact⟨m,Od _ h1,h2⟩
    .constructor
     .rintro⟨l,hl,hx⟩
      obtain⟨y,hy,z,hz,rfl⟩:=Ff.1 hl;obtain⟨m,h1,h2⟩:=i1.1 ⟨y,hy,fun x h=>hx x (PW _ h)⟩;obtain⟨n,h3,h4⟩:=j1.1 ⟨z,hz,fun x h=>hx x (Od _ h)⟩;refine⟨CY m n,?_,(Mw m _ n).2 ⟨h2,h4⟩⟩;simp only[DW,List.mem_flatMap,IX];exact⟨m,h1,n,h3,rfl⟩
     .rintro⟨l,hl,hx⟩
      simp only[DW,List.mem_flatMap,IX]at hl;obtain⟨y,hy,z,hz,rfl⟩:=hl;rw[Mw]at hx;obtain⟨m,h1,h2⟩:=i1.2 ⟨y,hy,hx.1⟩;obtain⟨n,h3,h4⟩:=j1.2 ⟨z,hz,hx.2⟩;refine⟨m++n,Ff.2 ⟨m,h1,n,h3,rfl⟩,fun x hx=>?_⟩;rcases Du.1 hx with h|h
      .exact h2 x h
      .exact h4 x h
   .rw[if_neg h6]at hF ⊢
    exact hF
def JZ (tog:List Fact->Bool):List (List (List Fact))->List Fact->Bool
 | [],l=>tog l
 | cs::r,l=>tog l&&cs.any fun c=>JZ tog r (l++c)
def Qn {w:AH} {tog:List Fact->Bool} {OK:(Int->LM)->Prop} (htog: ∀l,(∀x∈l,Dj w x)->(tog l=true↔ ∃M,OK M/\ ∀x∈l,GS w M x)): ∀(css:List (List (List Fact))) (l:List Fact),(∀x∈l,Dj w x)->(∀cs∈css,∀c∈cs,∀x∈c,Dj w x)->
    (JZ tog css l=true↔ ∃M,OK M/\(∀x∈l,GS w M x)/\ ∀cs∈css,∃c∈cs,∀x∈c,GS w M x)
 | [],l,hl,_=>by
   rw[JZ,htog l hl];constructor
   .rintro⟨M,h1,h2⟩
    exact⟨M,h1,h2,fun _ h=>by cases h⟩
   .rintro⟨M,h1,h2,_⟩
    exact⟨M,h1,h2⟩
 | cs::r,l,hl,hcs=>by
   have ih:=fun c (hc:c∈cs)=>Qn htog r (l++c) (fun x hx=>(Du.1 hx).elim (hl x) (hcs cs (.head _) c hc x)) (fun d hd=>hcs d (.tail _ hd))
   rw[JZ,A9,IY];constructor
   .rintro⟨_,c,hc,h⟩
    obtain⟨M,h1,h2,h3⟩:=(ih c hc).1 h;refine⟨M,h1,fun x hx=>h2 x (PW _ hx),fun d hd=>?_⟩;rcases GR.1 hd with rfl|hd
    .exact⟨c,hc,fun x hx=>h2 x (Od _ hx)⟩
    .exact h3 d hd
   .rintro⟨M,h1,h2,h3⟩
    obtain⟨c,hc,h4⟩:=h3 cs (.head _);refine⟨(htog l hl).2 ⟨M,h1,h2⟩,c,hc,(ih c hc).2 ⟨M,h1,fun x hx=>(Du.1 hx).elim (h2 x) (h4 x),fun d hd=>h3 d (.tail _ hd)⟩⟩
def QE (fs:List (Fact×Bool)):List (List (List Fact)):=fs.map fun x=>BE x.1 (!x.2)
def cz (fs:List (Fact×Bool)):List (List (List Fact)):=fs.map fun x=>CZ x.1 (!x.2)
def kU {w:AH} {tog:List Fact->Bool} {OK:(Int->LM)->Prop} (htog: ∀l,(∀x∈l,Dj w x)->(tog l=true↔ ∃M,OK M/\ ∀x∈l,GS w M x)) {fs:List (Fact×Bool)} (hn: ∀x∈fs,Bb w x.1=true) :
    JZ tog (QE fs) []=true↔ ∃M,OK M/\ ∀x∈fs,UF w M x.1=x.2:=by
 rw[Qn htog (QE fs) [] (fun _ h=>by cases h) (fun cs hcs=>by
  obtain⟨x,hx,rfl⟩:=IX.1 hcs
  exact C3 x.1 (hn x hx) _)]
 constructor
 .rintro⟨M,h1,_,h3⟩
  exact⟨M,h1,fun x hx=>by simpa using(Ex x.1 (hn x hx) (!x.2)).1 (h3 _ (IX.2 ⟨x,hx,rfl⟩))⟩
 .rintro⟨M,h1,h2⟩
  refine⟨M,h1,(fun _ h=>by cases h),fun cs hcs=>?_⟩;obtain⟨x,hx,rfl⟩:=IX.1 hcs;exact(Ex x.1 (hn x hx) (!x.2)).2 (by simpa using h2 x hx)
def kT {w:AH} {tog:List Fact->Bool} {OK:(Int->LM)->Prop} (htog: ∀l,(∀x∈l,Dj w x)->(tog l=true↔ ∃M,OK M/\ ∀x∈l,GS w M x)) {fs:List (Fact×Bool)} (hn: ∀x∈fs,Bb w x.1=true) :
    JZ tog (cz fs) []=true↔ ∃M,OK M/\ ∀x∈fs,UF w M x.1=x.2:=by
 rw[Qn htog (cz fs) [] (fun _ h=>by cases h) (fun cs hcs=>by
  obtain⟨x,hx,rfl⟩:=IX.1 hcs
  exact PB x.1 (hn x hx) _)]
 constructor
 .rintro⟨M,h1,_,h3⟩
  exact⟨M,h1,fun x hx=>by simpa using(SB x.1 (hn x hx) (!x.2)).1 (h3 _ (IX.2 ⟨x,hx,rfl⟩))⟩
 .rintro⟨M,h1,h2⟩
  refine⟨M,h1,(fun _ h=>by cases h),fun cs hcs=>?_⟩;obtain⟨x,hx,rfl⟩:=IX.1 hcs;exact(SB x.1 (hn x hx) (!x.2)).2 (by simpa using h2 x hx)
def GU (E:List Bool->Bool):Nat->List Bool->List (List Bool)
 | 0,pre=>if E pre then [pre]else []
 | k+1,pre=>if E pre then GU E k (pre++[false])++GU E k (pre++[true])else []
def Ls {E E':List Bool->Bool} (h: ∀l,E l=E' l): ∀(k:Nat) (pre:List Bool),GU E k pre=GU E' k pre
 | 0,pre=>by rw[GU,GU,h]
 | k+1,pre=>by rw[GU,GU,h,Ls h k,Ls h k]
def ng (tog:List Fact->Bool) (fs:List Fact) (bs:List Bool):Bool:=JZ tog (QE (fs.zip bs)) []
def GP (tog:List Fact->Bool) (fs:List Fact) (bs:List Bool):Bool:=JZ tog (cz (fs.zip bs)) []
def mS {w:AH} {tog:List Fact->Bool} {OK:(Int->LM)->Prop} (htog: ∀l,(∀x∈l,Dj w x)->(tog l=true↔ ∃M,OK M/\ ∀x∈l,GS w M x)) {fs:List Fact} (hn: ∀f∈fs,Bb w f=true) (bs:List Bool) :
    ng tog fs bs=true↔ ∃M,OK M/\ ∀x∈fs.zip bs,UF w M x.1=x.2:=kU htog fun x hx=>hn x.1 (List.of_mem_zip hx).1
def fQ {w:AH} {tog:List Fact->Bool} {OK:(Int->LM)->Prop} (htog: ∀l,(∀x∈l,Dj w x)->(tog l=true↔ ∃M,OK M/\ ∀x∈l,GS w M x)) {fs:List Fact} (hn: ∀f∈fs,Bb w f=true) (bs:List Bool) :
    GP tog fs bs=true↔ ∃M,OK M/\ ∀x∈fs.zip bs,UF w M x.1=x.2:=kT htog fun x hx=>hn x.1 (List.of_mem_zip hx).1
def Rx {p:Prog} (hok:EM p) {i j k:Int} (hi:BM p i=true) (hj:BM p j=true) (hk:BM p k=true) (h1:Gg p i j=true) (h2:Gg p j k=true):Gg p i k=true:=
 imp_trans hok.zQ (hok.facts _ (Bo (CE hi))).1 (hok.facts _ (Bo (CE hj))).1 (hok.facts _ (Bo (CE hk))).1 h1 h2
def Zr {p:Prog} {i j:Int}:Ay p i j=true↔Gg p i j=true/\Gg p j i=false:=by
 rw[Ay,A9,Bool.not_eq_true']
def SI {p:Prog} (i:Int):Ay p i i=false:=by
 rw[Ay];cases Gg p i i<;>rfl
def Vg {p:Prog} (hok:EM p) {i j k:Int} (hi:BM p i=true) (hj:BM p j=true) (hk:BM p k=true) (h1:Ay p i j=true) (h2:Ay p j k=true):Ay p i k=true:=by
 rw[Zr]at *;refine⟨Rx hok hi hj hk h1.1 h2.1,?_⟩;rw[<-Bool.not_eq_true];intro e;have:=Rx hok hk hi hj e h1.1;rw[h2.2]at this;cases this
end Go.Gl
namespace Go.Gl
open Go.Proofs
attribute [local irreducible] Au Am Ab AR AK AY AQ AS AJ AX AN AP Ao Az Sat AU Ax Ad W
def l5 (g:FuncId) (fi ca:List V) (q:Int->Bool) (xs:List Int) (hpf: ∀y∈xs,Pure zP g (fi++[eI y]++ca) (.b (q y))) (f:Bool) (hxl:xs.length<=1000):Pure zP 170 [.l (iL xs) f,.f (.func g) fi ca] (.l (iL (xs.filter q)) true):=by
 refine Pure.of ?_;have hM:=Mx;refine yE kZ ?_;have hs:=Sn;refine zz ?_;(repeat clear U K);repeat intro K U
 refine Bw xs.length (fun k v=>[(5,v),(10,eI (A6 k))]) (fun k v=>[.own v 1 (iL ((xs.take k).filter q))]) (fun _ _=>True) (.l [] true) rfl trivial (Dw hs 1) ?_;clear hs;rintro k v Z hk - hs;have hfl:=Oc q (xs.take k);rw[Jd]at hfl;rcases A7 xs hk with⟨y,hy,hlt⟩|hke
 .have hpy:=hpf y (Bo hy)
  have hst:(xs.take (k+1)).filter q=if q y then(xs.take k).filter q++[y]else(xs.take k).filter q:=by
   rw[AO hy,List.filter_append];cases hp:q y<;>simp[hp]
  generalize (xs.take k).filter q=zl at *;have hll:zl.length<AZ/\(zl.length+1)*8<=140737488355328:=by omega
  conv=>whnf
  repeat'((first|clear U K|apply st|(apply zk;intro K U)|refine zY ?_|refine aq fun v Z hs hsl=>?_|refine BN (hpy.use ?_)|refine za (fun hc=>?_) fun hc=>?_|fail)<;>conv=>whnf)
  .rw[if_pos (by assumption)]at hst
   exact⟨hlt,_,rfl,trivial,by rw[hst];exact hs⟩
  .rw[if_neg (by simp[*])]at hst
   exact⟨hlt,_,rfl,trivial,by rw[hst];exact hs⟩
 .rw[Aq hke]at hs
  refine zz ?_;(repeat clear U K);repeat intro K U
  refine(Qh (xs.filter q) v (by have:=Oc q xs;omega)).use (rest:=[]) (by simpa using hs) ?_;clear hs;rintro r post Z ⟨rfl,rfl⟩ hs;refine zz ?_;(repeat clear U K);repeat intro K U
  exact AI (by rfl)
def AAZ (x y:Int):Pure zP 311 [eI y,.rp [eI x]] (.b (y != x)):=by
 refine wI kZ ?_;have hs:=Sn;refine zz ?_;(repeat clear U K);repeat intro K U
 all_goals exact AF (by rfl)
def N4 (xs:List Int) (f:Bool) (x:Int) (hxl:xs.length<=1000):Pure zP 259 [.l (iL xs) f,eI x] (.l (iL (xs.filter (· != x))) true):=by
 have c1:=l5 311 [] [.rp [eI x]] (· != x) xs (fun y _=>AAZ x y) f hxl;refine xG kZ ?_;have hs:=Sn
 conv=>whnf
 repeat'((first|clear U K|apply st|(apply zk;intro K U)|refine zC ?_|fail)<;>conv=>whnf)
 all_goals exact AF (by rfl)
def pA (l:List Int) (f kd:Bool):Pure zP 201 [.pn,.l (iL l) f,.b kd] (.b false):=by
 have c1:=uU l f;refine Yq kZ ?_;have hs:=Sn;exact zW
def ky {M:List Int} {x:Int} (h:M.contains x=false):P9 M x=M++[x]:=by
 rw[P9,if_neg (by rw[h];decide)]
def uH (p : Prog) (L:Nat) (l:List Int) (f kd:Bool) (hl:l.length<=1000):Pure zP 201 [UC p L,.l (iL l) f,.b kd] (.b (GM p l kd)):=by
 refine Pure.fit (by kernel_rfl) fun hf=>?_
 have hM:=Mx;have c1:=AAm p L l f;cases hm:l.all (BM p)<;>rw[hm]at c1
 .have hb:GM p l kd=false:=by
   rw[<-Bool.not_eq_true];intro h;rw[GM,A9,EB]at h;rw[<-Bool.not_eq_true,EB]at hm;refine hm fun x hx=>?_
   have:=h.1 x hx;simp only[m7,A9]at this;exact this.1
  refine Yq kZ ?_;have hs:=Sn
  conv=>whnf
  repeat'((first|clear U K|apply st|(apply zk;intro K U)|refine zY ?_|refine zC ?_|fail)<;>conv=>whnf)
  all_goals exact AF (by rw[hb])
 rw[EB]at hm;refine Yq kZ ?_;have hs:=Sn
 conv=>whnf
 repeat'((first|clear U K|apply st|(apply zk;intro K U)|refine zY ?_|refine zC ?_|refine zo fun nn hnn Z hs=>?_|fail)<;>conv=>whnf)
 clear c1;replace hs:Sat Z [.map nn (UD [])]:=hs;refine Bw l.length (fun i (_:Unit)=>[(17,eI (A6 i))]) (fun i _=>[.map nn (UD (l.take i))]) (fun i _=>(∀k y,k<i->l[k]? =some y->m7 p l kd y=true)/\(l.take i).Nodup) () rfl ⟨fun k y h=>by omega,by simp⟩ hs ?_;clear hs;rintro i - Z hi ⟨ho,hn⟩ hs;rcases A7 l hi with⟨x,hx,hlt⟩|hie
 .have hci : A6 i=i:=Ae (by omega)
  obtain⟨z,hz⟩: ∃z,l[0]? =some z:=⟨_,Cr (by omega)⟩
  have hz0:=CS hz;have hmx:=hm x (Bo hx);have hmz:=hm z (Bo hz);have hbad:=fun h=>dv (p:=p) (kd:=kd) hx h
  rw[m7,hz0]at hbad;have hxP:=CE hmx;have hzP:=CE hmz;have c2:=qx p L x z hmx hmz;have hxr:=hmx;have hzr:=hmz;simp only[BM,A9,Cc]at hxr hzr;cases hcon:(l.take i).contains x
  .have hne : ∀k y,k<i->l[k]? =some y->y≠x:=fun k y h h2 e=>by
    rw[<-Bool.not_eq_true,List.contains_iff_mem]at hcon;exact hcon (Bo (i:=k) (by rw[List.getElem?_take,if_pos h,h2,e]))
   have hnd:=ZL hx hn hne;have hput:=ky hcon;rw[<-AO hx]at hput;by_cases hg:(Bd p x).gen=(Bd p z).gen
   .have hoxF:(!kd||Dn p x z)=true->m7 p l kd x=true:=fun h=>by rw[m7,hz0,hmx,hg,h];simp
    cases hal:Dn p x z<;>rw[hal]at c2 hoxF<;>cases kd
    all_goals
     conv=>whnf
     repeat'((first|clear U K|apply st|(apply zk;intro K U)|refine zY ?_|refine c2.use ?_|(refine KT hs 0 rfl rfl (IC _) ?_;rw[Mv,hcon])|(refine Iq hs 0 rfl rfl (IC _) fun Z hs=>?_)|(refine zb (fun hc=>?_) (fun hc=>?_)<;>try exact⟨⟩)|fail)<;>conv=>whnf)
    all_goals first
     | exact AF (by rw[hbad (by simp[hal,hg])])
     | (exfalso;simp[hg]at hc;done)
     | (have hox:=hoxF rfl
        refine⟨hlt,(),rfl,⟨fun k' y' h h2=>?_,hnd⟩,?_⟩
        .rcases Nat.lt_or_ge k' i with h'|h'
         .exact ho k' y' h' h2
         .rw[show k'=i by omega,hx]at h2
          rw[<-Option.some.inj h2];exact hox
        .replace hs:Sat Z [.map nn (DX (eI x) (.b true) (UD (l.take i)))]:=hs
         rw[bF,hput]at hs
         exact hs)
   .conv=>whnf
    repeat'((first|clear U K|apply st|(apply zk;intro K U)|refine zY ?_|(refine KT hs 0 rfl rfl (IC _) ?_;rw[Mv,hcon])|(refine zb (fun hc=>?_) (fun hc=>?_)<;>try exact⟨⟩)|fail)<;>conv=>whnf)
    all_goals first
     | exact AF (by rw[hbad (by simp[hg])])
     | (exfalso;have q:(Bd p x).gen=(Bd p z).gen:=(by assumption);exact hg q)
     | (exfalso;simp[hg]at hc;done)
  .obtain⟨k,hk⟩:=List.getElem?_of_mem (List.contains_iff_mem.1 hcon)
   rw[List.getElem?_take]at hk;split at hk
   .conv=>whnf
    repeat'((first|clear U K|apply st|(apply zk;intro K U)|refine zY ?_|(refine KT hs 0 rfl rfl (IC _) ?_;rw[Mv,hcon])|fail)<;>conv=>whnf)
    all_goals exact AF (by rw[du hx hk (by assumption)])
   .cases hk
 .refine zz ?_;(repeat clear U K);repeat intro K U
  have hall:GM p l kd=true:=by
   rw[GM,A9,EB];refine⟨fun y hy=>?_,decide_eq_true (by rw[hie,List.take_length]at hn;exact hn)⟩;obtain⟨k,hk⟩:=List.getElem?_of_mem hy;exact ho k y (by rw[hie];exact(JC.1 hk).1) hk
  exact AF (by rw[hall])
def dB (M:List (Int×Int)) (x:Int×Int):List (Int×Int):=if M.contains x then M else M++[x]
def dC (p:Prog) (M:List (Int×Int)) (m n:Int):List (Int×Int):=if Gg p m n then dB (dB M (m,n)) (n,m)else dB M (m,n)
def Rw (p:Prog) (L:Nat) (m n:Int) (hk:EM p) (hgw:DB (AL p)) (hfm: ∀x∈p.methods,DM (AL p) x.fact=true) (hm:BM p m=true) (hn:BM p n=true) (M:List (Int×Int)) :
    BT zP 310 [UC p L,eI m,eI n] [.map L (LL p M)] fun r post=>r= .ret (.b (Gg p m n))/\post= [.map L (LL p (dB M (m,n)))]:=by
 intro Z hs;have hxm:=CE hm;have hxn:=CE hn;have hmm:=Bo hxm;have hmn:=Bo hxn;have hip:=fY (AL p) hgw (Bd p m).fact (Bd p n).fact (hfm _ hmm) (hfm _ hmn) (hk.facts _ hmm).1 (hk.facts _ hmn).1 (by have:=(hk.facts _ hmm).2;have:=(hk.facts _ hmn).2;omega);simp only[BM,A9,Cc]at hm hn;have hfd:=W7 p (m,n) M;refine wJ kZ ?_;cases hc:M.contains (m,n)
 .rw[hc,if_neg (by decide)]at hfd
  conv=>whnf
  repeat'((first|clear U K|apply st|(apply zk;intro K U)|refine zY ?_|refine zs fun Z hs=>?_|refine Nr hs 1 rfl rfl (Qv _ _) hfd ?_|refine Iq hs 1 rfl rfl (Qv _ _) fun Z hs=>?_|refine hip.use ?_|refine zo fun nn hnn Z hs=>?_|fail)<;>conv=>whnf)
  replace hs:Sat Z [.box nn [eI m,eI n],.map L (DX (kM (m,n)) (.b (Gg p m n)) (LL p M))]:=hs;rw[bE p (m,n) M hc]at hs;exact AI ⟨_,⟨rfl,rfl⟩,by rw[dB,hc];exact hs.less (Ku _ _)⟩
 .rw[hc,if_pos rfl]at hfd
  conv=>whnf
  repeat'((first|clear U K|apply st|(apply zk;intro K U)|refine zY ?_|refine zs fun Z hs=>?_|refine Nr hs 1 rfl rfl (Qv _ _) hfd ?_|refine zo fun nn hnn Z hs=>?_|fail)<;>conv=>whnf)
  exact AI ⟨_,⟨rfl,rfl⟩,by rw[dB,hc];exact hs.less (Ku _ _)⟩
def XZ (p:Prog) (L:Nat) (m n:Int) (hk:EM p) (hgw:DB (AL p)) (hfm: ∀x∈p.methods,DM (AL p) x.fact=true) (hm:BM p m=true) (hn:BM p n=true) (M:List (Int×Int)) :
    BT zP 258 [UC p L,eI m,eI n] [.map L (LL p M)] fun r post=>r= .ret (.b (Ay p m n))/\post= [.map L (LL p (dC p M m n))]:=by
 intro Z hs;have h1:=fun M=>Rw p L m n hk hgw hfm hm hn M
 have h2:=fun M=>Rw p L n m hk hgw hfm hn hm M
 unfold Ay dC;cases hb1:Gg p m n<;>cases hb2:Gg p n m<;>rw[hb1]at h1<;>rw[hb2]at h2
 all_goals
  refine xH kZ ?_
  conv=>whnf
  repeat'((first|clear U K|apply st|(apply zk;intro K U)|fail)<;>conv=>whnf)
  refine(h1 M).use (rest:=[]) (by simpa using hs) ?_;clear hs;rintro r post Z ⟨rfl,rfl⟩ hs;refine zz ?_;(repeat clear U K);repeat intro K U
 .exact AI ⟨_,⟨rfl,rfl⟩,hs⟩
 .exact AI ⟨_,⟨rfl,rfl⟩,hs⟩
 all_goals
  refine(h2 _).use (rest:=[]) (by simpa using hs) ?_;clear hs;rintro r post Z ⟨rfl,rfl⟩ hs;refine zz ?_;(repeat clear U K);repeat intro K U
  exact AI ⟨_,⟨rfl,rfl⟩,hs⟩
def GZ: ∀ {l:List Int} {i:Nat} {x:Int},l.Nodup->l[i]? =some x->l.filter (· != x)=l.eraseIdx i
 | y::r,0,x,hn,hx=>by
   obtain rfl:y=x:=by simpa using hx
   rw[List.nodup_cons]at hn;rw[List.filter_cons,if_neg (by simp),List.eraseIdx_cons_zero];exact List.filter_eq_self.2 fun z hz=>by rw[zrJ];rintro rfl;exact hn.1 hz
 | y::r,i+1,x,hn,hx=>by
   rw[List.nodup_cons]at hn;rw[y6]at hx;have hyx:y≠x:=fun e=>hn.1 (e ▸ Bo hx)
   rw[List.filter_cons,if_pos (by simpa using hyx),List.eraseIdx_cons_succ,GZ hn.2 hx]
def ee {A:Int->Int->Bool} {l:List Int} {i:Nat} (hi:i<l.length) (h:HR A l i l.length=true) (hn: ∀j,j<i->HR A l j l.length=false):Ei A l=some i:=by
 rw[Ei,List.find?_range_eq_some];exact⟨h,List.mem_range.2 hi,fun j hj=>by rw[hn j hj];rfl⟩
def eY {A:Int->Int->Bool} {l:List Int} (hn: ∀j,j<l.length->HR A l j l.length=false):Ei A l=none:=by
 rw[Ei,List.find?_range_eq_none];exact fun j hj=>by rw[hn j hj];rfl
def nv {A:Int->Int->Bool} {l:List Int} {i k n:Nat} (hk:k<n) (h:(k==i||A (l.getD i 0) (l.getD k 0))=false):HR A l i n=false:=by
 rw[HR,<-Bool.not_eq_true,EB];intro h2;rw[h2 k (List.mem_range.2 hk)]at h;cases h
def lH {l:List Int} (hn:l.Nodup) {i k:Nat} {x y:Int} (hx:l[i]? =some x) (hy:l[k]? =some y) (h:k≠i):x≠y:=by
 rintro rfl;have hi:=(JC.1 hx)
 have hj:=(JC.1 hy)
 have:=(List.nodup_iff_pairwise_ne.1 hn)
 rw[List.pairwise_iff_getElem]at this;rcases Nat.lt_or_gt_of_ne h with h'|h'
 .exact this k i hj.1 hi.1 h' (by rw[hj.2,hi.2])
 .exact this i k hi.1 hj.1 h' (by rw[hj.2,hi.2])
def bu (p : Prog) (L:Nat) (l:List Int) (f:Bool) (hok:EM p) (hgw:DB (AL p)) (hfm: ∀x∈p.methods,DM (AL p) x.fact=true) (hl:Ud p l) (hnd:l.Nodup) (M:List (Int×Int)) :
    BT zP 183 [UC p L,.l (iL l) f] [.map L (LL p M)] fun r post=>r= .ret (.t [.l (iL (Be (Ay p) l.length l).1) true,.b (Be (Ay p) l.length l).2])/\ ∃M',post= [.map L (LL p M')]:=by
 intro Z hs;have hM:=Mx;refine x8 kZ ?_;refine zz ?_;(repeat clear U K);repeat intro K U
 refine D1 (fun(x:List Int×Bool×V×List Int×List (Int×Int))=>x.1.length) (fun x=>[(1,.l (iL x.1) x.2.1),(6,x.2.2.1)]) (fun x=>[.own x.2.2.1 1 (iL x.2.2.2.1),.map L (LL p x.2.2.2.2)])
  (fun x=>(∀y∈x.1,BM p y=true)/\x.1.Nodup/\x.2.2.2.1.length+x.1.length<=16/\Be (Ay p) l.length l=(x.2.2.2.1++(Be (Ay p) x.1.length x.1).1,(Be (Ay p) x.1.length x.1).2)) (l,f,.l [] true,[],M) rfl ⟨hl.GL,hnd,by simpa using hl.many,by simp⟩ (Cp hs 1) ?_
 clear hs;rintro⟨l',f',v,out,M⟩ Z ⟨hme,hn,hlen,hm⟩ hs;dsimp only at hme hn hlen hm hs;dsimp only;have hll:out.length<AZ/\(out.length+1)*8<=140737488355328:=by omega
 by_cases hz:l'.length=0
 .rw[hz]at hm
  simp only[Be,GA]at hm
  conv=>whnf
  repeat'((first|clear U K|apply st|(apply zk;intro K U)|refine zY ?_|(refine zb (fun hc=>?_) (fun hc=>?_)<;>try exact⟨⟩)|fail)<;>conv=>whnf)
  refine(Qh out v (by omega)).use (rest:=[_]) hs ?_;clear hs;rintro r post Z ⟨rfl,rfl⟩ hs;refine zz ?_;(repeat clear U K);repeat intro K U
  exact AI ⟨_,⟨by rw[hm],M,rfl⟩,hs⟩
 .obtain ⟨n,hnn⟩: ∃n,l'.length=n+1:=⟨l'.length - 1,by omega⟩
  have hne:l'.isEmpty=false:=by cases l' with
   | nil=>simp at hz
   | cons=>rfl
  rw[hnn,Be]at hm
  conv=>whnf
  repeat'((first|clear U K|apply st|(apply zk;intro K U)|refine zY ?_|(refine zb (fun hc=>?_) (fun hc=>?_)<;>try exact⟨⟩)|fail)<;>conv=>whnf)
  refine Bw l'.length (fun i (_:List (Int×Int))=>[(16,eI (A6 i))]) (fun _ M=>[.own v 1 (iL out),.map L (LL p M)]) (fun i _=> ∀j,j<i->HR (Ay p) l' j l'.length=false) M rfl (fun j h=>by omega) hs ?_;clear hs;rintro i M Z hi hno hs;rcases A7 l' hi with⟨x,hx,hlt⟩|hie
  .have hmx:=hme x (Bo hx)
   refine zz ?_;(repeat clear U K);repeat intro K U
   refine Bw l'.length (fun k (_:List (Int×Int))=>[(22,eI (A6 k))]) (fun _ M=>[.own v 1 (iL out),.map L (LL p M)]) (fun k _=>HR (Ay p) l' i k=true) M rfl rfl hs ?_;clear hs;rintro k M Z hk htop hs;rcases A7 l' hk with⟨y,hy,hklt⟩|hke
   .have hmy:=hme y (Bo hy)
    have hsu:=TB (Ay p) l' i k;rw[CS hx,CS hy,htop,EA]at hsu;by_cases hki:k=i
    .obtain rfl:x=y:=by
      rw[hki,hx]at hy;exact Option.some.inj hy
     conv=>whnf
     repeat'((first|clear U K|apply st|(apply zk;intro K U)|refine zY ?_|(refine zb (fun hc=>?_) (fun hc=>?_)<;>try exact⟨⟩)|fail)<;>conv=>whnf)
     exact⟨hklt,M,rfl,by rw[hsu,hki];simp,hs⟩
    .have hxy:=lH hn hx hy hki
     have c5:=XZ p L x y hok hgw hfm hmx hmy M;cases hah:Ay p x y<;>rw[hah]at c5
     all_goals
      conv=>whnf
      repeat'((first|clear U K|apply st|(apply zk;intro K U)|refine zY ?_|(refine zb (fun hc=>?_) (fun hc=>?_)<;>try exact⟨⟩)|fail)<;>conv=>whnf)
      refine c5.use (rest:=[_]) (hs.perm (.swap _ _ _)) ?_;clear hs;rintro r post Z ⟨rfl,rfl⟩ hs;refine zz ?_;(repeat clear U K);repeat intro K U
     .refine⟨hlt,_,rfl,fun j hj=>?_,hs.perm (.swap _ _ _)⟩
      rcases Nat.lt_or_ge j i with h'|h'
      .exact hno j h'
      .rw[show j=i by omega]
       exact nv hklt (by rw[CS hx,CS hy,hah];simpa using hki)
     .exact⟨hklt,_,rfl,by rw[hsu,hah];simp,hs.perm (.swap _ _ _)⟩
   .have c1:=N4 l' f' x (by omega)
    rw[GZ hn hx]at c1;have hel:=List.length_eraseIdx_of_lt hlt;rw[ee hlt (hke ▸ htop) hno]at hm;dsimp only at hm;rw[CS hx]at hm
    conv=>whnf
    repeat'((first|clear U K|apply st|(apply zk;intro K U)|refine zY ?_|refine aq fun v Z hs hsl=>?_|refine zC ?_|fail)<;>conv=>whnf)
    refine⟨(l'.eraseIdx i,true,v,out++[x],M),by dsimp only;omega,rfl,⟨fun y hy=>hme y (List.mem_of_mem_eraseIdx hy),hn.sublist (List.eraseIdx_sublist _ _),by simp;omega,?_⟩,hs⟩;dsimp only;rw[hm,hel,show l'.length - 1=n by omega];simp
  .rw[eY fun j hj=>hno j (by omega)]at hm
   dsimp only at hm;rw[hne,GA]at hm;refine zz ?_;(repeat clear U K);repeat intro K U
   refine(Qh out v (by omega)).use (rest:=[_]) hs ?_;clear hs;rintro r post Z ⟨rfl,rfl⟩ hs;refine zz ?_;(repeat clear U K);repeat intro K U
   exact AI ⟨_,⟨by rw[hm];rfl,M,rfl⟩,hs⟩
def oA (p:Prog) (L:Nat) (m:Int) (hok:EM p) (hgw:DB (AL p)) (hfm: ∀x∈p.methods,DM (AL p) x.fact=true) (hm:BM p m=true) :
    DG zP (.f (.func 263) [] [.rp [UC p L],.rp [eI m]]) eI (fun M=>[.map L (LL p M)]) (fun y M=>(Ay p y m,dC p M y m)) (fun y _=>BM p y=true):=by
 intro y M hy Z hs;refine BN ?_;show Au zP 263 ([]++[eI y]++[.rp [UC p L],.rp [eI m]]) Z _;refine xB kZ ?_;refine zz ?_;(repeat clear U K);repeat intro K U
 refine(XZ p L y m hok hgw hfm hy hm M).use (rest:=[]) (by simpa using hs) ?_;clear hs;rintro r post Z ⟨rfl,rfl⟩ hs;refine zz ?_;(repeat clear U K);repeat intro K U
 exact As hs (List.sublist_append_left _ _) (.refl _) fun Z' hs'=>⟨rfl,hs'⟩
def To {S:Type} {stp:Int->S->Bool×S} {q:Int->Bool}: ∀(xs:List Int) (k:Nat) (s:S),(∀y∈xs,∀s,(stp y s).1=q y)->(Br stp xs k s).1=match(List.range xs.length).find? fun i=>q (xs.getD i 0)with|some i=>((k+i:Nat):Int)|none=> -1
 | [],_,_,_=>rfl
 | y ::r,k,s,h=>by
   rw[Br,h y (.head _)];have ih:=To r (k+1) (stp y s).2 fun z hz=>h z (.tail _ hz)
   rw[Ky,List.range_succ_eq_map,List.find?_cons,List.getD_cons_zero];cases hq:q y
   .rw[if_neg (by decide),ih]
    simp only[List.find?_map,Function.comp_def,Nat.succ_eq_add_one,List.getD_cons_succ];cases(List.range r.length).find? fun i=>q (r.getD i 0)with
    | none=>rfl
    | some i=>simp only[YH];congr 1;omega
   .rw[if_pos rfl];simp
def zi (p:Prog) (l:List Int) (m:Int) (M:List (Int×Int)):List (Int×Int):=(Br (fun y M=>(Ay p y m,dC p M y m)) l 0 M).2
def aN (p:Prog) (L nb:Nat) (l:List Int) (f:Bool) (hok:EM p) (hgw:DB (AL p)) (hfm: ∀x∈p.methods,DM (AL p) x.fact=true) (hl: ∀x∈l,BM p x=true) :
    DG zP (.f (.func 262) [] [.p nb 0,.rp [UC p L]]) eI (fun M=>[.box nb [.l (iL l) f],.map L (LL p M)]) (fun m M=>(!(decide ((Br (fun y M=>(Ay p y m,dC p M y m)) l 0 M).1≥0)),zi p l m M)) (fun m _=>BM p m=true):=by
 intro m M hm Z hs;refine BN ?_;show Au zP 262 ([]++[eI m]++[.p nb 0,.rp [UC p L]]) Z _;refine xC kZ ?_;refine zz ?_;(repeat clear U K);repeat intro K U
 refine(G1 263 [] [.rp [UC p L],.rp [eI m]] (fun M=>[.map L (LL p M)]) _ _ (oA p L m hok hgw hfm hm) l f M (HZ fun y hy _=>hl y hy)).use (rest:=[_]) (hs.perm (.swap _ _ _)) ?_;clear hs;rintro r post Z ⟨rfl,rfl⟩ hs;refine zz ?_;(repeat clear U K);repeat intro K U
 exact As (hs.perm (.swap _ _ _)) (List.Sublist.refl _) (.refl _) fun Z' hs'=>⟨rfl,hs'⟩
def ic {p:Prog} (hok:EM p): ∀(l:List Int),l≠[]->(∀x∈l,BM p x=true)-> ∃x∈l,∀y∈l,Ay p y x=false
 | [],h,_=>absurd rfl h
 | x ::r,_,h=>by
   by_cases hr:r= []
   .subst hr
    exact⟨x,.head _,fun y hy=>by rw[KF.1 hy];exact SI x⟩
   obtain⟨z,hz,hz2⟩:=ic hok r hr fun y hy=>h y (.tail _ hy)
   cases hxz:Ay p x z
   .refine⟨z,.tail _ hz,fun y hy=>?_⟩
    rcases GR.1 hy with rfl|hy
    .exact hxz
    .exact hz2 y hy
   .refine⟨x,.head _,fun y hy=>?_⟩
    rcases GR.1 hy with rfl|hy
    .exact SI y
    .rw[<-Bool.not_eq_true]
     intro e;have:=Vg hok (h y (.tail _ hy)) (h x (.head _)) (h z (.tail _ hz)) e hxz;rw[hz2 y hy]at this;cases this
def TV {p:Prog} (hok:EM p) {l:List Int} (hl:l≠[]) (h: ∀x∈l,BM p x=true): ∃i,Nc (Ay p) l=some i:=by
 obtain⟨x,hx,hx2⟩:=ic hok l hl h;obtain⟨i,hi⟩:=List.getElem?_of_mem hx;cases hm:Nc (Ay p) l with
 | some i=>exact⟨i,rfl⟩
 | none=>
   rw[Nc,List.find?_range_eq_none]at hm;have h1:=hm i (JC.1 hi).1
   have h2:LP (Ay p) l i l.length=true:=by
    rw[LP,EB];intro k hk;rw[CS hi,hx2 _ (EH (List.mem_range.1 hk))];rfl
   rw[h2]at h1;cases h1
end Go.Gl
namespace Go.Gl
variable {P:Program} {Z:AE}
def y2 {L:Nat} {args:List V} {Q:R->AE->Prop} (h:Nj P L args Z Q):Ao P (.f (.yield L) [] []) args Z Q:=h
def Xk {L:Nat} {E:Env} {ps:List Nat} {a b:AV} {args:List V} {l:List At} (hl:args.length=ps.length) (hs:Sat Z (.obj L (.loop .ready E (Bk P ps a b))::l)) {Q:R->AE->Prop}
    (h: ∀Z,Sat Z l->W P a (Cb (W P b fun ex env' Z'=>Z' L=none->Qi L E (Bk P ps a b) Q ex env' Z')) (El ps args E) Z):Nj P L args Z Q:=
 Lu (hs.get (i:=0) rfl) hl (h _ hs.del)
end Go.Gl
namespace Go.Gl
open Go.Proofs
attribute [local irreducible] Au Am Ab AR AK AY AQ AS AJ AX AN AP Ao Az Sat AU Ax Ad W
def S9 (xs:List Int) (f:Bool):Pure zP 261 [.l (iL xs) f] (.f (.func 312) [] [.rp [.l (iL xs) f]]):=by
 refine xD kZ ?_;have hs:=Sn;exact zW
def nu (xs:List Int) (f:Bool) (hxl:xs.length<=1000) {S:Type} {fn:Fn} {fi ca:List V} {H:S->List At} (Inv:Nat->S->Prop) {s:S} (h0:Inv 0 s)
    (hT: ∀(k:Nat) s y,xs[k]? =some y->Inv k s-> ∀Z:AE,Sat Z (H s)->Ao zP (.f fn fi ca) [eI y] Z fun r Z'=> ∃s',r= .ret (.b true)/\Inv (k+1) s'/\Sat Z' (H s')) (Z:AE) (hs:Sat Z (H s)) :
    Au zP 312 [.f fn fi ca,.rp [.l (iL xs) f]] Z fun r Z'=> ∃s',r= .ret (.t [])/\Inv xs.length s'/\Sat Z' (H s'):=by
 have hM:=Mx;refine wH kZ ?_;refine zz ?_;(repeat clear U K);repeat intro K U
 refine Bw xs.length (fun k (_:S)=>[(7,eI (A6 k))]) (fun _ s'=>H s') (fun k s'=>Inv k s') s rfl h0 hs ?_;clear hs;rintro k s' Z hk ho hs;rcases A7 xs hk with⟨y,hy,hlt⟩|hke
 .have hT':=hT k s' y hy ho
  refine zz ?_;(repeat clear U K);repeat intro K U
  refine(hT' Z hs).mono ?_;rintro r Z ⟨s2,rfl,hi2,hs⟩;refine zz ?_;(repeat clear U K);repeat intro K U
  exact⟨hlt,_,rfl,hi2,hs⟩
 .rw[hke]at ho
  refine zz ?_;(repeat clear U K);repeat intro K U
  exact AI ⟨_,rfl,ho,hs⟩
def fV (xs:List Int) (f:Bool) (hxl:xs.length<=1000):BT zP 243 [.l [] true,.f (.func 312) [] [.rp [.l (iL xs) f]]] [] fun r post=> ∃v,r= .ret v/\post= [.own v 1 (iL xs)]/\((B7 v).isSome=true\/(v= .l [] true/\xs= [])):=by
 intro Z hs;have hM:=Mx;refine xN kZ ?_
 conv=>whnf
 repeat'((first|clear U K|apply st|(apply zk;intro K U)|refine zo fun nn hnn Z hs=>?_|fail)<;>conv=>whnf)
 rename_i nb _ _ _;clear hnn
 revert hs
 generalize hE:([(2,V.p nb 0)]:Env)=E;generalize hk:Bk _ _ _ _=ok;intro hs;refine Au.mono (nu xs f hxl (fn:= .yield nn) (fi:=[]) (ca:=[]) (H:=fun s:V×List Int=> .obj nn (.loop .ready E ok):: [.box nb [s.1],.own s.1 1 (iL s.2)]) (fun k s=>s.2=xs.take k/\(1<=k->(B7 s.1).isSome=true)/\(k=0->s.1= .l [] true)) (s:=(.l [] true,[])) ⟨rfl,fun h=>by omega,fun _=>rfl⟩ ?_ Z ((Cp hs 1).perm (Jp _ _ _ _))) ?_
 .clear hs
  subst hE hk;rintro k ⟨v,ys⟩ y hy ⟨h1,h2,h3⟩ Z hs;dsimp only at h1 h2 h3 hs;have hkl:k<xs.length:=(JC.1 hy).1;have hyl:ys.length=k:=by rw[h1,Jd];omega
  have hll:ys.length<AZ/\(ys.length+1)*8<=140737488355328:=by omega
  refine y2 (Xk (l:=[.box nb [v],.own v 1 (iL ys)]) rfl hs ?_);clear hs;intro Z hs
  conv=>whnf
  repeat'((first|clear U K|apply st|(apply zk;intro K U)|refine zY ?_|refine zs fun Z hs=>?_|refine aq fun v Z hs hsl=>?_|fail)<;>conv=>whnf)
  intro hn;exact⟨(v,ys++[y]),rfl,⟨by rw[AO hy,h1],fun _=>hsl,fun h=>by omega⟩,hs.ni hn⟩
 .clear hs
  rintro r Z ⟨⟨v,ys⟩,rfl,⟨h1,h2,h3⟩,hs⟩;dsimp only at h1 h2 h3 hs;refine Mo hs fun Z hs=>?_
  refine zz ?_;(repeat clear U K);repeat intro K U
  rw[List.take_length]at h1;subst h1;refine As hs (Ku _ _) (.refl _) fun Z' hs'=>⟨_,⟨v,rfl,rfl,?_⟩,hs'⟩
  rcases Nat.eq_zero_or_pos ys.length with h|h
  .exact .inr ⟨h3 h,YE.1 h⟩
  .exact .inl (h2 h)
def fL (xs:List Int) (f:Bool) (hxl:xs.length<=1000):BT zP 171 [.f (.func 312) [] [.rp [.l (iL xs) f]]] [] fun r post=> ∃v,r= .ret v/\post= [.own v 1 (iL xs)]/\((B7 v).isSome=true\/(v= .l [] true/\xs= [])):=by
 intro Z hs;refine yD kZ ?_
 conv=>whnf
 repeat'((first|clear U K|apply st|(apply zk;intro K U)|fail)<;>conv=>whnf)
 refine(fV xs f hxl).use (rest:=[]) (by simpa using hs) ?_;clear hs;rintro r post Z ⟨v,rfl,rfl,hv⟩ hs;refine zz ?_;(repeat clear U K);repeat intro K U
 exact As hs (List.sublist_append_left _ _) (.refl _) fun Z' hs'=>⟨_,⟨v,rfl,rfl,hv⟩,hs'⟩
def TD (xs:List Int) (f:Bool) (hxl:xs.length<=1000):Pure zP 260 [.f (.func 312) [] [.rp [.l (iL xs) f]]] (.l (iL (xs.mergeSort Hn)) false):=by
 refine xE kZ ?_;have hs:=Sn
 conv=>whnf
 repeat'((first|clear U K|apply st|(apply zk;intro K U)|fail)<;>conv=>whnf)
 refine(fL xs f hxl).use (rest:=[]) (by simpa using hs) ?_;clear hs;rintro r post Z ⟨v,rfl,rfl,hv⟩ hs
 conv=>whnf
 repeat'((first|clear U K|apply st|(apply zk;intro K U)|fail)<;>conv=>whnf)
 refine(gb hv).use (rest:=[]) hs ?_;clear hs;rintro r post Z ⟨rfl,rfl⟩ hs;refine zz ?_;(repeat clear U K);repeat intro K U
 exact A8 (hs.GC 0 rfl)
def Tp {S:Type} {stp:Int->S->Bool×S} {q:Int->Bool}: ∀(xs:List Int) (k:Nat) (s:S),(∀y∈xs,∀s,(stp y s).1=q y)->decide ((Br stp xs k s).1≥0)=xs.any q
 | [],_,_,_=>rfl
 | y ::r,k,s,h=>by
   rw[Br,h y (.head _),PV];cases hq:q y
   .rw[if_neg (by decide),Bool.false_or]
    exact Tp r (k+1) _ fun z hz=>h z (.tail _ hz)
   .rw[if_pos rfl,Bool.true_or]
    exact decide_eq_true (Int.natCast_nonneg k)
def dX (l:List Int) (q:Int->Bool):(List.range l.length).all (fun j=> !q (l.getD j 0))= !l.any q:=by
 rw[IZ,EB,Bool.not_eq_true',<-Bool.not_eq_true,IY];constructor
 .rintro h ⟨x,hx,hq⟩
  obtain⟨i,hi⟩:=List.getElem?_of_mem hx;have:=h i (List.mem_range.2 (JC.1 hi).1);rw[CS hi,hq]at this;cases this
 .intro h j hj
  cases hq:q (l.getD j 0)
  .rfl
  .exact absurd ⟨_,EH (List.mem_range.1 hj),hq⟩ h
def bY {p:Prog} {l:List Int} {M:List (Int×Int)}:(Br (fun(m:Int) (M:List (Int×Int))=>(!(decide ((Br (fun y M=>(Ay p y m,dC p M y m)) l 0 M).1≥0)),zi p l m M)) l 0 M).1=match Nc (Ay p) l with|some i=>((i:Nat):Int)|none=> -1:=by
 rw[To (q:=fun m=> !l.any fun y=>Ay p y m) l 0 M fun m _ s=>by dsimp only;rw[Tp (q:=fun y=>Ay p y m) l 0 s fun y _ s=>rfl]];rw[Nc,find_congr (g:=fun i=>LP (Ay p) l i l.length) fun i _=>by rw[LP,dX l fun y=>Ay p y (l.getD i 0)]];cases(List.range l.length).find? fun i=>LP (Ay p) l i l.length with
 | none=>rfl
 | some i=>simp
def fT (p:Prog) (L:Nat) (l:List Int) (f:Bool) (hok:EM p) (hgw:DB (AL p)) (hfm: ∀x∈p.methods,DM (AL p) x.fact=true) (hl:Ud p l) (hnd:l.Nodup) (M:List (Int×Int)) :
    BT zP 184 [UC p L,.l (iL l) f] [.map L (LL p M)] fun r post=>r= .ret (.l (iL (DN (Ay p) l.length (l.mergeSort Hn))) true)/\ ∃M',post= [.map L (LL p M')]:=by
 intro Z hs;have hM:=Mx;have h16:=hl.many;have hml:(l.mergeSort Hn).length=l.length:=List.length_mergeSort _;have c1:=S9 l f;have c2:=TD l f (by omega);refine jV kZ ?_
 conv=>whnf
 repeat'((first|clear U K|apply st|(apply zk;intro K U)|refine zY ?_|refine zs fun Z hs=>?_|refine zC ?_|refine zo fun nn hnn Z hs=>?_|fail)<;>conv=>whnf)
 clear c1 c2 hnn
 refine D1 (fun(x:List Int×Bool×V×List Int×List (Int×Int))=>x.1.length) (fun x=>[(5,x.2.2.1)]) (fun x=>[.box nn [.l (iL x.1) x.2.1],.own x.2.2.1 1 (iL x.2.2.2.1),.map L (LL p x.2.2.2.2)])
  (fun x=>(∀y∈x.1,BM p y=true)/\x.1.Nodup/\x.2.2.2.1.length+x.1.length<=16/\DN (Ay p) l.length (l.mergeSort Hn)=x.2.2.2.1++DN (Ay p) x.1.length x.1) (l.mergeSort Hn,false,.l [] true,[],M) rfl ⟨fun y hy=>hl.GL y (List.mem_mergeSort.1 hy),(List.mergeSort_perm l Hn).symm.nodup hnd,by simpa[hml]using h16,by simp[hml]⟩ ((Cp hs 1).perm (.swap _ _ _)) ?_
 clear hs;rintro⟨l',f',v,out,M⟩ Z ⟨hme,hn,hlen,hm⟩ hs;dsimp only at hme hn hlen hm hs;dsimp only;have hll:out.length<AZ/\(out.length+1)*8<=140737488355328:=by omega
 by_cases hz:l'.length=0
 .rw[hz]at hm
  simp only[DN,GA]at hm
  conv=>whnf
  repeat'((first|clear U K|apply st|(apply zk;intro K U)|refine zY ?_|(refine zb (fun hc=>?_) (fun hc=>?_)<;>try exact⟨⟩)|fail)<;>conv=>whnf)
  refine(Qh out v (by omega)).use (rest:=[_,_]) (hs.perm (.swap _ _ _)) ?_;clear hs;rintro r post Z ⟨rfl,rfl⟩ hs;refine zz ?_;(repeat clear U K);repeat intro K U
  exact As hs (Ku _ _) (.refl _) fun Z' hs'=>⟨_,⟨by rw[hm],M,rfl⟩,hs'⟩
 .obtain⟨n,hnn⟩: ∃n,l'.length=n+1:=⟨l'.length - 1,by omega⟩
  have hne:l'≠[]:=fun e=>hz (by rw[e];rfl)
  obtain⟨i,hi⟩:=TV hok hne hme;have hil:i<l'.length:=by simpa using List.mem_of_find?_eq_some hi
  obtain⟨x,hx⟩: ∃x,l'[i]? =some x:=⟨_,Cr hil⟩
  rw[hnn,DN,hi,Option.getD_some,CS hx]at hm;have c3:=N4 l' f' x (by omega);rw[GZ hn hx]at c3;have hel:=List.length_eraseIdx_of_lt hil
  conv=>whnf
  repeat'((first|clear U K|apply st|(apply zk;intro K U)|refine zY ?_|(refine zb (fun hc=>?_) (fun hc=>?_)<;>try exact⟨⟩)|fail)<;>conv=>whnf)
  refine(JB 262 [] [.p nn 0,.rp [UC p L]] (fun M=>[.box nn [.l (iL l') f'],.map L (LL p M)]) _ _ (aN p L nn l' f' hok hgw hfm hme) l' f' M (HZ fun y hy _=>hme y hy)).use (rest:=[.own v 1 (iL out)]) (hs.perm (.cons _ (.swap _ _ _))) ?_;clear hs;rintro r post Z ⟨rfl,rfl⟩ hs;rw[bY,hi];generalize (Br _ l' 0 M).2=M2 at hs;dsimp only
  conv=>whnf
  repeat'((first|clear U K|apply st|(apply zk;intro K U)|refine zY ?_|refine zs fun Z hs=>?_|refine aq fun v Z hs hsl=>?_|refine zC ?_|fail)<;>conv=>whnf)
  refine⟨(l'.eraseIdx i,true,v,out++[x],M2),by dsimp only;omega,rfl,⟨fun y hy=>hme y (List.mem_of_mem_eraseIdx hy),hn.sublist (List.eraseIdx_sublist _ _),by simp;omega,?_⟩,hs.perm (.cons _ (.swap _ _ _))⟩;dsimp only;rw[hm,hel,show l'.length - 1=n by omega];simp
def dO: ∀ {l:List Int},l.Nodup->(l.mergeSort Hn).Pairwise (· < ·):=fun {l} h=>by
 have h1:=List.pairwise_mergeSort (le:=Hn) (fun a b c h1 h2=>by simp only[Hn,Cc]at *;omega) (fun a b=>by simp only[Hn,Fm,Cc];omega) l;have h2:=List.nodup_iff_pairwise_ne.1 ((List.mergeSort_perm l Hn).symm.nodup h);exact(h1.and h2).imp fun⟨a,b⟩=>by simp only[Hn,Cc]at a;omega
def bJ {x:Int}: ∀ {out:List Int},out.Pairwise (· < ·)->x∉out->(HT x out).Pairwise (· < ·)
 | [],_,_=>by simp[HT]
 | y ::r,h,hx=>by
   rw[List.pairwise_cons]at h;rw[GR,not_or]at hx;by_cases hy:y<x
   .have e:HT x (y::r)=y::HT x r:=by simp[HT,List.takeWhile_cons,List.dropWhile_cons,hy]
    rw[e,List.pairwise_cons];refine⟨fun z hz=>?_,bJ h.2 hx.2⟩;rcases Qz.1 hz with rfl|hz
    .exact hy
    .exact h.1 z hz
   .have e:HT x (y::r)=x::y::r:=by simp[HT,List.takeWhile_cons,List.dropWhile_cons,hy]
    rw[e,List.pairwise_cons,List.pairwise_cons];refine⟨fun z hz=>?_,h⟩;rcases GR.1 hz with rfl|hz
    .have:=hx.1;omega
    .have:=h.1 z hz
     have:=hx.1;omega
def XH: ∀(l out:List Int),out.Pairwise (· < ·)->l.Nodup->(∀x∈l,x∉out)->(l.foldl (fun out x=>HT x out) out).Pairwise (· < ·)
 | [],_,h,_,_=>h
 | x::r,out,h,hn,hx=>by
   rw[List.nodup_cons]at hn;refine XH r _ (bJ h (hx x (.head _))) hn.2 fun y hy hm=>?_
   rcases Qz.1 hm with rfl|hm
   .exact hn.1 hy
   .exact hx y (.tail _ hy) hm
def TE {l:List Int} (h:l.Nodup):l.mergeSort Hn=Cx l:=
 Lh (dO h) (XH l [] .nil h fun x _ hm=>by cases hm) fun x=>by rw[List.mem_mergeSort,Kf]
end Go.Gl
namespace Go.Gl
open Go.Proofs
def yl {Z:AE} {l:List At} {i:Nat} {v:V} {sz:Nat} {es:List (List V)} (hs:Sat Z l) (hi:l[i]? =some (.own v sz es)) (he: ∀e∈es,e.length=sz) {K:V->AE->Prop} (hk: ∀v' Z',Sat Z' (l.set i (.own v' sz es))->((B7 v').isSome=true\/(v'= .l es true/\v= .l es true))->K v' Z'):AQ Z sz v none (some (.i .i64 (es.length:Int))) (some (.i .i64 (es.length:Int))) K:=by
 rcases hs.get hi with⟨rfl,_⟩|⟨n,cap,rfl,hn⟩
 .refine⟨he,?_⟩
  simp only[Of];refine⟨Int.le_refl _,Int.natCast_nonneg _,Int.le_refl _,trivial,?_⟩
  have hset:l.set i (.own (.l es true) sz es)=l:=by
   refine List.ext_getElem? fun j=>?_
   by_cases hj:i=j
   .subst hj
    rw[List.getElem?_set_self (JC.1 hi).1,hi]
   .rw[List.getElem?_set_ne hj]
  have:=hk (.l es true) Z (by rw[hset];exact hs) (.inr ⟨rfl,rfl⟩);simpa using this
 .unfold AQ
  simp only[Of];refine⟨Int.le_refl _,Int.natCast_nonneg _,Int.le_refl _,trivial,trivial,trivial,?_⟩;rw[hn];refine⟨rfl,rfl,rfl,.inr (hk _ _ ?_ (.inl rfl))⟩;refine hs.change hi (fun b hb ha=>FU hb fun m hm=>?_) (fun b hb ha m hm=>?_) (.inr ⟨n,es.length,rfl,DJ _ _ _⟩)
  .rw[Cm]
   intro e;subst e;exact ha m rfl hm
  .cases hm
   exact ha _ rfl
attribute [local irreducible] Au Am Ab AR AK AY AQ AS AJ AX AN AP Ao Az Sat AU Ax Ad W
def qe (xs:List Int) (v:V) (hl:xs.length<=AZ) (hv:(B7 v).isSome=true\/(v= .l [] true/\xs= [])):BT zP 242 [v] [.own v 1 (iL xs)] fun r post=> ∃v',r= .ret v'/\post= [.own v' 1 (iL xs)]/\((B7 v').isSome=true\/(v'= .l [] true/\xs= [])):=by
 intro Z hs;have hg:=DL Bm xs;refine jS kZ ?_;refine zz ?_;(repeat clear U K);repeat intro K U
 refine yl (i:=0) hs rfl hg.1 fun v' Z hs hv'=>?_
 refine zz ?_;(repeat clear U K);repeat intro K U
 refine As hs (List.Sublist.refl _) (.refl _) fun Z' hs'=>⟨_,⟨v',rfl,rfl,?_⟩,hs'⟩
 rcases hv' with h|⟨h1,h2⟩
 .exact .inl h
 .rcases hv with h|⟨h3,h4⟩
  .rw[h2]at h;cases h
  .subst h4
   exact .inr ⟨h1,rfl⟩
def WI (xs ys:List Int) (k:Nat):Prop:=ys.length=xs.length/\ ∀t,t<xs.length->ys[t]? =if t<k\/xs.length - k<=t then xs[xs.length - 1 - t]? else xs[t]?
def uW (xs:List Int):WI xs xs 0:=⟨rfl,fun t ht=>by rw[if_neg (by omega)]⟩
def lg {xs ys:List Int} {k:Nat} (h:WI xs ys k) (hk:xs.length<=2*k+1):ys=xs.reverse:=by
 refine List.ext_getElem? fun t=>?_
 rcases Nat.lt_or_ge t xs.length with ht|ht
 .rw[h.2 t ht,List.getElem?_reverse ht]
  split
  .rfl
  .congr 1;omega
 .rw[List.getElem?_eq_none (by rw[h.1];exact ht),List.getElem?_eq_none (by rw[List.length_reverse];exact ht)]
def eJ {xs ys:List Int} {k:Nat} {a b:Int} (h:WI xs ys k) (hk:2*k+1<xs.length) (ha:ys[k]? =some a) (hb:ys[xs.length - 1 - k]? =some b):WI xs ((ys.set k b).set (xs.length - 1 - k) a) (k+1):=by
 have h1:=h.2 k (by omega);have h2:=h.2 (xs.length - 1 - k) (by omega);rw[if_neg (by omega),ha]at h1;rw[if_neg (by omega),hb]at h2;refine⟨by rw[List.length_set,List.length_set];exact h.1,fun t ht=>?_⟩;have hl:=h.1;by_cases e1:t=xs.length - 1 - k
 .subst e1
  rw[List.getElem?_set_self (by rw[List.length_set];omega),if_pos (by omega),show xs.length - 1 - (xs.length - 1 - k)=k by omega,h1]
 .rw[List.getElem?_set_ne (fun e=>e1 e.symm)]
  by_cases e2:t=k
  .subst e2
   rw[List.getElem?_set_self (by omega),if_pos (by omega),h2]
  .rw[List.getElem?_set_ne (fun e=>e2 e.symm),h.2 t ht]
   by_cases e3:t<k\/xs.length - k<=t
   .rw[if_pos e3,if_pos (by omega)]
   .rw[if_neg e3,if_neg (by omega)]
end Go.Gl
namespace Go.Gl
open Go.Proofs
attribute [local irreducible] Au Am Ab AR AK AY AQ AS AJ AX AN AP Ao Az Sat AU Ax Ad W
def dT (xs:List Int) (v:V) (hl:xs.length<=1000) (hv:(B7 v).isSome=true\/(v= .l [] true/\xs= [])):BT zP 185 [v] [.own v 1 (iL xs)] fun r post=>r= .ret (.t [])/\post= [.own v 1 (iL xs.reverse)]:=by
 intro Z hs;have hM:=Mx;have e0:((iL xs).length:Int)=xs.length:=by simp
 have hw0:IntKind.i64.wrap (((iL xs).length:Int) - 1)=(xs.length:Int) - 1:=by rw[e0,wrap64 (by omega) (by omega)]
 refine x7 kZ ?_;refine zz ?_;(repeat clear U K);repeat intro K U
 refine D1 (fun(x:Int×Int×List Int)=>(x.2.1+1).toNat) (fun x=>[(2,eI x.1),(3,eI x.2.1)]) (fun x=>[.own v 1 (iL x.2.2)]) (fun x=> ∃k:Nat,x.1=k/\x.2.1=(xs.length:Int) - 1 - k/\2*k<=xs.length+1/\WI xs x.2.2 k) (0,IntKind.i64.wrap (((iL xs).length:Int) - 1),xs) rfl ⟨0,rfl,by rw[hw0];simp,by omega,uW xs⟩ hs ?_;clear hs;rintro⟨i,j,ys⟩ Z ⟨k,hi,hj,hk,hh⟩ hs;dsimp only at hi hj hh hs;dsimp only;have hyl:=hh.1;by_cases hij:i<j
 .have hsv:(B7 v).isSome=true:=by
   rcases hv with h|⟨h1,h2⟩
   .exact h
   .rw[h2]at hj;simp at hj;omega
  have hwi:IntKind.i64.wrap (i+1)=i+1:=wrap64 (by omega) (by omega);have hwj:IntKind.i64.wrap (j - 1)=j - 1:=wrap64 (by omega) (by omega);obtain⟨a,ha⟩: ∃a,ys[i.toNat]? =some a:=⟨_,Cr (by omega)⟩
  obtain⟨b,hb⟩: ∃b,ys[j.toNat]? =some b:=⟨_,Cr (by omega)⟩
  conv=>whnf
  repeat'((first|clear U K|apply st|(apply zk;intro K U)|refine zY ?_|refine zs fun Z hs=>?_|refine oset (fun Z hs=>?_) (h1:=by rw[List.length_set];omega)|(refine zb (fun hc=>?_) (fun hc=>?_)<;>try exact⟨⟩)|fail)<;>conv=>whnf)
  have hik:i.toNat=k:=by omega
  have hjk:j.toNat=xs.length - 1 - k:=by omega
  refine⟨(IntKind.i64.wrap (i+1),IntKind.i64.wrap (j - 1),(ys.set i.toNat b).set j.toNat a),by dsimp only;rw[hwj];omega,rfl,⟨k+1,by dsimp only;rw[hwi];omega,by dsimp only;rw[hwj];omega,by omega,?_⟩,hs⟩;dsimp only;rw[hik]at ha ⊢;rw[hjk]at hb ⊢;exact eJ hh (by omega) ha hb
 .have he:=lg hh (by omega)
  conv=>whnf
  repeat'((first|clear U K|apply st|(apply zk;intro K U)|refine zY ?_|(refine zb (fun hc=>?_) (fun hc=>?_)<;>try exact⟨⟩)|fail)<;>conv=>whnf)
  subst he;exact As hs (List.Sublist.refl _) (.refl _) fun Z' hs'=>⟨_,⟨rfl,rfl⟩,hs'⟩
def Zq (p:Prog) (L:Nat) (l:List Int) (f:Bool) (hok:EM p) (hgw:DB (AL p)) (hfm: ∀x∈p.methods,DM (AL p) x.fact=true) (hl:Ud p l) (hnd:l.Nodup) (M:List (Int×Int)) :
    BT zP 184 [UC p L,.l (iL l) f] [.map L (LL p M)] fun r post=> ∃v M',r= .ret v/\post= [.own v 1 (iL (DN (Ay p) l.length (l.mergeSort Hn))),.map L (LL p M')]/\((B7 v).isSome=true\/(v= .l [] true/\DN (Ay p) l.length (l.mergeSort Hn)= [])):=by
 intro Z hs;have hM:=Mx;have h16:=hl.many;have hml:(l.mergeSort Hn).length=l.length:=List.length_mergeSort _;have c1:=S9 l f;have c2:=TD l f (by omega);refine jV kZ ?_
 conv=>whnf
 repeat'((first|clear U K|apply st|(apply zk;intro K U)|refine zY ?_|refine zs fun Z hs=>?_|refine zC ?_|refine zo fun nn hnn Z hs=>?_|fail)<;>conv=>whnf)
 clear c1 c2 hnn
 refine D1 (fun(x:List Int×Bool×V×List Int×List (Int×Int))=>x.1.length) (fun x=>[(5,x.2.2.1)]) (fun x=>[.box nn [.l (iL x.1) x.2.1],.own x.2.2.1 1 (iL x.2.2.2.1),.map L (LL p x.2.2.2.2)])
  (fun x=>(∀y∈x.1,BM p y=true)/\x.1.Nodup/\x.2.2.2.1.length+x.1.length<=16/\DN (Ay p) l.length (l.mergeSort Hn)=x.2.2.2.1++DN (Ay p) x.1.length x.1/\((B7 x.2.2.1).isSome=true\/(x.2.2.1= .l [] true/\x.2.2.2.1= []))) (l.mergeSort Hn,false,.l [] true,[],M) rfl ⟨fun y hy=>hl.GL y (List.mem_mergeSort.1 hy),(List.mergeSort_perm l Hn).symm.nodup hnd,by simpa[hml]using h16,by simp[hml],.inr ⟨rfl,rfl⟩⟩ ((Cp hs 1).perm (.swap _ _ _)) ?_
 clear hs;rintro⟨l',f',v,out,M⟩ Z ⟨hme,hn,hlen,hm,hv⟩ hs;dsimp only at hme hn hlen hm hv hs;dsimp only;have hll:out.length<AZ/\(out.length+1)*8<=140737488355328:=by omega
 by_cases hz:l'.length=0
 .rw[hz]at hm
  simp only[DN,GA]at hm
  conv=>whnf
  repeat'((first|clear U K|apply st|(apply zk;intro K U)|refine zY ?_|(refine zb (fun hc=>?_) (fun hc=>?_)<;>try exact⟨⟩)|fail)<;>conv=>whnf)
  refine(qe out v (by omega) hv).use (rest:=[_,_]) (hs.perm (.swap _ _ _)) ?_;clear hs;rintro r post Z ⟨v',rfl,rfl,hv'⟩ hs;refine zz ?_;(repeat clear U K);repeat intro K U
  rw[hm];exact As hs (.cons₂ _ (Ku _ _)) (.refl _) fun Z' hs'=>⟨_,⟨v',M,rfl,rfl,hv'⟩,hs'⟩
 .obtain⟨n,hnn⟩: ∃n,l'.length=n+1:=⟨l'.length - 1,by omega⟩
  have hne:l'≠[]:=fun e=>hz (by rw[e];rfl)
  obtain⟨i,hi⟩:=TV hok hne hme;have hil:i<l'.length:=by simpa using List.mem_of_find?_eq_some hi
  obtain⟨x,hx⟩: ∃x,l'[i]? =some x:=⟨_,Cr hil⟩
  rw[hnn,DN,hi,Option.getD_some,CS hx]at hm;have c3:=N4 l' f' x (by omega);rw[GZ hn hx]at c3;have hel:=List.length_eraseIdx_of_lt hil
  conv=>whnf
  repeat'((first|clear U K|apply st|(apply zk;intro K U)|refine zY ?_|(refine zb (fun hc=>?_) (fun hc=>?_)<;>try exact⟨⟩)|fail)<;>conv=>whnf)
  refine(JB 262 [] [.p nn 0,.rp [UC p L]] (fun M=>[.box nn [.l (iL l') f'],.map L (LL p M)]) _ _ (aN p L nn l' f' hok hgw hfm hme) l' f' M (HZ fun y hy _=>hme y hy)).use (rest:=[.own v 1 (iL out)]) (hs.perm (.cons _ (.swap _ _ _))) ?_;clear hs;rintro r post Z ⟨rfl,rfl⟩ hs;rw[bY,hi];generalize (Br _ l' 0 M).2=M2 at hs;dsimp only
  conv=>whnf
  repeat'((first|clear U K|apply st|(apply zk;intro K U)|refine zY ?_|refine zs fun Z hs=>?_|refine aq fun v Z hs hsl=>?_|refine zC ?_|fail)<;>conv=>whnf)
  refine⟨(l'.eraseIdx i,true,v,out++[x],M2),by dsimp only;omega,rfl,⟨fun y hy=>hme y (List.mem_of_mem_eraseIdx hy),hn.sublist (List.eraseIdx_sublist _ _),by simp;omega,?_,.inl hsl⟩,hs.perm (.cons _ (.swap _ _ _))⟩;dsimp only;rw[hm,hel,show l'.length - 1=n by omega];simp
def sJ (g:FuncId) (fi ca:List V) (q:Int×Int->Bool):Prop:= ∀v,Pure zP g (fi++[.a (pI v)]++ca) (.b (q v))
def sJ.use {g:FuncId} {fi ca:List V} {q:Int×Int->Bool} (h:sJ g fi ca q) {v:Int×Int} {Z:AE} {k kp:V->AE->Prop} (hk:k (.b (q v)) Z):Ao zP (.f (.func g) fi ca) [.a (pI v)] Z (qk k kp):=BN ((h v).use hk)
end Go.Gl
namespace Go.Gl
variable {P:Program} {Z:AE}
def Au.Om {f:FuncId} {args args':List V} {Z Z2:AE} {Q:R->AE->Prop} (h:Au P f args' Z2 Q) (hsub:Sub Z2 Z) (hf:DV Z Z2 args args'):Au P f args Z Q:=by
 refine⟨h.1,fun F w cs hR hv=>?_⟩;exact Calls.mono (h.2 F w cs (hR.drop hsub) ⟨by rw[hf.length];exact hv.1,hf.rel hR hsub (fun _ _ e=>e) hv.2⟩) fun e w' ⟨r,Z',hr,h1,h2,h3⟩=>⟨r,Z',hr,h1,h2,(B8.drop w hsub).trans h3⟩
def Pure.arg {f:FuncId} {args args':List V} {v:V} (h:Pure P f args' v) (hf:DV emp emp args args'):Pure P f args v:=Au.Om h (Sub.refl _) hf
def Own.s8 {v:V} {sz:Nat} {es es':List (List V)} (h:Own Z v sz es) (hR:FR Z emp es es'):Fw Z emp v (.l es' false):=by
 rcases h with⟨rfl,_⟩|⟨n,cap,rfl,hn⟩
 .exact .l (fun h=>(by cases h)) hR
 .exact .arr hn rfl rfl hR
inductive dD (Z Z':AE):Env->Env->Prop
 | nil:dD Z Z' [] []
 | cons {k:Nat} {v v':V} {e e':Env}:Fw Z Z' v v'->dD Z Z' e e'->dD Z Z' ((k,v)::e) ((k,v')::e')
def dD.efz {Z Z':AE} {e e':Env} (h:dD Z Z' e e'):EFz Z Z' e e':=by
 induction h with
 | nil=>intro j v2 hv;cases hv
 | cons h1 h2 ih=>
   rename_i k v v' e e';intro j v2 hv;simp only[get]at hv ⊢;cases hb:Nat.beq k j with
   | true=>
     rw[hb]at hv;simp only[cond_true,JD]at hv ⊢;subst hv;exact⟨v,rfl,h1⟩
   | false=>
     rw[hb]at hv;simp only[cond_false]at hv ⊢;exact ih j v2 hv
def AAt {env env2:Env} {K:Env->AE->Prop} {l:List At} (hs:Sat Z l) (i:Nat) {v:V} {sz:Nat} {es:List (List V)} (hi:l[i]? =some (.own v sz es))
    (he: ∀Z2,Fw Z Z2 v (.l es false)->dD Z Z2 env env2) (hk: ∀Z2,Sat Z2 (l.eraseIdx i)->K env2 Z2):Fz env Z K:=by
 obtain⟨Z2,h1,h2,h3⟩:=HC hs i hi;exact .inr ⟨env2,Z2,⟨fun n o2 ho=> .inl (h1 n o2 ho)⟩,(he Z2 h2).efz,hk Z2 h3⟩
def sqz {l:List Nat} {a b:AV} {Q:Ac->Env->AE->Prop} {env:Env} (h: ∀K:Env->AE->Prop,(∀env Z,(pk l env fun E=>Fz E Z (W P b Q))->K env Z)->W P a (Ac.andThen K Q) env Z):W P (.seq l a b) Q env Z:=yz h
end Go.Gl
namespace Go.Gl
open Go.Proofs
end Go.Gl
namespace Go.Gl
open Go.Proofs
attribute [local irreducible] Au Am Ab AR AK AY AQ AS AJ AX AN AP Ao Az Sat AU Ax Ad W
end Go.Gl
