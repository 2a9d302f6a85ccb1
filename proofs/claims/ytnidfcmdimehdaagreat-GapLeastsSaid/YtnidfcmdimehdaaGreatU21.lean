import Derived.Test.YtnidfcmdimehdaaGreatU13
import Derived.Test.YtnidfcmdimehdaaGreatU14
import Derived.Test.YtnidfcmdimehdaaGreatU15
import Derived.Test.YtnidfcmdimehdaaGreatU18
import Derived.Test.YtnidfcmdimehdaaGreatU20
set_option linter.all false
set_option linter.defProp false
set_option maxHeartbeats 8000000
noncomputable section
namespace Go.Gl
open Go.Proofs
attribute [local irreducible] As Af AV AQ AI AU AP AR AJ AT AM AN Ag Ar Sat AS Ap AX W
abbrev lG (ls:List (List Fact)):List (List V):=ls.map fun l=>[.l (facts l) false]
def DU (A B:List (List Fact)):List (List Fact):=A.flatMap fun x=>B.map fun y=>CL x y
def En (f:Fact) (l:List (Bool->List (List Fact))) (c:Bool):List (List Fact):=
 if f.op=1 then(if c then []else [[]])else
 if f.op=5 then(l.getD 0 (fun _=>[])) (!c)else
 if f.op=6\/f.op=7 then(if c != (f.op==7)then l.getD 0 (fun _=>[]) c++l.getD 1 (fun _=>[]) c else DU (l.getD 0 (fun _=>[]) c) (l.getD 1 (fun _=>[]) c))else
 if c then [[Ca f]]else [[f]]
def BC (f:Fact):Bool->List (List Fact):=f.Fv En
def E5 (f:Fact) (c:Bool):BC f c=En f (f.kids.map BC) c:=congrFun (Fact.CT En f) c
def Xj (f:Fact) (l:List Nat):Nat:=if f.op=5 then l.getD 0 0 else if f.op=6\/f.op=7 then l.getD 0 0+l.getD 1 0 else 1
def lv (f:Fact):Nat:=f.Fv Xj
def JH (f:Fact):lv f=Xj f (f.kids.map lv):=Fact.CT Xj f
def arity (f:Fact):Bool:=f.Fv fun f l=>f.kids.length==B2 f.op&&l.all id
def FU (f:Fact):arity f=(f.kids.length==B2 f.op&&f.kids.all arity):=by
 rw[arity,Fact.CT,List.all_map];rfl
def Am {w:AE} (f:Fact):An w f=true->arity f=true:=by
 induction f using Fact.ind with
 | h f ih=>
   intro h;rw[Be]at h;simp only[Cf,A7,DT]at h;rw[FU,A7,DT];exact⟨h.1.2.1,fun k hk=>ih k hk (h.2 k hk)⟩
def Dt {f:Fact} (h:arity f=true) (h5:f.op=5): ∃a,f.kids= [a]/\arity a=true:=by
 rw[FU,A7,DT,h5]at h;have hl:f.kids.length=1:=by simpa[B2]using h.1
 obtain⟨a,ha⟩:=List.length_eq_one_iff.1 hl;exact⟨a,ha,h.2 a (by rw[ha];exact .head _)⟩
def Ds {f:Fact} (h:arity f=true) (h6:f.op=6\/f.op=7): ∃a b,f.kids= [a,b]/\arity a=true/\arity b=true:=by
 rw[FU,A7,DT]at h
 have hl:f.kids.length=2:=by
  have h5:f.op≠5:=by omega
  simpa[B2,h5,h6]using h.1
 match hk:f.kids,hl with
 | [a,b],_=>exact⟨a,b,rfl,h.2 a (by rw[hk];exact .head _),h.2 b (by rw[hk];exact .tail _ (.head _))⟩
def X9 (f:Fact):arity f=true->1<=lv f:=by
 induction f using Fact.ind with
 | h f ih=>
   intro h;rw[JH,Xj];split
   .rename_i h5
    obtain⟨a,ha,hb⟩:=Dt h h5;rw[ha];exact ih a (by rw[ha];exact .head _) hb
   .split
    .rename_i h6
     obtain⟨a,b,ha,hb,_⟩:=Ds h h6;rw[ha];have:=ih a (by rw[ha];exact .head _) hb;simp only[Cn,List.getD_cons_zero];omega
    .omega
def mc {a b:Nat} (ha:1<=a) (hb:1<=b):2 ^ a+2 ^ b<=2 ^ (a+b):=by
 rw[Nat.pow_add];have h1:2<=2 ^ a:=by simpa using Nat.pow_le_pow_right (show 0<2 by omega) ha
 have h2:2<=2 ^ b:=by simpa using Nat.pow_le_pow_right (show 0<2 by omega) hb
 generalize 2 ^ a=x at *;generalize 2 ^ b=y at *;have:=Nat.mul_le_mul_left (x - 1) (show 1<=y - 1 by omega);obtain⟨x,rfl⟩: ∃u,x=u+1:=⟨x - 1,by omega⟩
 obtain⟨y,rfl⟩: ∃u,y=u+1:=⟨y - 1,by omega⟩
 simp only[Nat.add_sub_cancel,Nat.mul_one]at this;rw[Nat.add_mul,Nat.mul_add];omega
def Sq (A B:List (List Fact)):(DU A B).length=A.length*B.length:=by
 induction A with
 | nil=>simp[DU]
 | cons x r ih=>
   simp only[DU,List.flatMap_cons,Kt,Bh,JU]at *;rw[ih,Nat.add_mul];omega
def D9 (f : Fact):arity f=true-> ∀c,(BC f c).length<=2 ^ lv f/\ ∀l∈BC f c,l.length<=lv f:=by
 induction f using Fact.ind with
 | h f ih=>
   intro h c;rw[E5,JH,En,Xj];by_cases h1:f.op=1
   .have e5: ¬f.op=5:=by omega
    have e6: ¬(f.op=6\/f.op=7):=by omega
    rw[if_pos h1,if_neg e5,if_neg e6];cases c
    .rw[if_neg (by decide)]
     exact⟨by simp,fun l hl=>by simp at hl;subst hl;simp⟩
    .rw[if_pos rfl]
     exact⟨by simp,fun l hl=>by cases hl⟩
   rw[if_neg h1];by_cases h5:f.op=5
   .obtain⟨a,ha,hb⟩:=Dt h h5
    rw[if_pos h5,if_pos h5,ha];exact ih a (by rw[ha];exact .head _) hb (!c)
   rw[if_neg h5,if_neg h5];by_cases h6:f.op=6\/f.op=7
   .obtain⟨a,b,ha,hb1,hb2⟩:=Ds h h6
    rw[if_pos h6,if_pos h6,ha];simp only[Cn,List.map_nil,List.getD_cons_zero,List.getD_cons_succ];obtain⟨i1,i2⟩:=ih a (by rw[ha];exact .head _) hb1 c;obtain⟨j1,j2⟩:=ih b (by rw[ha];exact .tail _ (.head _)) hb2 c;have p1:=X9 a hb1;have p2:=X9 b hb2;split
    .refine⟨?_,fun l hl=>?_⟩
     .rw[Kt]
      have:=mc p1 p2;omega
     .rcases Du.1 hl with hl|hl
      .have:=i2 l hl;omega
      .have:=j2 l hl;omega
    .refine⟨?_,fun l hl=>?_⟩
     .rw[Sq,Nat.pow_add]
      exact Nat.mul_le_mul i1 j1
     .simp only[DU,List.mem_flatMap,GL]at hl
      obtain⟨x,hx,y,hy,rfl⟩:=hl;have:=Nz x y;have:=i2 x hx;have:=j2 y hy;omega
   .rw[if_neg h6,if_neg h6]
    cases c
    .exact⟨by simp,fun l hl=>by simp at hl;subst hl;simp⟩
    .exact⟨by simp,fun l hl=>by simp at hl;subst hl;simp⟩
def sO (f:Fact):arity f=true->2*lv f<=CA f+1:=by
 induction f using Fact.ind with
 | h f ih=>
   intro h;rw[JH,Xj,ET];by_cases h5:f.op=5
   .obtain⟨a,ha,hb⟩:=Dt h h5
    rw[if_pos h5,ha];have:=ih a (by rw[ha];exact .head _) hb;simp only[Cn,List.map_nil,List.getD_cons_zero,List.sum_cons,List.sum_nil];omega
   rw[if_neg h5];by_cases h6:f.op=6\/f.op=7
   .obtain⟨a,b,ha,hb1,hb2⟩:=Ds h h6
    rw[if_pos h6,ha];have:=ih a (by rw[ha];exact .head _) hb1;have:=ih b (by rw[ha];exact .tail _ (.head _)) hb2;simp only[Cn,List.map_nil,List.getD_cons_zero,List.getD_cons_succ,List.sum_cons,List.sum_nil];omega
   .rw[if_neg h6]
    omega
def MR {Z:AD} {es es':List (List V)} (hs:Sat Z []) (h:EL Z Z es es') (he: ∀e∈es',e.length=1):Af Z (.l es true) fun r Z'=> ∃post,(∃v,r= .ret v/\post= [.own v 1 es'])/\Sat Z' post:=
 Ft (fun _ _ h=>h) (.l (fun _=>rfl) h) ⟨_,⟨_,rfl,rfl⟩,lq hs he⟩
def iF (f : Fact):arity f=true->lv f<=28-> ∀c,BL zP 223 [.a (xF f),.b c] [] fun r post=> ∃v,r= .ret v/\post= [.own v 1 (lG (BC f c))]:=by
 induction f using Fact.ind with
 | h f ih =>
   intro h hlv c Z hs;refine As.fit (by kernel_rfl) fun hf=>?_
   have⟨h2,h3,h4⟩:=JK hf.1;have hM:=Mx;refine ui kZ ?_;rw[E5];rw[JH]at hlv;by_cases h5:f.op=5
   .obtain⟨a,ha,hb⟩:=Dt h h5
    have ha0:f.kids[Int.toNat 0]? =some a:=by rw[ha];rfl
    have hrec:=ih a (by rw[ha];exact .head _) hb (by simpa[Xj,h5,ha]using hlv) (!c)
    conv=>whnf
    repeat'((first|clear U K|apply st|(apply zk;intro K U)|refine zX ?_|(refine zb (fun hc=>?_) (fun hc=>?_)<;>try exact⟨⟩)|fail)<;>conv=>whnf)
    all_goals try(exfalso;omega)
    refine hrec.use (rest:=[]) hs ?_;clear hs;rintro r post Z ⟨v,rfl,rfl⟩ hs;refine zv ?_;(repeat clear U K);repeat intro K U
    refine Aj hs (List.Sublist.refl _) (.refl _) fun Z' hs'=>⟨_,⟨_,rfl,?_⟩,hs'⟩
    simp only[En,h5,ha];rfl
   by_cases h6:f.op=6\/f.op=7
   .obtain ⟨a,b,ha,hb1,hb2⟩:=Ds h h6
    have ha0:f.kids[Int.toNat 0]? =some a:=by rw[ha];rfl
    have ha1:f.kids[Int.toNat 1]? =some b:=by rw[ha];rfl
    have hlv2:lv a+lv b<=28:=by simpa[Xj,h5,h6,ha]using hlv
    have hrec:=ih a (by rw[ha];exact .head _) hb1 (by omega) c;have hrec2:=ih b (by rw[ha];exact .tail _ (.head _)) hb2 (by omega) c
    have hcg:En f (f.kids.map BC) c=if c != (f.op==7)then BC a c++BC b c else DU (BC a c) (BC b c):=by
     have h1: ¬f.op=1:=by omega
     simp only[En,if_neg h1,if_neg h5,if_pos h6,ha];rfl
    rw[hcg];obtain⟨i1,i2⟩:=D9 a hb1 c;obtain⟨j1,j2⟩:=D9 b hb2 c
    have hpw:2 ^ lv a*2 ^ lv b<=268435456:=by
     rw[<-Nat.pow_add];exact Nat.pow_le_pow_right (by omega) (show lv a+lv b<=28 from hlv2)
    have hAB:=Nat.le_trans (Nat.mul_le_mul i1 j1) hpw;have q1:1<=2 ^ lv a:=Nat.one_le_two_pow;have q2:1<=2 ^ lv b:=Nat.one_le_two_pow;have q3:2 ^ lv a<=268435456:=Nat.le_trans (Nat.le_mul_of_pos_right _ q2) hpw;have q4:2 ^ lv b<=268435456:=Nat.le_trans (Nat.le_mul_of_pos_left _ q1) hpw;generalize BC a c=LA at *;generalize BC b c=LB at *;have hgB:=DJ MP LB;clear hcg;generalize hres:(if c != (f.op==7)then LA++LB else DU LA LB)=RES;clear ih
    conv=>whnf
    repeat'((first|clear U K|apply st|(apply zk;intro K U)|refine zX ?_|(refine zb (fun hc=>?_) (fun hc=>?_)<;>try exact⟨⟩)|fail)<;>conv=>whnf)
    all_goals try(exfalso;omega)
    all_goals
     refine hrec.use (rest:=[]) hs ?_;clear hs;rintro r post Z ⟨v1,rfl,rfl⟩ hs
     conv=>whnf
     repeat'((first|apply st|refine zX ?_|refine rk ?_ ?_|exact fun s e=>by cases e;rfl|fail)<;>conv=>whnf)
     refine hrec2.use (pre:=[]) (rest:=[_]) hs ?_;clear hs;rintro r post Z ⟨v2,rfl,rfl⟩ hs
     conv=>whnf
     repeat'((first|clear U K|apply st|(apply zk;intro K U)|refine zX ?_|refine za (fun hc=>?_) fun hc=>?_|fail)<;>conv=>whnf)
    all_goals have hct:=hc
    all_goals clear hc
    all_goals first
     | (refine PJ hs 1 0 rfl rfl (by simp only[Bh];omega) hgB.1 hgB.2 fun v Z hs=>?_
        refine zv ?_;(repeat clear U K);repeat intro K U
        rw[hct,if_pos rfl]at hres;refine Aj (hs.less (HU _ _)) (List.Sublist.refl _) (.refl _) fun Z' hs'=>⟨_,⟨_,rfl,?_⟩,hs'⟩
        rw[<-hres];simp only[lG,ND]
        rfl)
     | (refine Ba LA.length (fun k v=>[(7,v),(52,eI (Au k))]) (fun k v=>[.own v2 1 (lG LB),.own v1 1 (lG LA),.own v 1 (lG (DU (LA.take k) LB))]) (fun _ _=>True) (.l [] true) rfl trivial (Ce hs 1) ?_
        clear hs;rintro k v Z hk - hs;rcases Aw LA hk with⟨x,hx,hlt⟩|hke
        .have hxl:=i2 x (BY hx)
         have hpk:DU (LA.take (k+1)) LB=DU (LA.take k) LB++LB.map fun y=>CL x y:=by
          rw[AO hx];simp[DU]
         have hpl:(DU (LA.take k) LB).length+LB.length<=LA.length*LB.length:=by
          rw[Sq,Ib,Nat.min_eq_left hk];have:=Ta LB.length (show k+1<=LA.length from hlt);rw[Nat.add_mul]at this;omega
         generalize DU (LA.take k) LB=pk0 at *;refine zv ?_;(repeat clear U K);repeat intro K U
         refine Ba LB.length (fun j v=>[(7,v),(58,eI (Au j))]) (fun j v=>[.own v2 1 (lG LB),.own v1 1 (lG LA),.own v 1 (lG (pk0++(LB.take j).map fun y=>CL x y))]) (fun _ _=>True) v rfl trivial (by simpa using hs) ?_;clear hs;rintro j v Z hj - hs;rcases Aw LB hj with⟨y,hy,hjlt⟩|hje
         .have hyl:=j2 y (BY hy)
          conv=>whnf
          repeat'((first|clear U K|apply st|(apply zk;intro K U)|refine zX ?_|refine aq fun v Z hs hsl=>?_|refine Pure.use (cY _ _ _ _ (by omega)) ?_|fail)<;>conv=>whnf)
          refine⟨hjlt,_,rfl,trivial,?_⟩;rw[AO hy,ND,<-NJ];exact hs
         .refine zv ?_;(repeat clear U K);repeat intro K U
          rw[Ak hje]at hs;exact⟨hlt,_,rfl,trivial,by rw[hpk];exact hs⟩
        .refine zv ?_;(repeat clear U K);repeat intro K U
         rw[Ak hke]at hs;rw[hct,if_neg (by decide)]at hres;rw[<-hres]
         refine Aj (hs.less ((HU _ _).trans (HU _ _))) (List.Sublist.refl _) (.refl _) fun Z' hs'=>⟨_,⟨_,rfl,rfl⟩,hs'⟩)
   .have e1:En f (f.kids.map BC) c=if f.op=1 then(if c then []else [[]])else if c then [[Ca f]]else [[f]]:=by
     simp only[En,if_neg h5,if_neg h6]
    rw[e1];clear e1
    conv=>whnf
    repeat'((first|clear U K|apply st|(apply zk;intro K U)|refine zX ?_|refine Pure.use (X8 _) ?_|(refine zb (fun hc=>?_) (fun hc=>?_)<;>try exact⟨⟩)|fail)<;>conv=>whnf)
    all_goals try(exfalso;omega)
    .subst hc
     rw[if_pos (by assumption),if_pos rfl];exact MR hs .nil (fun e h=>by cases h)
    .subst hc
     rw[if_pos (by assumption),if_neg (by decide)];refine MR hs (.cons (.cons BS .nil) .nil) ?_;intro e he;simp at he;subst he;rfl
    .subst hc
     rw[if_neg (by assumption),if_pos rfl];refine MR hs (.cons (.cons (.l (fun h=>by cases h) ?_) .nil) .nil) ?_
     .simp only[facts,List.map,A9]
      exact CU _
     .intro e he
      simp at he;subst he;rfl
    .subst hc
     rw[if_neg (by assumption),if_neg (by decide)];refine MR hs (.cons (.cons (.l (fun h=>by cases h) ?_) .nil) .nil) ?_
     .simp only[facts,List.map,A9]
      exact CU _
     .intro e he
      simp at he;subst he;rfl
def C1 (w:AE) (x:Fact):Prop:= ∃g,An w g=true/\Bu g=true/\(x=g\/x=Ca g)
def Fs {g:Fact} (h:Bu g=true):g.op=2\/g.op=3\/g.op=4:=by
 simp only[Bu,Ew,Cd]at h;omega
def C0 {w : AE} (f:Fact):An w f=true-> ∀c,∀l∈BC f c,∀x∈l,C1 w x:=by
 induction f using Fact.ind with
 | h f ih=>
   intro h c;have har:=Am f h;have h':=h;rw[Be,A7,DT]at h';rw[E5,En];by_cases h1:f.op=1
   .rw[if_pos h1]
    cases c
    .rw[if_neg (by decide)]
     intro l hl x hx;simp at hl;subst hl;cases hx
    .rw[if_pos rfl]
     intro l hl;cases hl
   rw[if_neg h1];by_cases h5:f.op=5
   .obtain⟨a,ha,hb⟩:=Dt har h5
    rw[if_pos h5,ha];exact ih a (by rw[ha];exact .head _) (h'.2 a (by rw[ha];exact .head _)) (!c)
   rw[if_neg h5];by_cases h6:f.op=6\/f.op=7
   .obtain⟨a,b,ha,hb1,hb2⟩:=Ds har h6
    rw[if_pos h6,ha];have i1:=ih a (by rw[ha];exact .head _) (h'.2 a (by rw[ha];exact .head _)) c;have j1:=ih b (by rw[ha];exact .tail _ (.head _)) (h'.2 b (by rw[ha];exact .tail _ (.head _))) c;simp only[Cn,List.map_nil,List.getD_cons_zero,List.getD_cons_succ];split
    .intro l hl
     rcases Du.1 hl with hl|hl
     .exact i1 l hl
     .exact j1 l hl
    .intro l hl x hx
     simp only[DU,List.mem_flatMap,GL]at hl;obtain⟨y,hy,z,hz,rfl⟩:=hl;rcases S2 _ _ _ hx with h|h
     .exact i1 y hy x h
     .exact j1 z hz x h
   .rw [if_neg h6]
    have hlf:Bu f=true:=by
     have ho:SH w f=true:=by
      have:=h'.1;simp only[Cf,A7]at this;exact this.1
     simp only[Bu,Ew,Cd];unfold SH at ho;split at ho
     .omega
     .split at ho
      .omega
      .simp only[Ew,Cd]at ho
       omega
    cases c
    .rw[if_neg (by decide)]
     intro l hl x hx;simp at hl;subst hl;simp at hx;subst hx;exact⟨x,h,hlf,.inl rfl⟩
    .rw[if_pos rfl]
     intro l hl x hx;simp at hl;subst hl;simp at hx;subst hx;exact⟨f,h,hlf,.inr rfl⟩
def IG {w:AE} {x:Fact} (h:C1 w x):E0 x/\An w (Ac x).1=true/\Bu (Ac x).1=true:=by
 obtain⟨g,hn,hl,rfl|rfl⟩:=h
 .have:=Fs hl
  have h5: ¬x.op=5:=by omega
  exact⟨fun e=>absurd e h5,by simp only[Ac,if_neg h5];exact⟨hn,hl⟩⟩
 .exact⟨fun _ e=>(by cases e),hn,hl⟩
def IF {w:AE} {l:List Fact} (h: ∀x∈l,C1 w x):(∀x∈l,E0 x)/\MC w l/\HZ l/\NV l 2:=by
 refine⟨fun x hx=>(IG (h x hx)).1,fun x hx h2=>?_,fun x hx=>?_,fun x hx=>?_⟩
 all_goals
  obtain⟨-,hn,hl⟩:=IG (h x hx);have hlo:=Fs hl;generalize (Ac x).1=g at *;rw[Be,A7]at hn;have hn:=hn.1;simp only[Cf,A7]at hn;obtain⟨ho,-,-,-,hp,-⟩:=hn
 .unfold SH at ho
  rw[if_pos h2]at ho;simp only[R3,A7,CF]at ho;exact ho.2
 .unfold SH at ho
  split at ho
  .simp only[A7,Cd]at ho
   omega
  .split at ho
   .simp only[A7,CF]at ho
    omega
   .omega
 .simp only[Ex,A7,CF]at hp
  omega
def Ry (w:AE) (f:Fact):Bool:=(BC f false).any (FC w)
def w7 (w:AE) (f:Fact) (hw:Ig w) (hn:An w f=true) (hlv:lv f<=28):Pure zP 221 [.a (Ax w),.a (xF f)] (.b (Ry w f)):=by
 have hM:=Mx;have har:=Am f hn;have hcl:=(D9 f har false).1;have hp:2 ^ lv f<=2 ^ 28:=Nat.pow_le_pow_right (by omega) hlv;have hlits:=C0 f hn false;refine uj kZ ?_;have hs:=Sn;refine zv ?_;(repeat clear U K);repeat intro K U
 refine(iF f har hlv false).use (rest:=[]) hs ?_;clear hs;rintro r post Z ⟨v,rfl,rfl⟩ hs;have hP:Ry w f=(BC f false).any (FC w):=rfl
 have hlen: ∀x∈BC f false,x.length<=1000000:=fun x hx=>by
  have:=(D9 f har false).2 x hx;omega
 generalize BC f false=cs at *;refine zv ?_;(repeat clear U K);repeat intro K U
 refine Ba cs.length (fun k (_:Unit)=>[(10,eI (Au k))]) (fun _ _=>[.own v 1 (lG cs)]) (fun k _=>Ry w f=(cs.drop k).any (FC w)) () rfl hP hs ?_;clear hs hP;rintro k - Z hk hP hs;rcases Aw cs hk with⟨x,hx,hlt⟩|hke
 .obtain⟨q1,q2,q3,q4⟩:=IF (hlits x (BY hx))
  have htog:=OS w x q1 (hlen x (BY hx)) hw q2 q3 q4;rw[drop_cons hx,Oj]at hP;cases ht:FC w x<;>rw[ht]at htog hP
  .conv=>whnf
   repeat'((first|clear U K|apply st|(apply zk;intro K U)|refine zX ?_|refine zC ?_|fail)<;>conv=>whnf)
   exact⟨hlt,(),rfl,hP,hs⟩
  .conv=>whnf
   repeat'((first|clear U K|apply st|(apply zk;intro K U)|refine zX ?_|refine zC ?_|fail)<;>conv=>whnf)
   exact AF (by rw[hP];rfl)
 .refine zv ?_;(repeat clear U K);repeat intro K U
  exact AF (by rw[hP,Ad hke];rfl)
def NQ (w:AE) (a b:Fact):Bool:= !Ry w (Jb a (Ca b))
def fy (a b:Fact):lv (Jb a (Ca b))=lv a+lv b:=by
 rw[JH];simp only[Xj,Jb,Fact.op,Fact.kids,Cn,List.map_nil,List.getD_cons_zero,List.getD_cons_succ];rw[JH (Ca b)];simp[Xj,Ca,Fact.op,Fact.kids]
def QL {w:AE} {a b:Fact} (ha:An w a=true) (hb:An w b=true):An w (Jb a (Ca b))=true:=by
 have hnb:An w (Ca b)=true:=by
  rw[Be];simp[Ca,Cf,SH,Fact.op,Fact.kids,Fact.arg,Fact.path,Fact.cls,Fact.n,B2,Ex,Bu,hb]
 rw[Be];simp[Jb,Cf,SH,Fact.op,Fact.kids,Fact.arg,Fact.path,Fact.cls,Fact.n,B2,Ex,Bu,ha,hnb]
def ct (w:AE) (a b:Fact) (hw:Ig w) (ha:An w a=true) (hb:An w b=true) (la:lv a<=12) (lb:lv b<=12):Pure zP 175 [.a (Ax w),.a (xF a),.a (xF b)] (.b (NQ w a b)):=by
 refine vO kZ ?_;have hs:=Sn
 conv=>whnf
 repeat'((first|clear U K|apply st|(apply zk;intro K U)|refine zX ?_|refine rk ?_ ?_|exact fun s e=>by cases e;rfl|refine Pure.use (X8 _) ?_|refine Pure.use (iA _ _) ?_|refine Pure.use (w7 _ _ hw (QL ha hb) (by rw[fy];omega)) ?_|fail)<;>conv=>whnf)
 all_goals exact AF rfl
def V7 {p:Prog}: ∀ {ms:List L5} {s:List Int},(runM p ms s).isSome=true-> ∀m∈ms,PW p m=true
 | [],_,_,_,h=>by cases h
 | m ::r,s,h,x,hx=>by
   rw[runM]at h;split at h
   .rename_i hok
    split at h
    .cases h
    .rcases Ff.1 hx with rfl|hx
     .exact hok
     .exact V7 h x hx
   .cases h
def E3 {p:Prog} (h:(BQ p).isSome=true):Cx p=true/\ ∀m∈p.methods,PW p m=true:=by
 unfold BQ at h;split at h
 .rename_i hh
  refine⟨hh,?_⟩;split at h
  .cases h
  .rename_i s hs
   exact V7 (by rw[hs];rfl)
 .cases h
structure EN (p:Prog):Prop where
 dw:Ig (AG p)
 AL:Bl p.AK<=AZ
 pV:p.AK.length<=1000
 facts: ∀m∈p.methods,An (AG p) m.fact=true/\lv m.fact<=12
 many:p.methods.length<=16
def look_ok {p:Prog} (h:(BQ p).isSome=true):EN p:=by
 obtain⟨hh,hm⟩:=E3 h;simp only[Cx,A7,CF]at hh;have hc:=hh.1;simp only[BA,A7,CF]at hc;have hM:=Mx;refine⟨Qo hc.1 hc.2.1 hc.2.2.2.1,by have:=(Fj _ _ hc.2.1).1;omega,by have:=hc.1;omega,fun m h=>?_,hh.2.2.1⟩;have:=hm m h;simp only[PW,Bv,A7,CF]at this;have hn:=this.2.2.2.2.1.2.2;refine⟨hn,?_⟩;have hcn:=Ix m.fact 24 (by omega) this.2.2.2.2.1.1;have:=sO m.fact (Am _ hn);omega
def BG (p:Prog) (m:Int):Bool:=decide (0<=m)&&decide (m<(p.methods.length:Int))
def BK (p:Prog) (m:Int):L5:=p.methods.getD m.toNat default
def Br {p:Prog} {m:Int} (h:BG p m=true):p.methods[m.toNat]? =some (BK p m):=by
 simp only[BG,A7,CF]at h;rw[BK,Co,CQ (by omega)];rfl
def Dk (p:Prog) (m n:Int):Bool:=(BK p m).gen==(BK p n).gen&&(BK p m).kind==(BK p n).kind
def GY (p:Prog) (m n:Int):Bool:=NQ (AG p) (BK p m).fact (BK p n).fact
def Az (p:Prog) (m n:Int):Bool:=GY p m n&& !GY p n m
def oj (p:Prog) (m n:Int) (hm:BG p m=true) (hn:BG p n=true):Pure zP 174 [.a (A3 p),eI m,eI n] (.b (Dk p m n)):=by
 refine Pure.fit (by kernel_rfl) fun hf=>?_
 have⟨p1,p2,p3,p4⟩:=F0 hf.1;have hxm:=Br hm;have hxn:=Br hn;simp only[BG,A7,CF]at hm hn;refine vP kZ ?_;have hs:=Sn
 conv=>whnf
 repeat'((first|clear U K|apply st|(apply zk;intro K U)|refine zX ?_|refine za (fun hc=>?_) fun hc=>?_|fail)<;>conv=>whnf)
 all_goals exact AF (by simp[Dk, *])
abbrev pI (p:Int×Int):List V:=[eI p.1,eI p.2]
abbrev pP (l:List (Int×Int)):List (List V):=l.map pI
def R2 (p:Prog) (g:Int):Bool:=decide (0<=g)&&decide (g<(p.Cc.length:Int))
def yi (p:Prog) (g:Int):Pure zP 70 [.a (A3 p),eI g] (.b (R2 p g)):=by
 refine Pure.fit (by kernel_rfl) fun hf=>?_
 have⟨p1,p2,p3,p4⟩:=F0 hf.1;refine y8 kZ ?_;have hs:=Sn
 conv=>whnf
 repeat'((first|clear U K|apply st|(apply zk;intro K U)|refine zY ?_|refine za (fun hc=>?_) fun hc=>?_|fail)<;>conv=>whnf)
 all_goals exact AF (by simp[R2, *]<;>omega)
abbrev Ob:=Int×List (Int×Int)
abbrev eOb (o:Ob):List V:=[eI o.1,.l (pP o.2) false]
end Go.Gl
namespace Go.Gl
open Go.Proofs
section
variable {H:Type} {enc:TypeId×Value->H} {W:World}
end
structure Giv where
 p:Prog
 gen:Int
 ms:List Int
 cl:List Int
 st:Int
abbrev Xu (g:Giv):List V:=A3 g.p++([eI g.gen]++([.l (iL g.ms) false]++([.l (iL g.cl) false]++([eI g.st]++[]))))
section
variable {H:Type} {enc:TypeId×Value->H} {W:World}
def yK:VE enc Tryz.prog W 48 Xu:=fun n=>
 Il (GU Tryz.underlying48
  (fun n=>BN (c:=6) rfl (by kernel_rfl) (fun _=>rfl) (rR n)
   (BN (c:=1) rfl (by kernel_rfl) (fun _=>rfl) (Oo n) (BN (c:=1) rfl (by kernel_rfl) (fun _=>rfl) (Pn n)
    (BN (c:=1) rfl (by kernel_rfl) (fun _=>rfl) (Pn n) (BN (c:=1) rfl (by kernel_rfl) (fun _=>rfl) (Pz Tryz.underlying34 n) Im))))) (fun _=>(show _=10 from rfl).trans (by kernel_rfl)) n) (fun x=>⟨x.1,x.2.1,x.2.2.1,x.2.2.2.1,x.2.2.2.2.1⟩) fun _=>rfl
end
end Go.Gl
