import Derived.Test.YtcfkfhaedllcpaaGreatW14
import Derived.Test.YtcfkfhaedllcpaaGreatW15
import Derived.Test.YtcfkfhaedllcpaaGreatW18
import Derived.Test.YtcfkfhaedllcpaaGreatW20
set_option linter.all false
set_option linter.defProp false
set_option maxHeartbeats 8000000
noncomputable section
namespace Go.Gl
open Go.Proofs
attribute [local irreducible] A3 Aq Af AR AJ Ad AQ AT AK Ac AM AN Ax A5 Sat AX A4 Ah W
abbrev kB (ls:List (List Fact)):List (List V):=ls.map fun l=>[.l (facts l) false]
def Da (A B:List (List Fact)):List (List Fact):=A.flatMap fun x=>B.map fun y=>CL x y
def FH (f:Fact) (l:List (Bool->List (List Fact))) (c:Bool):List (List Fact):=
 if f.op=1 then(if c then []else [[]])else
 if f.op=5 then(l.getD 0 (fun _=>[])) (!c)else
 if f.op=6\/f.op=7 then(if c != (f.op==7)then l.getD 0 (fun _=>[]) c++l.getD 1 (fun _=>[]) c else Da (l.getD 0 (fun _=>[]) c) (l.getD 1 (fun _=>[]) c))else
 if c then [[FV f]]else [[f]]
def BG (f:Fact):Bool->List (List Fact):=f.Hp FH
def F1 (f:Fact) (c:Bool):BG f c=FH f (f.kids.map BG) c:=congrFun (Fact.Du FH f) c
def dX (f:Fact) (l:List Nat):Nat:=if f.op=5 then l.getD 0 0 else if f.op=6\/f.op=7 then l.getD 0 0+l.getD 1 0 else 1
def lv (f:Fact):Nat:=f.Hp dX
def Ns (f:Fact):lv f=dX f (f.kids.map lv):=Fact.Du dX f
def arity (f:Fact):Bool:=f.Hp fun f l=>f.kids.length==CR f.op&&l.all id
def MG (f:Fact):arity f=(f.kids.length==CR f.op&&f.kids.all arity):=by
 rw[arity,Fact.Du,List.all_map];rfl
def Cr {w:AI} (f:Fact):Bh w f=true->arity f=true:=by
 induction f using Fact.ind with
 | h f ih=>
   intro h;rw[Cp]at h;simp only[C6,BD,E3]at h;rw[MG,BD,E3];exact⟨h.1.2.1,fun k hk=>ih k hk (h.2 k hk)⟩
def H5 {f:Fact} (h:arity f=true) (h5:f.op=5): ∃a,f.kids= [a]/\arity a=true:=by
 rw[MG,BD,E3,h5]at h;have hl:f.kids.length=1:=by simpa[CR]using h.1
 obtain⟨a,ha⟩:=List.length_eq_one_iff.1 hl;exact⟨a,ha,h.2 a (by rw[ha];exact .head _)⟩
def H4 {f:Fact} (h:arity f=true) (h6:f.op=6\/f.op=7): ∃a b,f.kids= [a,b]/\arity a=true/\arity b=true:=by
 rw[MG,BD,E3]at h
 have hl:f.kids.length=2:=by
  have h5:f.op≠5:=by omega
  simpa[CR,h5,h6]using h.1
 match hk:f.kids,hl with
 | [a,b],_=>exact⟨a,b,rfl,h.2 a (by rw[hk];exact .head _),h.2 b (by rw[hk];exact .tail _ (.head _))⟩
def fS (f:Fact):arity f=true->1<=lv f:=by
 induction f using Fact.ind with
 | h f ih=>
   intro h;rw[Ns,dX];split
   .rename_i h5
    obtain⟨a,ha,hb⟩:=H5 h h5;rw[ha];exact ih a (by rw[ha];exact .head _) hb
   .split
    .rename_i h6
     obtain⟨a,b,ha,hb,_⟩:=H4 h h6;rw[ha];have:=ih a (by rw[ha];exact .head _) hb;simp only[Ex,List.getD_cons_zero];omega
    .omega
def lR {a b:Nat} (ha:1<=a) (hb:1<=b):2 ^ a+2 ^ b<=2 ^ (a+b):=by
 rw[Nat.pow_add];have h1:2<=2 ^ a:=by simpa using Nat.pow_le_pow_right (show 0<2 by omega) ha
 have h2:2<=2 ^ b:=by simpa using Nat.pow_le_pow_right (show 0<2 by omega) hb
 generalize 2 ^ a=x at *;generalize 2 ^ b=y at *;have:=Nat.mul_le_mul_left (x - 1) (show 1<=y - 1 by omega);obtain⟨x,rfl⟩: ∃u,x=u+1:=⟨x - 1,by omega⟩
 obtain⟨y,rfl⟩: ∃u,y=u+1:=⟨y - 1,by omega⟩
 simp only[Nat.add_sub_cancel,Nat.mul_one]at this;rw[Nat.add_mul,Nat.mul_add];omega
def R9 (A B:List (List Fact)):(Da A B).length=A.length*B.length:=by
 induction A with
 | nil=>simp[Da]
 | cons x r ih=>
   simp only[Da,List.flatMap_cons,RQ,BU,LF]at *;rw[ih,Nat.add_mul];omega
def ET (f : Fact):arity f=true-> ∀c,(BG f c).length<=2 ^ lv f/\ ∀l∈BG f c,l.length<=lv f:=by
 induction f using Fact.ind with
 | h f ih=>
   intro h c;rw[F1,Ns,FH,dX];by_cases h1:f.op=1
   .have e5: ¬f.op=5:=by omega
    have e6: ¬(f.op=6\/f.op=7):=by omega
    rw[if_pos h1,if_neg e5,if_neg e6];cases c
    .rw[if_neg (by decide)]
     exact⟨by simp,fun l hl=>by simp at hl;subst hl;simp⟩
    .rw[if_pos rfl]
     exact⟨by simp,fun l hl=>by cases hl⟩
   rw[if_neg h1];by_cases h5:f.op=5
   .obtain⟨a,ha,hb⟩:=H5 h h5
    rw[if_pos h5,if_pos h5,ha];exact ih a (by rw[ha];exact .head _) hb (!c)
   rw[if_neg h5,if_neg h5];by_cases h6:f.op=6\/f.op=7
   .obtain⟨a,b,ha,hb1,hb2⟩:=H4 h h6
    rw[if_pos h6,if_pos h6,ha];simp only[Ex,List.map_nil,List.getD_cons_zero,List.getD_cons_succ];obtain⟨i1,i2⟩:=ih a (by rw[ha];exact .head _) hb1 c;obtain⟨j1,j2⟩:=ih b (by rw[ha];exact .tail _ (.head _)) hb2 c;have p1:=fS a hb1;have p2:=fS b hb2;split
    .refine⟨?_,fun l hl=>?_⟩
     .rw[RQ]
      have:=lR p1 p2;omega
     .rcases E4.1 hl with hl|hl
      .have:=i2 l hl;omega
      .have:=j2 l hl;omega
    .refine⟨?_,fun l hl=>?_⟩
     .rw[R9,Nat.pow_add]
      exact Nat.mul_le_mul i1 j1
     .simp only[Da,List.mem_flatMap,Mg]at hl
      obtain⟨x,hx,y,hy,rfl⟩:=hl;have:=NV x y;have:=i2 x hx;have:=j2 y hy;omega
   .rw[if_neg h6,if_neg h6]
    cases c
    .exact⟨by simp,fun l hl=>by simp at hl;subst hl;simp⟩
    .exact⟨by simp,fun l hl=>by simp at hl;subst hl;simp⟩
def qx (f:Fact):arity f=true->2*lv f<=Me f+1:=by
 induction f using Fact.ind with
 | h f ih=>
   intro h;rw[Ns,dX,Kf];by_cases h5:f.op=5
   .obtain⟨a,ha,hb⟩:=H5 h h5
    rw[if_pos h5,ha];have:=ih a (by rw[ha];exact .head _) hb;simp only[Ex,List.map_nil,List.getD_cons_zero,List.sum_cons,List.sum_nil];omega
   rw[if_neg h5];by_cases h6:f.op=6\/f.op=7
   .obtain⟨a,b,ha,hb1,hb2⟩:=H4 h h6
    rw[if_pos h6,ha];have:=ih a (by rw[ha];exact .head _) hb1;have:=ih b (by rw[ha];exact .tail _ (.head _)) hb2;simp only[Ex,List.map_nil,List.getD_cons_zero,List.getD_cons_succ,List.sum_cons,List.sum_nil];omega
   .rw[if_neg h6]
    omega
def Oo {Z:AE} {es es':List (List V)} (hs:Sat Z []) (h:D7 Z Z es es') (he: ∀e∈es',e.length=1):Aq Z (.l es true) fun r Z'=> ∃post,(∃v,r= .ret v/\post= [.own v 1 es'])/\Sat Z' post:=
 Gg (fun _ _ h=>h) (.l (fun _=>rfl) h) ⟨_,⟨_,rfl,rfl⟩,kP hs he⟩
def vK (f : Fact):arity f=true->lv f<=28-> ∀c,Bc zP 256 [.a (xF f),.b c] [] fun r post=> ∃v,r= .ret v/\post= [.own v 1 (kB (BG f c))]:=by
 induction f using Fact.ind with
 | h f ih =>
   intro h hlv c Z hs;refine A3.fit (by kernel_rfl) fun hf=>?_
   have⟨h2,h3,h4⟩:=J8 hf.1;have hM:=Mx;refine tn kZ ?_;rw[F1];rw[Ns]at hlv;by_cases h5:f.op=5
   .obtain⟨a,ha,hb⟩:=H5 h h5
    have ha0:f.kids[Int.toNat 0]? =some a:=by rw[ha];rfl
    have hrec:=ih a (by rw[ha];exact .head _) hb (by simpa[dX,h5,ha]using hlv) (!c)
    conv=>whnf
    repeat'((first|clear U K|apply st|(apply zk;intro K U)|refine zX ?_|(refine zb (fun hc=>?_) (fun hc=>?_)<;>try exact⟨⟩)|fail)<;>conv=>whnf)
    all_goals try(exfalso;omega)
    refine hrec.use (rest:=[]) hs ?_;clear hs;rintro r post Z ⟨v,rfl,rfl⟩ hs;refine zv ?_;(repeat clear U K);repeat intro K U
    refine Ak hs (List.Sublist.refl _) (.refl _) fun Z' hs'=>⟨_,⟨_,rfl,?_⟩,hs'⟩
    simp only[FH,h5,ha];rfl
   by_cases h6:f.op=6\/f.op=7
   .obtain ⟨a,b,ha,hb1,hb2⟩:=H4 h h6
    have ha0:f.kids[Int.toNat 0]? =some a:=by rw[ha];rfl
    have ha1:f.kids[Int.toNat 1]? =some b:=by rw[ha];rfl
    have hlv2:lv a+lv b<=28:=by simpa[dX,h5,h6,ha]using hlv
    have hrec:=ih a (by rw[ha];exact .head _) hb1 (by omega) c;have hrec2:=ih b (by rw[ha];exact .tail _ (.head _)) hb2 (by omega) c
    have hcg:FH f (f.kids.map BG) c=if c != (f.op==7)then BG a c++BG b c else Da (BG a c) (BG b c):=by
     have h1: ¬f.op=1:=by omega
     simp only[FH,if_neg h1,if_neg h5,if_pos h6,ha];rfl
    rw[hcg];obtain⟨i1,i2⟩:=ET a hb1 c;obtain⟨j1,j2⟩:=ET b hb2 c
    have hpw:2 ^ lv a*2 ^ lv b<=268435456:=by
     rw[<-Nat.pow_add];exact Nat.pow_le_pow_right (by omega) (show lv a+lv b<=28 from hlv2)
    have hAB:=Nat.le_trans (Nat.mul_le_mul i1 j1) hpw;have q1:1<=2 ^ lv a:=Nat.one_le_two_pow;have q2:1<=2 ^ lv b:=Nat.one_le_two_pow;have q3:2 ^ lv a<=268435456:=Nat.le_trans (Nat.le_mul_of_pos_right _ q2) hpw;have q4:2 ^ lv b<=268435456:=Nat.le_trans (Nat.le_mul_of_pos_left _ q1) hpw;generalize BG a c=LA at *;generalize BG b c=LB at *;have hgB:=C4 Li LB;clear hcg;generalize hres:(if c != (f.op==7)then LA++LB else Da LA LB)=RES;clear ih
    conv=>whnf
    repeat'((first|clear U K|apply st|(apply zk;intro K U)|refine zX ?_|(refine zb (fun hc=>?_) (fun hc=>?_)<;>try exact⟨⟩)|fail)<;>conv=>whnf)
    all_goals try(exfalso;omega)
    all_goals
     refine hrec.use (rest:=[]) hs ?_;clear hs;rintro r post Z ⟨v1,rfl,rfl⟩ hs
     conv=>whnf
     repeat'((first|apply st|refine zX ?_|refine rk ?_ ?_|exact fun s e=>by cases e;rfl|fail)<;>conv=>whnf)
     refine hrec2.use (pre:=[]) (rest:=[_]) hs ?_;clear hs;rintro r post Z ⟨v2,rfl,rfl⟩ hs
     conv=>whnf
     repeat'((first|clear U K|apply st|(apply zk;intro K U)|refine zX ?_|refine za (fun hc=>?_) fun hc=>?_|fail)<;>conv=>whnf)
    all_goals have hct:=hc
    all_goals clear hc
    all_goals first
     | (refine T6 hs 1 0 rfl rfl (by simp only[BU];omega) hgB.1 hgB.2 fun v Z hs=>?_
        refine zv ?_;(repeat clear U K);repeat intro K U
        rw[hct,if_pos rfl]at hres;refine Ak (hs.less (Mc _ _)) (List.Sublist.refl _) (.refl _) fun Z' hs'=>⟨_,⟨_,rfl,?_⟩,hs'⟩
        rw[<-hres];simp only[kB,Uf]
        rfl)
     | (refine B0 LA.length (fun k v=>[(7,v),(52,eI (A8 k))]) (fun k v=>[.own v2 1 (kB LB),.own v1 1 (kB LA),.own v 1 (kB (Da (LA.take k) LB))]) (fun _ _=>True) (.l [] true) rfl trivial (El hs 1) ?_
        clear hs;rintro k v Z hk - hs;rcases BC LA hk with⟨x,hx,hlt⟩|hke
        .have hxl:=i2 x (B1 hx)
         have hpk:Da (LA.take (k+1)) LB=Da (LA.take k) LB++LB.map fun y=>CL x y:=by
          rw[AL hx];simp[Da]
         have hpl:(Da (LA.take k) LB).length+LB.length<=LA.length*LB.length:=by
          rw[R9,Mf,Nat.min_eq_left hk];have:=UW LB.length (show k+1<=LA.length from hlt);rw[Nat.add_mul]at this;omega
         generalize Da (LA.take k) LB=pk0 at *;refine zv ?_;(repeat clear U K);repeat intro K U
         refine B0 LB.length (fun j v=>[(7,v),(58,eI (A8 j))]) (fun j v=>[.own v2 1 (kB LB),.own v1 1 (kB LA),.own v 1 (kB (pk0++(LB.take j).map fun y=>CL x y))]) (fun _ _=>True) v rfl trivial (by simpa using hs) ?_;clear hs;rintro j v Z hj - hs;rcases BC LB hj with⟨y,hy,hjlt⟩|hje
         .have hyl:=j2 y (B1 hy)
          conv=>whnf
          repeat'((first|clear U K|apply st|(apply zk;intro K U)|refine zX ?_|refine aq fun v Z hs hsl=>?_|refine Pure.use (bz _ _ _ _ (by omega)) ?_|fail)<;>conv=>whnf)
          refine⟨hjlt,_,rfl,trivial,?_⟩;rw[AL hy,Uf,<-Wx];exact hs
         .refine zv ?_;(repeat clear U K);repeat intro K U
          rw[Au hje]at hs;exact⟨hlt,_,rfl,trivial,by rw[hpk];exact hs⟩
        .refine zv ?_;(repeat clear U K);repeat intro K U
         rw[Au hke]at hs;rw[hct,if_neg (by decide)]at hres;rw[<-hres]
         refine Ak (hs.less ((Mc _ _).trans (Mc _ _))) (List.Sublist.refl _) (.refl _) fun Z' hs'=>⟨_,⟨_,rfl,rfl⟩,hs'⟩)
   .have e1:FH f (f.kids.map BG) c=if f.op=1 then(if c then []else [[]])else if c then [[FV f]]else [[f]]:=by
     simp only[FH,if_neg h5,if_neg h6]
    rw[e1];clear e1
    conv=>whnf
    repeat'((first|clear U K|apply st|(apply zk;intro K U)|refine zX ?_|refine Pure.use (fP _) ?_|(refine zb (fun hc=>?_) (fun hc=>?_)<;>try exact⟨⟩)|fail)<;>conv=>whnf)
    all_goals try(exfalso;omega)
    .subst hc
     rw[if_pos (by assumption),if_pos rfl];exact Oo hs .nil (fun e h=>by cases h)
    .subst hc
     rw[if_pos (by assumption),if_neg (by decide)];refine Oo hs (.cons (.cons H2 .nil) .nil) ?_;intro e he;simp at he;subst he;rfl
    .subst hc
     rw[if_neg (by assumption),if_pos rfl];refine Oo hs (.cons (.cons (.l (fun h=>by cases h) ?_) .nil) .nil) ?_
     .simp only[facts,List.map,BV]
      exact Ea _
     .intro e he
      simp at he;subst he;rfl
    .subst hc
     rw[if_neg (by assumption),if_neg (by decide)];refine Oo hs (.cons (.cons (.l (fun h=>by cases h) ?_) .nil) .nil) ?_
     .simp only[facts,List.map,BV]
      exact Ea _
     .intro e he
      simp at he;subst he;rfl
def Is (w:AI) (x:Fact):Prop:= ∃g,Bh w g=true/\B7 g=true/\(x=g\/x=FV g)
def Fq {g:Fact} (h:B7 g=true):g.op=2\/g.op=3\/g.op=4:=by
 simp only[B7,Fl,EU]at h;omega
def Ec {w : AI} (f:Fact):Bh w f=true-> ∀c,∀l∈BG f c,∀x∈l,Is w x:=by
 induction f using Fact.ind with
 | h f ih=>
   intro h c;have har:=Cr f h;have h':=h;rw[Cp,BD,E3]at h';rw[F1,FH];by_cases h1:f.op=1
   .rw[if_pos h1]
    cases c
    .rw[if_neg (by decide)]
     intro l hl x hx;simp at hl;subst hl;cases hx
    .rw[if_pos rfl]
     intro l hl;cases hl
   rw[if_neg h1];by_cases h5:f.op=5
   .obtain⟨a,ha,hb⟩:=H5 har h5
    rw[if_pos h5,ha];exact ih a (by rw[ha];exact .head _) (h'.2 a (by rw[ha];exact .head _)) (!c)
   rw[if_neg h5];by_cases h6:f.op=6\/f.op=7
   .obtain⟨a,b,ha,hb1,hb2⟩:=H4 har h6
    rw[if_pos h6,ha];have i1:=ih a (by rw[ha];exact .head _) (h'.2 a (by rw[ha];exact .head _)) c;have j1:=ih b (by rw[ha];exact .tail _ (.head _)) (h'.2 b (by rw[ha];exact .tail _ (.head _))) c;simp only[Ex,List.map_nil,List.getD_cons_zero,List.getD_cons_succ];split
    .intro l hl
     rcases E4.1 hl with hl|hl
     .exact i1 l hl
     .exact j1 l hl
    .intro l hl x hx
     simp only[Da,List.mem_flatMap,Mg]at hl;obtain⟨y,hy,z,hz,rfl⟩:=hl;rcases SP _ _ _ hx with h|h
     .exact i1 y hy x h
     .exact j1 z hz x h
   .rw [if_neg h6]
    have hlf:B7 f=true:=by
     have ho:W7 w f=true:=by
      have:=h'.1;simp only[C6,BD]at this;exact this.1
     simp only[B7,Fl,EU];unfold W7 at ho;split at ho
     .omega
     .split at ho
      .omega
      .simp only[Fl,EU]at ho
       omega
    cases c
    .rw[if_neg (by decide)]
     intro l hl x hx;simp at hl;subst hl;simp at hx;subst hx;exact⟨x,h,hlf,.inl rfl⟩
    .rw[if_pos rfl]
     intro l hl x hx;simp at hl;subst hl;simp at hx;subst hx;exact⟨f,h,hlf,.inr rfl⟩
def HS {w:AI} {x:Fact} (h:Is w x):F8 x/\Bh w (Av x).1=true/\B7 (Av x).1=true:=by
 obtain⟨g,hn,hl,rfl|rfl⟩:=h
 .have:=Fq hl
  have h5: ¬x.op=5:=by omega
  exact⟨fun e=>absurd e h5,by simp only[Av,if_neg h5];exact⟨hn,hl⟩⟩
 .exact⟨fun _ e=>(by cases e),hn,hl⟩
def JG {w:AI} {l:List Fact} (h: ∀x∈l,Is w x):(∀x∈l,F8 x)/\VI w l/\KW l/\TL l 2:=by
 refine⟨fun x hx=>(HS (h x hx)).1,fun x hx h2=>?_,fun x hx=>?_,fun x hx=>?_⟩
 all_goals
  obtain⟨-,hn,hl⟩:=HS (h x hx);have hlo:=Fq hl;generalize (Av x).1=g at *;rw[Cp,BD]at hn;have hn:=hn.1;simp only[C6,BD]at hn;obtain⟨ho,-,-,-,hp,-⟩:=hn
 .unfold W7 at ho
  rw[if_pos h2]at ho;simp only[Q7,BD,CN]at ho;exact ho.2
 .unfold W7 at ho
  split at ho
  .simp only[BD,EU]at ho
   omega
  .split at ho
   .simp only[BD,CN]at ho
    omega
   .omega
 .simp only[E5,BD,CN]at hp
  omega
def Q4 (w:AI) (f:Fact):Bool:=(BG f false).any (Gn w)
def vG (w:AI) (f:Fact) (hw:UZ w) (hn:Bh w f=true) (hlv:lv f<=28):Pure zP 192 [.a (A1 w),.a (xF f)] (.b (Q4 w f)):=by
 have hM:=Mx;have har:=Cr f hn;have hcl:=(ET f har false).1;have hp:2 ^ lv f<=2 ^ 28:=Nat.pow_le_pow_right (by omega) hlv;have hlits:=Ec f hn false;refine uU kZ ?_;have hs:=Sn;refine zv ?_;(repeat clear U K);repeat intro K U
 refine(vK f har hlv false).use (rest:=[]) hs ?_;clear hs;rintro r post Z ⟨v,rfl,rfl⟩ hs;have hP:Q4 w f=(BG f false).any (Gn w):=rfl
 have hlen: ∀x∈BG f false,x.length<=1000000:=fun x hx=>by
  have:=(ET f har false).2 x hx;omega
 generalize BG f false=cs at *;refine zv ?_;(repeat clear U K);repeat intro K U
 refine B0 cs.length (fun k (_:Unit)=>[(10,eI (A8 k))]) (fun _ _=>[.own v 1 (kB cs)]) (fun k _=>Q4 w f=(cs.drop k).any (Gn w)) () rfl hP hs ?_;clear hs hP;rintro k - Z hk hP hs;rcases BC cs hk with⟨x,hx,hlt⟩|hke
 .obtain⟨q1,q2,q3,q4⟩:=JG (hlits x (B1 hx))
  have htog:=WQ w x q1 (hlen x (B1 hx)) hw q2 q3 q4;rw[drop_cons hx,Q1]at hP;cases ht:Gn w x<;>rw[ht]at htog hP
  .conv=>whnf
   repeat'((first|clear U K|apply st|(apply zk;intro K U)|refine zX ?_|refine zC ?_|fail)<;>conv=>whnf)
   exact⟨hlt,(),rfl,hP,hs⟩
  .conv=>whnf
   repeat'((first|clear U K|apply st|(apply zk;intro K U)|refine zX ?_|refine zC ?_|fail)<;>conv=>whnf)
   exact AF (by rw[hP];rfl)
 .refine zv ?_;(repeat clear U K);repeat intro K U
  exact AF (by rw[hP,Ao hke];rfl)
def TF (w:AI) (a b:Fact):Bool:= !Q4 w (OS a (FV b))
def fT (a b:Fact):lv (OS a (FV b))=lv a+lv b:=by
 rw[Ns];simp only[dX,OS,Fact.op,Fact.kids,Ex,List.map_nil,List.getD_cons_zero,List.getD_cons_succ];rw[Ns (FV b)];simp[dX,FV,Fact.op,Fact.kids]
def Pd {w:AI} {a b:Fact} (ha:Bh w a=true) (hb:Bh w b=true):Bh w (OS a (FV b))=true:=by
 have hnb:Bh w (FV b)=true:=by
  rw[Cp];simp[FV,C6,W7,Fact.op,Fact.kids,Fact.arg,Fact.path,Fact.cls,Fact.n,CR,E5,B7,hb]
 rw[Cp];simp[OS,C6,W7,Fact.op,Fact.kids,Fact.arg,Fact.path,Fact.cls,Fact.n,CR,E5,B7,ha,hnb]
def cH (w:AI) (a b:Fact) (hw:UZ w) (ha:Bh w a=true) (hb:Bh w b=true) (la:lv a<=12) (lb:lv b<=12):Pure zP 136 [.a (A1 w),.a (xF a),.a (xF b)] (.b (TF w a b)):=by
 refine ur kZ ?_;have hs:=Sn
 conv=>whnf
 repeat'((first|clear U K|apply st|(apply zk;intro K U)|refine zX ?_|refine rk ?_ ?_|exact fun s e=>by cases e;rfl|refine Pure.use (fP _) ?_|refine Pure.use (vJ _ _) ?_|refine Pure.use (vG _ _ hw (Pd ha hb) (by rw[fT];omega)) ?_|fail)<;>conv=>whnf)
 all_goals exact AF rfl
def Va {p:Prog}: ∀ {ms:List OT} {s:List Int},(runM p ms s).isSome=true-> ∀m∈ms,OY p m=true
 | [],_,_,_,h=>by cases h
 | m ::r,s,h,x,hx=>by
   rw[runM]at h;split at h
   .rename_i hok
    split at h
    .cases h
    .rcases Fm.1 hx with rfl|hx
     .exact hok
     .exact Va h x hx
   .cases h
def EZ {p:Prog} (h:(BK p).isSome=true):Cw p=true/\ ∀m∈p.methods,OY p m=true:=by
 unfold BK at h;split at h
 .rename_i hh
  refine⟨hh,?_⟩;split at h
  .cases h
  .rename_i s hs
   exact Va (by rw[hs];rfl)
 .cases h
structure EH (p:Prog):Prop where
 wok:UZ (AS p)
 AG:Bj p.AH<=AY
 w8:p.AH.length<=1000
 facts: ∀m∈p.methods,Bh (AS p) m.fact=true/\lv m.fact<=12
 many:p.methods.length<=16
def look_ok {p:Prog} (h:(BK p).isSome=true):EH p:=by
 obtain⟨hh,hm⟩:=EZ h;simp only[Cw,BD,CN]at hh;have hc:=hh.1;simp only[A6,BD,CN]at hc;have hM:=Mx;refine⟨P5 hc.1 hc.2.1 hc.2.2.2.1,by have:=(FI _ _ hc.2.1).1;omega,by have:=hc.1;omega,fun m h=>?_,hh.2.2.1⟩;have:=hm m h;simp only[OY,C7,BD,CN]at this;have hn:=this.2.2.2.2.1.2.2;refine⟨hn,?_⟩;have hcn:=Ky m.fact 24 (by omega) this.2.2.2.2.1.1;have:=qx m.fact (Cr _ hn);omega
def BO (p:Prog) (m:Int):Bool:=decide (0<=m)&&decide (m<(p.methods.length:Int))
def Bi (p:Prog) (m:Int):OT:=p.methods.getD m.toNat default
def B9 {p:Prog} {m:Int} (h:BO p m=true):p.methods[m.toNat]? =some (Bi p m):=by
 simp only[BO,BD,CN]at h;rw[Bi,DH,Cy (by omega)];rfl
def DC (p:Prog) (m n:Int):Bool:=(Bi p m).gen==(Bi p n).gen&&(Bi p m).kind==(Bi p n).kind
def F6 (p:Prog) (m n:Int):Bool:=TF (AS p) (Bi p m).fact (Bi p n).fact
def Ae (p:Prog) (m n:Int):Bool:=F6 p m n&& !F6 p n m
def iU (p:Prog) (m:Int):Pure zP 72 [.a (A9 p),eI m] (.b (BO p m)):=by
 refine Pure.fit (by kernel_rfl) fun hf=>?_
 have⟨p1,p2,p3,p4⟩:=Fk hf.1;refine xV kZ ?_;have hs:=Sn
 conv=>whnf
 repeat'((first|clear U K|apply st|(apply zk;intro K U)|refine zX ?_|refine za (fun hc=>?_) fun hc=>?_|fail)<;>conv=>whnf)
 all_goals exact AF (by simp[BO, *]<;>omega)
def aF (p:Prog) (m n:Int) (hm:BO p m=true) (hn:BO p n=true):Pure zP 73 [.a (A9 p),eI m,eI n] (.b (DC p m n)):=by
 refine Pure.fit (by kernel_rfl) fun hf=>?_
 have⟨p1,p2,p3,p4⟩:=Fk hf.1;have hxm:=B9 hm;have hxn:=B9 hn;simp only[BO,BD,CN]at hm hn;refine xU kZ ?_;have hs:=Sn
 conv=>whnf
 repeat'((first|clear U K|apply st|(apply zk;intro K U)|refine zX ?_|refine za (fun hc=>?_) fun hc=>?_|fail)<;>conv=>whnf)
 all_goals exact AF (by simp[DC, *])
abbrev pI (p:Int×Int):List V:=[eI p.1,eI p.2]
abbrev pP (l:List (Int×Int)):List (List V):=l.map pI
def dy (p:Prog) (g:Int):Bool:=decide (0<=g)&&decide (g<(p.Br.length:Int))
end Go.Gl
namespace Go.Gl
structure Kn where
 low:Int
 high:Int
 no:List Int
 B3:Nat
 GV:Nat
 whole:Bool
 A0:Bool
 AG:List Int
def k0:Kn:=⟨-1000000000,1000000000,[],0,0,false,false,[]⟩
def JA (l:List Int) (s:Int):List Int:=if l.contains s then l else(l++[s]).mergeSort G8
def Ck (k:Kn) (f:Fact) (b:Bool):Kn:=
 if f.op=2 then(if b then {k with GV:=k.GV|||2 ^ f.cls.toNat}else {k with B3:=k.B3|||2 ^ f.cls.toNat})
 else if f.op=3 then(if b then {k with low:=if f.n > k.low then f.n else k.low}else {k with high:=if f.n - 1<k.high then f.n - 1 else k.high,whole:=true})
 else if b then {k with no:=k.no++[f.n]}else {k with low:=if f.n > k.low then f.n else k.low,high:=if f.n<k.high then f.n else k.high,whole:=true}
def Db (k:Kn) (b:Bool):Kn:={k with A0:=k.A0|| !b}
def jt (k:Kn) (s:Int):Kn:={k with AG:=JA k.AG s}
def C5 (a:Int) (p:List Int) (k:Kn) (l:Fact):Kn:=
 if(Av l).1.arg=a/\Bp (Av l).1.path p=true then
  (if(Av l).1.path=p then Ck (Db k (Av l).2) (Av l).1 (Av l).2 else jt (Db k (Av l).2) ((Av l).1.path.getD p.length 0))
 else k
def kn (ls:List Fact) (a:Int) (p:List Int):Kn:=ls.foldl (C5 a p) k0
def Yf (k:Kn) (f:Fact) (b:Bool):(Ck k f b).A0=k.A0:=by
 unfold Ck
 (repeat' split)<;>rfl
def Su (k:Kn) (f:Fact) (b:Bool):(Ck k f b).AG=k.AG:=by
 unfold Ck
 (repeat' split)<;>rfl
def UL (a:Int) (p:List Int) (k:Kn) (l:Fact):(C5 a p k l).A0=(k.A0|| !((Av l).2|| !((Av l).1.arg==a&&Bp (Av l).1.path p))):=by
 unfold C5;split
 .rename_i h
  have e:((Av l).1.arg==a)=true:=by simpa using h.1
  rw[e,h.2];split
  .rw[Yf];simp[Db]
  .simp[jt,Db]
 .rename_i h
  have:((Av l).1.arg==a&&Bp (Av l).1.path p)=false:=by
   cases hb:((Av l).1.arg==a&&Bp (Av l).1.path p)with
   | false=>rfl
   | true=>rw[BD]at hb;exact absurd ⟨by simpa using hb.1,hb.2⟩ h
  rw[this];simp
def MV (a:Int) (p:List Int): ∀(ls:List Fact) (k:Kn),(ls.foldl (C5 a p) k).A0=(k.A0|| !D9 ls a p)
 | [],k=>by simp[D9]
 | l::r,k=>by
   rw[List.foldl_cons,MV a p r,UL];simp only[D9,LC];generalize (r.all _)=x;generalize ((Av l).2||_)=y;cases k.A0<;>cases x<;>cases y<;>rfl
def NU (ls:List Fact) (a:Int) (p:List Int):(kn ls a p).A0= !D9 ls a p:=by rw[kn,MV];rfl
def dN (l:List Int) (s x:Int):x∈JA l s↔x∈l\/x=s:=by
 unfold JA;split
 .rename_i h
  rw[List.contains_iff_mem]at h;constructor
  .exact .inl
  .rintro(h'|rfl)
   .exact h'
   .exact h
 .rw[(List.mergeSort_perm _ G8).mem_iff];simp
def UU {l:List Int} (s:Int) (h:l.Pairwise (· < ·)):(JA l s).Pairwise (· < ·):=by
 unfold JA;split
 .exact h
 .rename_i hc
  have hc':s∉l:=by simpa using hc
  have hp:=List.mergeSort_perm (l++[s]) G8;have h1:((l++[s]).mergeSort G8).Pairwise (fun a b=>G8 a b=true):=List.pairwise_mergeSort (fun a b c=>by simp only[G8,CN];omega) (fun a b=>by simp only[G8,Fl,CN];omega) _
  have h2:((l++[s]).mergeSort G8).Nodup:=hp.nodup_iff.2 (by
   rw[List.nodup_append];refine⟨h.imp fun hab=>by omega,by simp,fun a ha b hb=>?_⟩;simp only[LD]at hb;rintro rfl
   exact hc' (hb ▸ ha))
  exact(h1.and h2).imp fun⟨h3,h4⟩=>by
   simp only[G8,CN]at h3;omega
def Kr: ∀ {l m:List Int},l.Pairwise (· < ·)->m.Pairwise (· < ·)->(∀x,x∈l↔x∈m)->l=m
 | [],[],_,_,_=>rfl
 | [],y::m,_,_,h=>absurd ((h y).2 (.head _)) (by simp)
 | x::l,[],_,_,h=>absurd ((h x).1 (.head _)) (by simp)
 | x ::l,y::m,h1,h2,h=>by
   rw[List.pairwise_cons]at h1 h2
   have hxy:x=y:=by
    rcases Fm.1 ((h x).1 (.head _))with e|hx
    .exact e
    .rcases Fm.1 ((h y).2 (.head _))with e|hy
     .exact e.symm
     .have:=h1.1 y hy
      have:=h2.1 x hx;omega
   subst hxy;congr 1;refine Kr h1.2 h2.2 fun z=>?_
   constructor
   .intro hz
    rcases Fm.1 ((h z).1 (.tail _ hz))with e|hz'
    .have:=h1.1 z hz;omega
    .exact hz'
   .intro hz
    rcases Fm.1 ((h z).2 (.tail _ hz))with e|hz'
    .have:=h2.1 z hz;omega
    .exact hz'
def CT {path pre:List Int}:Bp path pre=true↔ ∃t,path=pre++t:=by
 simp only[Bp,BD,CN,EU];constructor
 .rintro⟨_,h⟩
  exact⟨path.drop pre.length,by conv=>lhs;rw[<-List.take_append_drop pre.length path,h]⟩
 .rintro⟨t,rfl⟩
  simp
def Wu {path p:List Int} {s:Int}:Bp path (p++[s])=true↔Bp path p=true/\path≠p/\path.getD p.length 0=s:=by
 rw[CT,CT];constructor
 .rintro⟨t,rfl⟩
  refine⟨⟨s::t,by simp⟩,fun e=>?_,by simp⟩;have:=congrArg List.length e;simp at this
 .rintro⟨⟨t,rfl⟩,hne,hs⟩
  cases t with
  | nil=>simp at hne
  | cons y t=>simp at hs;subst hs;exact⟨t,by simp⟩
def Zl {a:Int} {p:List Int} {s:Int} {l:Fact}:Yj a p s l=true↔(Av l).1.arg=a/\Bp (Av l).1.path p=true/\(Av l).1.path≠p/\(Av l).1.path.getD p.length 0=s:=by
 rw[Yj,BD,Wu,EU]
def Wh (a:Int) (p:List Int) (k:Kn) (l:Fact):(C5 a p k l).AG=if(Av l).1.arg=a/\Bp (Av l).1.path p=true/\(Av l).1.path≠p then JA k.AG ((Av l).1.path.getD p.length 0)else k.AG:=by
 unfold C5;by_cases h1:(Av l).1.arg=a/\Bp (Av l).1.path p=true
 .rw[if_pos h1]
  by_cases h2:(Av l).1.path=p
  .rw[if_pos h2,if_neg (fun h=>h.2.2 h2),Su];rfl
  .rw[if_neg h2,if_pos ⟨h1.1,h1.2,h2⟩];rfl
 .rw[if_neg h1,if_neg (fun h=>h1 ⟨h.1,h.2.1⟩)]
def Qa (a:Int) (p:List Int): ∀(ls:List Fact) (k:Kn),k.AG.Pairwise (· < ·)->(ls.foldl (C5 a p) k).AG.Pairwise (· < ·)/\ ∀s,s∈(ls.foldl (C5 a p) k).AG↔s∈k.AG\/ls.any (Yj a p s)=true
 | [],k,h=>⟨h,fun s=>by simp⟩
 | l ::r,k,h=>by
   rw[List.foldl_cons];have e:=Wh a p k l
   have h1:(C5 a p k l).AG.Pairwise (· < ·):=by
    rw[e];split
    .exact UU _ h
    .exact h
   obtain⟨i1,i2⟩:=Qa a p r _ h1;refine⟨i1,fun s=>?_⟩;rw[i2,e,Q1,Fl,Zl];split
   .rename_i hc
    rw[dN];constructor
    .rintro((h|rfl)|h)
     .exact .inl h
     .exact .inr (.inl ⟨hc.1,hc.2.1,hc.2.2,rfl⟩)
     .exact .inr (.inr h)
    .rintro(h|⟨-,-,-,h⟩|h)
     .exact .inl (.inl h)
     .exact .inl (.inr h.symm)
     .exact .inr h
   .rename_i hc
    constructor
    .rintro(h|h)
     .exact .inl h
     .exact .inr (.inr h)
    .rintro(h|⟨q1,q2,q3,-⟩|h)
     .exact .inl h
     .exact absurd ⟨q1,q2,q3⟩ hc
     .exact .inr h
def Ht (n:Nat) (ls:List Fact):Prop:= ∀l∈ls,∀s∈(Av l).1.path,(0:Int)<=s/\s<n
def Kv {n:Nat} {s:Int}:s∈Cn n↔0<=s/\s<n:=by
 simp only[Cn,Mg,List.mem_range];constructor
 .rintro⟨m,hm,rfl⟩
  exact⟨Int.natCast_nonneg m,by simpa using hm⟩
 .rintro⟨h0,h1⟩
  exact⟨s.toNat,by omega,by simp;omega⟩
def RI (n:Nat):(Cn n).Pairwise (· < ·):=by
 rw[Cn,List.pairwise_map];exact List.pairwise_lt_range.imp fun h=>by simpa using h
def rP {n:Nat} {ls:List Fact} (h:Ht n ls) {a:Int} {p:List Int} {s:Int} {l:Fact} (hl:l∈ls) (hg:Yj a p s l=true):0<=s/\s<n:=by
 rw[Zl]at hg;obtain⟨-,h2,h3,h4⟩:=hg;obtain⟨t,ht⟩:=CT.1 h2;refine h l hl s ?_;rw[ht]at h3 h4 ⊢;cases t with
 | nil=>simp at h3
 | cons y t=>simp at h4;subst h4;simp
def L8 {n:Nat} {ls:List Fact} (h:Ht n ls) (a:Int) (p:List Int):(kn ls a p).AG=Bg n ls a p:=by
 obtain⟨h1,h2⟩:=Qa a p ls k0 .nil;refine Kr h1 ((RI n).filter _) fun s=>?_
 show s∈(ls.foldl (C5 a p) k0).AG↔_;rw[h2,Bg,LH,Kv];constructor
 .rintro(h|hs)
  .cases h
  .obtain⟨l,hl,hg⟩:=J0.1 hs
   exact⟨rP h hl hg,hs⟩
 .exact fun hs=> .inr hs.2
def Ei (os:List Fact) (k:Kn):Kn:=os.foldl (fun k l=>Ck k (Av l).1 (Av l).2) k
abbrev FB (k:Kn):Int×Int×List Int×Nat×Nat×Bool:=(k.low,k.high,k.no,k.B3,k.GV,k.whole)
def V6 {k k':Kn} (h:FB k=FB k') (f:Fact) (b:Bool):FB (Ck k f b)=FB (Ck k' f b):=by
 cases k;cases k';simp only[FB,Prod.mk.injEq]at h;obtain⟨rfl,rfl,rfl,rfl,rfl,rfl⟩:=h;unfold Ck
 (repeat' split)<;>rfl
def OH (p:List Int):Bp p p=true:=CT.2 ⟨[],by simp⟩
def dA (a:Int) (p:List Int) (k:Kn) (l:Fact):FB (C5 a p k l)=if Gk a p l then FB (Ck k (Av l).1 (Av l).2)else FB k:=by
 unfold C5 Gk;by_cases h1:(Av l).1.arg=a
 .by_cases h2:(Av l).1.path=p
  .have e:((Av l).1.arg==a&&(Av l).1.path==p)=true:=by simp[h1,h2]
   rw[if_pos ⟨h1,by rw[h2];exact OH p⟩,if_pos h2,e,if_pos rfl];exact V6 (k:=Db k (Av l).2) (k':=k) rfl _ _
  .have e:((Av l).1.arg==a&&(Av l).1.path==p)=false:=by simp[h2]
   rw[if_neg h2,e,if_neg Bool.false_ne_true];split<;>rfl
 .have e:((Av l).1.arg==a&&(Av l).1.path==p)=false:=by simp[h1]
  rw[if_neg (fun h=>h1 h.1),e,if_neg Bool.false_ne_true]
def Nf (a:Int) (p:List Int): ∀(ls:List Fact) (k k':Kn),FB k=FB k'->FB (ls.foldl (C5 a p) k)=FB (Ei (ls.filter (Gk a p)) k')
 | [],k,k',h=>h
 | l ::r,k,k',h=>by
   rw[List.foldl_cons,List.filter_cons];have e:=dA a p k l;split
   .rename_i ho
    rw[if_pos ho]at e;exact Nf a p r _ _ (e.trans (V6 h _ _))
   .rename_i ho
    rw[if_neg (by simpa using ho)]at e;exact Nf a p r _ _ (e.trans h)
def Oj (ls:List Fact) (a:Int) (p:List Int):FB (kn ls a p)=FB (Ei (ls.filter (Gk a p)) k0):=Nf a p ls k0 k0 rfl
def pM (x:Fact×Bool):Bool:= !(x.1.op==2)||(decide (x.1.cls > 1)==x.2)
def bP (x:Fact×Bool) (k:Kn):HD x (k.low,k.high,k.no)=if pM x then some ((Ck k x.1 x.2).low,(Ck k x.1 x.2).high,(Ck k x.1 x.2).no)else none:=by
 unfold HD pM Ck;by_cases h2:x.1.op=2
 .rw[if_pos h2,if_pos h2]
  cases x.2<;>cases decide (x.1.cls > 1)<;>simp[h2]
 .rw[if_neg h2,if_neg h2]
  by_cases h3:x.1.op=3
  .rw[if_pos h3,if_pos h3]
   cases x.2<;>simp[h2]
  .rw[if_neg h3,if_neg h3]
   cases x.2<;>simp[h2]
def Sb: ∀(os:List Fact) (k:Kn),foldI os (k.low,k.high,k.no)=if os.all (fun l=>pM (Av l))then some ((Ei os k).low,(Ei os k).high,(Ei os k).no)else none
 | [],k=>rfl
 | l ::r,k=>by
   rw[foldI,bP,LC];cases hb:pM (Av l)with
   | false=>rfl
   | true=>
     rw[if_pos rfl,Option.bind_some,Sb r,G7];rfl
def jj (k:Kn) (f:Fact) (c:Bool) (b:Nat):(Ck k f c).B3.testBit b=(k.B3.testBit b||(f.op==2&& !c&&f.cls.toNat==b)):=by
 unfold Ck;by_cases h2:f.op=2
 .rw[if_pos h2]
  cases c<;>simp[h2,Nat.testBit_or,Nat.testBit_two_pow,Bool.beq_eq_decide_eq]
 .rw[if_neg h2]
  have:(f.op==2)=false:=by simpa using h2
  rw[this]
  repeat' split
  all_goals simp
def nV (k:Kn) (f:Fact) (c:Bool) (b:Nat):(Ck k f c).GV.testBit b=(k.GV.testBit b||(f.op==2&&c&&f.cls.toNat==b)):=by
 unfold Ck;by_cases h2:f.op=2
 .rw[if_pos h2]
  cases c<;>simp[h2,Nat.testBit_or,Nat.testBit_two_pow,Bool.beq_eq_decide_eq]
 .rw[if_neg h2]
  have:(f.op==2)=false:=by simpa using h2
  rw[this]
  repeat' split
  all_goals simp
def dL (k:Kn) (f:Fact) (c:Bool):(Ck k f c).whole=(k.whole||(!c&& !(f.op==2))):=by
 unfold Ck;by_cases h2:f.op=2
 .rw[if_pos h2]
  cases c<;>simp[h2]
 .rw[if_neg h2]
  have:(f.op==2)=false:=by simpa using h2
  rw[this];cases c<;>(repeat' split)<;>simp_all
def Ni: ∀(os:List Fact) (k:Kn) (b:Nat),(Ei os k).B3.testBit b=(k.B3.testBit b||os.any fun l=>(Av l).1.op==2&& !(Av l).2&&(Av l).1.cls.toNat==b)
 | [],k,b=>by simp[Ei]
 | l::r,k,b=>by
   have:=Ni r (Ck k (Av l).1 (Av l).2) b;rw[jj]at this;rw[Q1,<-Bool.or_assoc,<-this];rfl
def Py: ∀(os:List Fact) (k:Kn) (b:Nat),(Ei os k).GV.testBit b=(k.GV.testBit b||os.any fun l=>(Av l).1.op==2&&(Av l).2&&(Av l).1.cls.toNat==b)
 | [],k,b=>by simp[Ei]
 | l::r,k,b=>by
   have:=Py r (Ck k (Av l).1 (Av l).2) b;rw[nV]at this;rw[Q1,<-Bool.or_assoc,<-this];rfl
def K5: ∀(os:List Fact) (k:Kn),(Ei os k).whole=(k.whole||os.any fun l=> !(Av l).2&& !((Av l).1.op==2))
 | [],k=>by simp[Ei]
 | l::r,k=>by
   have:=K5 r (Ck k (Av l).1 (Av l).2);rw[dL]at this;rw[Q1,<-Bool.or_assoc,<-this];rfl
def Q2 (m up:Nat):Bool:=(List.range 64).all fun b=> !m.testBit b||up.testBit b
def PY {m up:Nat} (hm:m<2 ^ 64):Q2 m up=true↔ ∀b,m.testBit b=true->up.testBit b=true:=by
 simp only[Q2,E3,List.mem_range,Fl,Bool.not_eq_true'];constructor
 .intro h b hb
  have hlt:b<64:=by
   rcases Nat.lt_or_ge b 64 with h'|h'
   .exact h'
   .rw[Nat.testBit_lt_two_pow (Nat.lt_of_lt_of_le hm (Nat.pow_le_pow_right (by decide) h'))]at hb;cases hb
  rcases h b hlt with h'|h'
  .rw[hb]at h';cases h'
  .exact h'
 .intro h b _
  cases hb:m.testBit b with
  | false=>exact .inl rfl
  | true=>exact .inr (h b hb)
def Pw {m n:Nat}:(m&&&n==0)=true↔ ∀b,m.testBit b=true->n.testBit b=true->False:=by
 rw[EU];constructor
 .intro h b h1 h2
  have:=congrArg (fun x=>x.testBit b) h;simp[Nat.testBit_and,h1,h2]at this
 .intro h
  refine Nat.eq_of_testBit_eq fun b=>?_
  rw[Nat.testBit_and,Nat.zero_testBit];cases h1:m.testBit b with
  | false=>rfl
  | true=>
    cases h2:n.testBit b with
    | false=>rfl
    | true=>exact(h b h1 h2).elim
def Tg (c b:Nat):(1|||2 ^ c).testBit b=(b==0||b==c):=by
 rw[Nat.testBit_or,Nat.testBit_two_pow,show(1:Nat)=2 ^ 0 from rfl,Nat.testBit_two_pow];rw[J1];simp only[Fl,CN,EU];omega
def I0 (n:Nat) (ls:List Fact):Prop:= ∀l∈ls,(Av l).1.op=2->0<=(Av l).1.cls/\(Av l).1.cls<n
def QS {m n:Nat} (h: ∀b,m.testBit b=true->b<n):m<2 ^ n:=by
 refine Nat.lt_pow_two_of_testBit _ fun i hi=>?_
 cases hb:m.testBit i with
 | false=>rfl
 | true=>have:=h i hb;omega
def Tv {os:List Fact} {n:Nat} (h:I0 n os):(Ei os k0).B3<2 ^ n:=QS fun b hb=>by
 rw[Ni]at hb;simp only[k0,Nat.zero_testBit,Bool.false_or,J0,BD,EU]at hb;obtain⟨l,hl,⟨h2,-⟩,rfl⟩:=hb;have:=h l hl h2;omega
def qf {os:List Fact} {n:Nat} (h:I0 n os):(Ei os k0).GV<2 ^ n:=QS fun b hb=>by
 rw[Py]at hb;simp only[k0,Nat.zero_testBit,Bool.false_or,J0,BD,EU]at hb;obtain⟨l,hl,⟨h2,-⟩,rfl⟩:=hb;have:=h l hl h2;omega
def L5 {os:List Fact} {b:Nat}:(Ei os k0).B3.testBit b=true↔ ∃l∈os,(Av l).1.op=2/\(Av l).2=false/\(Av l).1.cls.toNat=b:=by
 rw[Ni];simp only[k0,Nat.zero_testBit,Bool.false_or,J0,BD,EU,Bool.not_eq_true',and_assoc]
def ZW {os:List Fact} {b:Nat}:(Ei os k0).GV.testBit b=true↔ ∃l∈os,(Av l).1.op=2/\(Av l).2=true/\(Av l).1.cls.toNat=b:=by
 rw[Py];simp only[k0,Nat.zero_testBit,Bool.false_or,J0,BD,EU,and_assoc]
def bg {os:List Fact} {n:Nat} (hn:n<=64) (h:I0 n os):(Q2 (Ei os k0).B3 (1|||2 ^ 1)&&((Ei os k0).GV&&&(1|||2 ^ 1)==0))=os.all fun l=>pM (Av l):=by
 rw[J1,BD,PY (Nat.lt_of_lt_of_le (Tv h) (Nat.pow_le_pow_right (by decide) hn)),Pw];simp only[L5,ZW,Tg,E3,pM,Fl,Bool.not_eq_true',beq_eq_false_iff_ne,EU,ne_eq];constructor
 .rintro⟨h1,h2⟩ l hl
  by_cases ho:(Av l).1.op=2
  .right
   have hc:=h l hl ho;cases hb:(Av l).2 with
   | false=>
     have:=h1 _ ⟨l,hl,ho,hb,rfl⟩;rw[decide_eq_false_iff_not];omega
   | true=>
     rw[CN];rcases Int.lt_or_le 1 (Av l).1.cls with hlt|hle
     .exact hlt
     .exact(h2 _ ⟨l,hl,ho,hb,rfl⟩ (by omega)).elim
  .exact .inl ho
 .intro h1
  constructor
  .rintro b ⟨l,hl,ho,hb,rfl⟩
   rcases h1 l hl with h'|h'
   .exact absurd ho h'
   .have hc:=h l hl ho
    rw[hb,decide_eq_false_iff_not]at h';omega
  .rintro b ⟨l,hl,ho,hb,rfl⟩ hu
   rcases h1 l hl with h'|h'
   .exact absurd ho h'
   .have hc:=h l hl ho
    rw[hb,CN]at h';omega
def bN (x:Fact×Bool):(!IT x)=true↔(x.2=false->x.1.op=2/\(x.1.cls=0\/x.1.cls=2))/\(x.2=true-> ¬(x.1.op=2/\(x.1.cls=0\/x.1.cls=2))):=by
 have e:(x.1.op==2&&(x.1.cls==0||x.1.cls==2))=true↔x.1.op=2/\(x.1.cls=0\/x.1.cls=2):=by
  simp only[BD,Fl,EU]
 rw[<-e,IT];generalize (x.1.op==2&&(x.1.cls==0||x.1.cls==2))=y;cases x.2<;>cases y<;>simp
def bH {os:List Fact}:(!(Ei os k0).whole)=true↔ ∀l∈os,(Av l).2=false->(Av l).1.op=2:=by
 rw[K5,Bool.not_eq_true',<-Bool.not_eq_true];simp only[k0,Bool.false_or,J0,BD,Bool.not_eq_true',beq_eq_false_iff_ne];constructor
 .intro h l hl hb
  rcases Classical.em ((Av l).1.op=2)with e|e
  .exact e
  .exact absurd ⟨l,hl,hb,e⟩ h
 .rintro h ⟨l,hl,hb,e⟩
  exact e (h l hl hb)
def X3 {os:List Fact} {n:Nat} (hn:n<=64) (h:I0 n os):(!(Ei os k0).whole&&(Q2 (Ei os k0).B3 (1|||2 ^ 2)&&((Ei os k0).GV&&&(1|||2 ^ 2)==0)))=os.all fun l=> !IT (Av l):=by
 rw[J1,BD,BD,PY (Nat.lt_of_lt_of_le (Tv h) (Nat.pow_le_pow_right (by decide) hn)),Pw,bH,E3];simp only[L5,ZW,Tg,Fl,EU,bN];constructor
 .rintro⟨h0,h1,h2⟩ l hl
  refine⟨fun hb=>?_,fun hb ⟨ho,hc⟩=>h2 _ ⟨l,hl,ho,hb,rfl⟩ (by omega)⟩;have ho:=h0 l hl hb;have hc:=h l hl ho;have:=h1 _ ⟨l,hl,ho,hb,rfl⟩;exact⟨ho,by omega⟩
 .intro h1
  refine⟨fun l hl hb=>((h1 l hl).1 hb).1,?_,?_⟩
  .rintro b ⟨l,hl,ho,hb,rfl⟩
   have:=((h1 l hl).1 hb).2;omega
  .rintro b ⟨l,hl,ho,hb,rfl⟩ hu
   have hc:=h l hl ho;exact(h1 l hl).2 hb ⟨ho,by omega⟩
def NH {no:List Int}: ∀(k:Nat) (m:Int),(S7 no k m).isSome=true↔ ∃j:Nat,j<k/\m+j∉no
 | 0,m=>by simp[S7]
 | k + 1,m=>by
   rw[S7];split
   .rename_i h
    simp only[Option.isSome_some,true_iff];refine⟨0,by omega,fun hm=>?_⟩;rw[E3]at h;have:=h _ hm;simp at this
   .rename_i h
    rw[NH k]
    have hm:m∈no:=by
     rcases Classical.em (m∈no)with h'|h'
     .exact h'
     .refine absurd (E3.2 fun x hx=>?_) h
      rw[xm];rintro rfl;exact h' hx
    constructor
    .rintro⟨j,hj,h'⟩
     exact⟨j+1,by omega,by rw[show m+((j+1:Nat):Int)=m+1+j by omega];exact h'⟩
    .rintro⟨j,hj,h'⟩
     cases j with
     | zero=>simp at h';exact absurd hm h'
     | succ j=>exact⟨j,by omega,by rw[show m+1+(j:Int)=m+((j+1:Nat):Int) by omega];exact h'⟩
def gw {low high n:Int} {no:List Int} (h0:low<=n) (h1:n∉no) (h2: ∀m,low<=m->m<n->m∈no):(O9 (low,high,no)).isSome=decide (n<=high):=by
 rw[J1,O9,NH,CN];constructor
 .rintro⟨j,hj,h⟩
  rcases Int.lt_or_le (low+j) n with hlt|hle
  .exact absurd (h2 _ (by omega) hlt) h
  .simp only at hj;omega
 .intro h
  refine⟨(n - low).toNat,by simp only;omega,?_⟩;rw[show low+((n - low).toNat:Int)=n by omega];exact h1
end Go.Gl
