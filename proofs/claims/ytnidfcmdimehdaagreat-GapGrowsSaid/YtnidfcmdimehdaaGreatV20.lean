import Derived.Test.YtnidfcmdimehdaaGreatV13
import Derived.Test.YtnidfcmdimehdaaGreatV14
import Derived.Test.YtnidfcmdimehdaaGreatV15
import Derived.Test.YtnidfcmdimehdaaGreatV18
import Derived.Test.YtnidfcmdimehdaaGreatV19
set_option linter.all false
set_option linter.defProp false
set_option maxHeartbeats 8000000
noncomputable section
namespace Go.Gl
open Go.Proofs
attribute [local irreducible] Av An Af AQ AL Ac AP AS AK Ab AN AO As A3 Sat AV A0 Ag W
def Fj (A B:List (List Fact)):List (List Fact):=A.flatMap fun x=>B.map fun y=>Cz x y
def HR (f:Fact) (l:List (Bool->List (List Fact))) (c:Bool):List (List Fact):=
 if f.op=1 then(if c then []else [[]])else
 if f.op=5 then(l.getD 0 (fun _=>[])) (!c)else
 if f.op=6\/f.op=7 then(if c != (f.op==7)then l.getD 0 (fun _=>[]) c++l.getD 1 (fun _=>[]) c else Fj (l.getD 0 (fun _=>[]) c) (l.getD 1 (fun _=>[]) c))else
 if c then [[Ey f]]else [[f]]
def Bb (f:Fact):Bool->List (List Fact):=f.Hm HR
def FR (f:Fact) (c:Bool):Bb f c=HR f (f.kids.map Bb) c:=congrFun (Fact.Dn HR f) c
def bb (f:Fact) (l:List Nat):Nat:=if f.op=5 then l.getD 0 0 else if f.op=6\/f.op=7 then l.getD 0 0+l.getD 1 0 else 1
def lv (f:Fact):Nat:=f.Hm bb
def Kt (f:Fact):lv f=bb f (f.kids.map lv):=Fact.Dn bb f
def arity (f:Fact):Bool:=f.Hm fun f l=>f.kids.length==CD f.op&&l.all id
def My (f:Fact):arity f=(f.kids.length==CD f.op&&f.kids.all arity):=by
 rw[arity,Fact.Dn,List.all_map];rfl
def B5 {w:AG} (f:Fact):A6 w f=true->arity f=true:=by
 induction f using Fact.ind with
 | h f ih=>
   intro h;rw[CA]at h;simp only[DB,A4,Dj]at h;rw[My,A4,Dj];exact⟨h.1.2.1,fun k hk=>ih k hk (h.2 k hk)⟩
def Fe {f:Fact} (h:arity f=true) (h5:f.op=5): ∃a,f.kids= [a]/\arity a=true:=by
 rw[My,A4,Dj,h5]at h;have hl:f.kids.length=1:=by simpa[CD]using h.1
 obtain⟨a,ha⟩:=List.length_eq_one_iff.1 hl;exact⟨a,ha,h.2 a (by rw[ha];exact .head _)⟩
def Fc {f:Fact} (h:arity f=true) (h6:f.op=6\/f.op=7): ∃a b,f.kids= [a,b]/\arity a=true/\arity b=true:=by
 rw[My,A4,Dj]at h
 have hl:f.kids.length=2:=by
  have h5:f.op≠5:=by omega
  simpa[CD,h5,h6]using h.1
 match hk:f.kids,hl with
 | [a,b],_=>exact⟨a,b,rfl,h.2 a (by rw[hk];exact .head _),h.2 b (by rw[hk];exact .tail _ (.head _))⟩
def gx (f:Fact):arity f=true->1<=lv f:=by
 induction f using Fact.ind with
 | h f ih=>
   intro h;rw[Kt,bb];split
   .rename_i h5
    obtain⟨a,ha,hb⟩:=Fe h h5;rw[ha];exact ih a (by rw[ha];exact .head _) hb
   .split
    .rename_i h6
     obtain⟨a,b,ha,hb,_⟩:=Fc h h6;rw[ha];have:=ih a (by rw[ha];exact .head _) hb;simp only[EZ,List.getD_cons_zero];omega
    .omega
def nU {a b:Nat} (ha:1<=a) (hb:1<=b):2 ^ a+2 ^ b<=2 ^ (a+b):=by
 rw[Nat.pow_add];have h1:2<=2 ^ a:=by simpa using Nat.pow_le_pow_right (show 0<2 by omega) ha
 have h2:2<=2 ^ b:=by simpa using Nat.pow_le_pow_right (show 0<2 by omega) hb
 generalize 2 ^ a=x at *;generalize 2 ^ b=y at *;have:=Nat.mul_le_mul_left (x - 1) (show 1<=y - 1 by omega);obtain⟨x,rfl⟩: ∃u,x=u+1:=⟨x - 1,by omega⟩
 obtain⟨y,rfl⟩: ∃u,y=u+1:=⟨y - 1,by omega⟩
 simp only[Nat.add_sub_cancel,Nat.mul_one]at this;rw[Nat.add_mul,Nat.mul_add];omega
def cr (A B:List (List Fact)):(Fj A B).length=A.length*B.length:=by
 induction A with
 | nil=>simp[Fj]
 | cons x r ih=>
   simp only[Fj,List.flatMap_cons,Ri,CW,NM]at *;rw[ih,Nat.add_mul];omega
def Ln (f : Fact):arity f=true-> ∀c,(Bb f c).length<=2 ^ lv f/\ ∀l∈Bb f c,l.length<=lv f:=by
 induction f using Fact.ind with
 | h f ih=>
   intro h c;rw[FR,Kt,HR,bb];by_cases h1:f.op=1
   .have e5: ¬f.op=5:=by omega
    have e6: ¬(f.op=6\/f.op=7):=by omega
    rw[if_pos h1,if_neg e5,if_neg e6];cases c
    .rw[if_neg (by decide)]
     exact⟨by simp,fun l hl=>by simp at hl;subst hl;simp⟩
    .rw[if_pos rfl]
     exact⟨by simp,fun l hl=>by cases hl⟩
   rw[if_neg h1];by_cases h5:f.op=5
   .obtain⟨a,ha,hb⟩:=Fe h h5
    rw[if_pos h5,if_pos h5,ha];exact ih a (by rw[ha];exact .head _) hb (!c)
   rw[if_neg h5,if_neg h5];by_cases h6:f.op=6\/f.op=7
   .obtain⟨a,b,ha,hb1,hb2⟩:=Fc h h6
    rw[if_pos h6,if_pos h6,ha];simp only[EZ,List.map_nil,List.getD_cons_zero,List.getD_cons_succ];obtain⟨i1,i2⟩:=ih a (by rw[ha];exact .head _) hb1 c;obtain⟨j1,j2⟩:=ih b (by rw[ha];exact .tail _ (.head _)) hb2 c;have p1:=gx a hb1;have p2:=gx b hb2;split
    .refine⟨?_,fun l hl=>?_⟩
     .rw[Ri]
      have:=nU p1 p2;omega
     .rcases Ds.1 hl with hl|hl
      .have:=i2 l hl;omega
      .have:=j2 l hl;omega
    .refine⟨?_,fun l hl=>?_⟩
     .rw[cr,Nat.pow_add]
      exact Nat.mul_le_mul i1 j1
     .simp only[Fj,List.mem_flatMap,Hc]at hl
      obtain⟨x,hx,y,hy,rfl⟩:=hl;have:=Sx x y;have:=i2 x hx;have:=j2 y hy;omega
   .rw[if_neg h6,if_neg h6]
    cases c
    .exact⟨by simp,fun l hl=>by simp at hl;subst hl;simp⟩
    .exact⟨by simp,fun l hl=>by simp at hl;subst hl;simp⟩
def tQ (f:Fact):arity f=true->2*lv f<=NP f+1:=by
 induction f using Fact.ind with
 | h f ih=>
   intro h;rw[Kt,bb,LN];by_cases h5:f.op=5
   .obtain⟨a,ha,hb⟩:=Fe h h5
    rw[if_pos h5,ha];have:=ih a (by rw[ha];exact .head _) hb;simp only[EZ,List.map_nil,List.getD_cons_zero,List.sum_cons,List.sum_nil];omega
   rw[if_neg h5];by_cases h6:f.op=6\/f.op=7
   .obtain⟨a,b,ha,hb1,hb2⟩:=Fc h h6
    rw[if_pos h6,ha];have:=ih a (by rw[ha];exact .head _) hb1;have:=ih b (by rw[ha];exact .tail _ (.head _)) hb2;simp only[EZ,List.map_nil,List.getD_cons_zero,List.getD_cons_succ,List.sum_cons,List.sum_nil];omega
   .rw[if_neg h6]
    omega
def Dq (w:AG) (x:Fact):Prop:= ∃g,A6 w g=true/\B4 g=true/\(x=g\/x=Ey g)
def FZ {g:Fact} (h:B4 g=true):g.op=2\/g.op=3\/g.op=4:=by
 simp only[B4,EP,C1]at h;omega
def EA {w : AG} (f:Fact):A6 w f=true-> ∀c,∀l∈Bb f c,∀x∈l,Dq w x:=by
 induction f using Fact.ind with
 | h f ih=>
   intro h c;have har:=B5 f h;have h':=h;rw[CA,A4,Dj]at h';rw[FR,HR];by_cases h1:f.op=1
   .rw[if_pos h1]
    cases c
    .rw[if_neg (by decide)]
     intro l hl x hx;simp at hl;subst hl;cases hx
    .rw[if_pos rfl]
     intro l hl;cases hl
   rw[if_neg h1];by_cases h5:f.op=5
   .obtain⟨a,ha,hb⟩:=Fe har h5
    rw[if_pos h5,ha];exact ih a (by rw[ha];exact .head _) (h'.2 a (by rw[ha];exact .head _)) (!c)
   rw[if_neg h5];by_cases h6:f.op=6\/f.op=7
   .obtain⟨a,b,ha,hb1,hb2⟩:=Fc har h6
    rw[if_pos h6,ha];have i1:=ih a (by rw[ha];exact .head _) (h'.2 a (by rw[ha];exact .head _)) c;have j1:=ih b (by rw[ha];exact .tail _ (.head _)) (h'.2 b (by rw[ha];exact .tail _ (.head _))) c;simp only[EZ,List.map_nil,List.getD_cons_zero,List.getD_cons_succ];split
    .intro l hl
     rcases Ds.1 hl with hl|hl
     .exact i1 l hl
     .exact j1 l hl
    .intro l hl x hx
     simp only[Fj,List.mem_flatMap,Hc]at hl;obtain⟨y,hy,z,hz,rfl⟩:=hl;rcases Sw _ _ _ hx with h|h
     .exact i1 y hy x h
     .exact j1 z hz x h
   .rw [if_neg h6]
    have hlf:B4 f=true:=by
     have ho:U9 w f=true:=by
      have:=h'.1;simp only[DB,A4]at this;exact this.1
     simp only[B4,EP,C1];unfold U9 at ho;split at ho
     .omega
     .split at ho
      .omega
      .simp only[EP,C1]at ho
       omega
    cases c
    .rw[if_neg (by decide)]
     intro l hl x hx;simp at hl;subst hl;simp at hx;subst hx;exact⟨x,h,hlf,.inl rfl⟩
    .rw[if_pos rfl]
     intro l hl x hx;simp at hl;subst hl;simp at hx;subst hx;exact⟨f,h,hlf,.inr rfl⟩
def H4 {w:AG} {x:Fact} (h:Dq w x):qc x/\A6 w (Ah x).1=true/\B4 (Ah x).1=true:=by
 obtain⟨g,hn,hl,rfl|rfl⟩:=h
 .have:=FZ hl
  have h5: ¬x.op=5:=by omega
  exact⟨fun e=>absurd e h5,by simp only[Ah,if_neg h5];exact⟨hn,hl⟩⟩
 .exact⟨fun _ e=>(by cases e),hn,hl⟩
def Ml {w:AG} {l:List Fact} (h: ∀x∈l,Dq w x):(∀x∈l,qc x)/\zq w l/\YI l/\gh l 2:=by
 refine⟨fun x hx=>(H4 (h x hx)).1,fun x hx h2=>?_,fun x hx=>?_,fun x hx=>?_⟩
 all_goals
  obtain⟨-,hn,hl⟩:=H4 (h x hx);have hlo:=FZ hl;generalize (Ah x).1=g at *;rw[CA,A4]at hn;have hn:=hn.1;simp only[DB,A4]at hn;obtain⟨ho,-,-,-,hp,-⟩:=hn
 .unfold U9 at ho
  rw[if_pos h2]at ho;simp only[Pw,A4,Cp]at ho;exact ho.2
 .unfold U9 at ho
  split at ho
  .simp only[A4,C1]at ho
   omega
  .split at ho
   .simp only[A4,Cp]at ho
    omega
   .omega
 .simp only[Ez,A4,Cp]at hp
  omega
def X5 (w:AG) (f:Fact):Bool:=(Bb f false).any (EG w)
def Rw (w:AG) (a b:Fact):Bool:= !X5 w (R0 a (Ey b))
def tP (a b:Fact):lv (R0 a (Ey b))=lv a+lv b:=by
 rw[Kt];simp only[bb,R0,Fact.op,Fact.kids,EZ,List.map_nil,List.getD_cons_zero,List.getD_cons_succ];rw[Kt (Ey b)];simp[bb,Ey,Fact.op,Fact.kids]
def Wd {w:AG} {a b:Fact} (ha:A6 w a=true) (hb:A6 w b=true):A6 w (R0 a (Ey b))=true:=by
 have hnb:A6 w (Ey b)=true:=by
  rw[CA];simp[Ey,DB,U9,Fact.op,Fact.kids,Fact.arg,Fact.path,Fact.cls,Fact.n,CD,Ez,B4,hb]
 rw[CA];simp[R0,DB,U9,Fact.op,Fact.kids,Fact.arg,Fact.path,Fact.cls,Fact.n,CD,Ez,B4,ha,hnb]
def WU {p:Prog}: ∀ {ms:List Nc} {s:List Int},(runM p ms s).isSome=true-> ∀m∈ms,Pj p m=true
 | [],_,_,_,h=>by cases h
 | m ::r,s,h,x,hx=>by
   rw[runM]at h;split at h
   .rename_i hok
    split at h
    .cases h
    .rcases Fg.1 hx with rfl|hx
     .exact hok
     .exact WU h x hx
   .cases h
def GL {p:Prog} (h:(BN p).isSome=true):DE p=true/\ ∀m∈p.methods,Pj p m=true:=by
 unfold BN at h;split at h
 .rename_i hh
  refine⟨hh,?_⟩;split at h
  .cases h
  .rename_i s hs
   exact WU (by rw[hs];rfl)
 .cases h
structure Cg (p:Prog):Prop where
 l5:He (AI p)
 AF:Bn p.AM<=Ad
 many0:p.AM.length<=1000
 facts: ∀m∈p.methods,A6 (AI p) m.fact=true/\lv m.fact<=12
 many:p.methods.length<=16
def look_ok {p:Prog} (h:(BN p).isSome=true):Cg p:=by
 obtain⟨hh,hm⟩:=GL h;simp only[DE,A4,Cp]at hh;have hc:=hh.1;simp only[A7,A4,Cp]at hc;have hM:=Mx;refine⟨Qn hc.1 hc.2.1 hc.2.2.2.1,by have:=(FO _ _ hc.2.1).1;omega,by have:=hc.1;omega,fun m h=>?_,hh.2.2.1⟩;have:=hm m h;simp only[Pj,DL,A4,Cp]at this;have hn:=this.2.2.2.2.1.2.2;refine⟨hn,?_⟩;have hcn:=Lf m.fact 24 (by omega) this.2.2.2.2.1.1;have:=tQ m.fact (B5 _ hn);omega
def Ba (p:Prog) (m:Int):Bool:=decide (0<=m)&&decide (m<(p.methods.length:Int))
def B3 (p:Prog) (m:Int):Nc:=p.methods.getD m.toNat default
def Cu {p:Prog} {m:Int} (h:Ba p m=true):p.methods[m.toNat]? =some (B3 p m):=by
 simp only[Ba,A4,Cp]at h;rw[B3,DK,Dp (by omega)];rfl
def Jk (p:Prog) (m n:Int):Bool:=(B3 p m).gen==(B3 p n).gen&&(B3 p m).kind==(B3 p n).kind
def JJ (p:Prog) (m n:Int):Bool:=Rw (AI p) (B3 p m).fact (B3 p n).fact
def Ap (p:Prog) (m n:Int):Bool:=JJ p m n&& !JJ p n m
abbrev pI (p:Int×Int):List V:=[eI p.1,eI p.2]
abbrev pP (l:List (Int×Int)):List (List V):=l.map pI
def mX (p:Prog) (g:Int):Bool:=decide (0<=g)&&decide (g<(p.Dr.length:Int))
abbrev Ob:=Int×List (Int×Int)
abbrev eOb (o:Ob):List V:=[eI o.1,.l (pP o.2) false]
end Go.Gl
namespace Go.Gl
open Go.Proofs
section
variable {H:Type} {enc:TypeId×Value->H} {W:World}
end
section
variable {H:Type} {enc:TypeId×Value->H} {W:World}
end
end Go.Gl
