import Derived.Test.YtegbmnmnaijioaaGreatL6
set_option linter.all false
set_option linter.defProp false
noncomputable section
namespace Go.Gl
open Go.Proofs
attribute [local irreducible] As Am Ac AQ AM Ab AP AR AL Aa AN AO Ao Ax Sat AW Au Ad W
def SI (w:AJ) (ls:List Fact) (a:Int):Nat->List Int->Bool
 | 0,p=>((NZ ls a p).isSome&&GP w.owner.length ls a p)||(Ia w.owner.length ls a p||(Ty w ls a p fun _=>false).isSome)
 | d+1,p=>((NZ ls a p).isSome&&GP w.owner.length ls a p)||(Ia w.owner.length ls a p||(Ty w ls a p fun s=>SI w ls a d (p++[s])).isSome)
def eO (ls:List Fact) (n:Nat):Prop:= ∀l∈ls,(Ai l).1.path.length<=n
def Ma {n m:Nat} {ls:List Fact} {a:Int} {p:List Int} (h:eO ls m) (hp:m<=p.length):Cb n ls a p= []:=by
 rw[Cb,List.filter_eq_nil_iff];intro s _ hs;rw[He]at hs;obtain⟨l,hl,hg⟩:=hs;have:=h l hl;simp only[nI,Be,A8,Cm,R0,List.length_singleton]at hg;omega
def Fg (w:AJ) (ls:List Fact):Bool:=(Bd 3).all fun a=>SI w ls a 2 []
def ZB {b:Nat} {σ:AH} {l:List At} (h:Sat σ l) (i j:Nat) {v u:V} {sz:Nat} {es ys:List (List V)} {K:V->AH->Prop} (hi:l[i]? =some (.own v sz es)) (hj:l[j]? =some (.own u sz ys)) (hl:es.length+ys.length<=Ay/\(es.length+ys.length)*b<=140737488355328) (hys: ∀e∈ys,e.length=sz) (ho: ∀e∈ys,∀v∈e,CA v=true)
    (hk: ∀v' σ',Sat σ' (l.set i (.own v' sz (es++ys)))->K v' σ'):AM b σ sz v u K:=by
 have Y:AM b σ sz v (.l ys true) K:=hAppend h i hi hl hys ho hk;rcases h.get hj with⟨rfl,hel⟩|⟨n,cap,rfl,hn⟩
 .exact Y
 .unfold AM at Y ⊢
  simp only[rowsOf]at Y ⊢;rw[hn];refine⟨rfl,IN _,?_⟩;rw[List.take_length];exact Y.2
def Cf (a:List Fact):List Fact->List Fact
 | []=>a
 | x::r=>Cf (if a.any (G6 x)then a else a++[x]) r
def Xq (a:List Fact): ∀(b:List Fact) (x:Fact),Cf a (b++[x])=if(Cf a b).any (G6 x)then Cf a b else Cf a b++[x]:=by
 intro b
 induction b generalizing a with
 | nil=>intro x;rfl
 | cons y r ih=>intro x;simp only[List.cons_append,Cf];exact ih _ x
def RI (a:List Fact): ∀(b:List Fact),(Cf a b).length<=a.length+b.length:=by
 intro b
 induction b generalizing a with
 | nil=>simp[Cf]
 | cons y r ih=>
   simp only[Cf,Lz];refine Nat.le_trans (ih _) ?_;split
   .omega
   .simp;omega
def RH (a:List Fact): ∀(b:List Fact) (x:Fact),x∈Cf a b->x∈a\/x∈b:=by
 intro b
 induction b generalizing a with
 | nil=>intro x hx;exact .inl hx
 | cons y r ih=>
   intro x hx;simp only[Cf]at hx;rcases ih _ x hx with h|h
   .split at h
    .exact .inl h
    .rcases Dr.1 h with h|h
     .exact .inl h
     .rw[My.1 h];exact .inr (.head _)
   .exact .inr (.tail _ h)
def FG (A B:List (List Fact)):List (List Fact):=A.flatMap fun x=>B.map fun y=>Cf x y
def Gr (f:Fact) (l:List (Bool->List (List Fact))) (c:Bool):List (List Fact):=
 if f.op=1 then(if c then []else [[]])else
 if f.op=5 then(l.getD 0 (fun _=>[])) (!c)else
 if f.op=6\/f.op=7 then(if c != (f.op==7)then l.getD 0 (fun _=>[]) c++l.getD 1 (fun _=>[]) c else FG (l.getD 0 (fun _=>[]) c) (l.getD 1 (fun _=>[]) c))else
 if c then [[Ea f]]else [[f]]
def BS (f:Fact):Bool->List (List Fact):=f.G4 Gr
def Ey (f:Fact) (c:Bool):BS f c=Gr f (f.kids.map BS) c:=congrFun (Fact.DT Gr f) c
def Zr (f:Fact) (l:List Nat):Nat:=if f.op=5 then l.getD 0 0 else if f.op=6\/f.op=7 then l.getD 0 0+l.getD 1 0 else 1
def lv (f:Fact):Nat:=f.G4 Zr
def Jh (f:Fact):lv f=Zr f (f.kids.map lv):=Fact.DT Zr f
def arity (f:Fact):Bool:=f.G4 fun f l=>f.kids.length==Cy f.op&&l.all id
def Le (f:Fact):arity f=(f.kids.length==Cy f.op&&f.kids.all arity):=by
 rw[arity,Fact.DT,List.all_map];rfl
def By {w:AJ} (f:Fact):BT w f=true->arity f=true:=by
 induction f using Fact.ind with
 | h f ih=>
   intro h;rw[CS]at h;simp only[Dx,A8,Dh]at h;rw[Le,A8,Dh];exact⟨h.1.2.1,fun k hk=>ih k hk (h.2 k hk)⟩
def FC {f:Fact} (h:arity f=true) (h5:f.op=5): ∃a,f.kids= [a]/\arity a=true:=by
 rw[Le,A8,Dh,h5]at h;have hl:f.kids.length=1:=by simpa[Cy]using h.1
 obtain⟨a,ha⟩:=List.length_eq_one_iff.1 hl;exact⟨a,ha,h.2 a (by rw[ha];exact .head _)⟩
def FB {f:Fact} (h:arity f=true) (h6:f.op=6\/f.op=7): ∃a b,f.kids= [a,b]/\arity a=true/\arity b=true:=by
 rw[Le,A8,Dh]at h
 have hl:f.kids.length=2:=by
  have h5:f.op≠5:=by omega
  simpa[Cy,h5,h6]using h.1
 match hk:f.kids,hl with
 | [a,b],_=>exact⟨a,b,rfl,h.2 a (by rw[hk];exact .head _),h.2 b (by rw[hk];exact .tail _ (.head _))⟩
def ei (f:Fact):arity f=true->1<=lv f:=by
 induction f using Fact.ind with
 | h f ih=>
   intro h;rw[Jh,Zr];split
   .rename_i h5
    obtain⟨a,ha,hb⟩:=FC h h5;rw[ha];exact ih a (by rw[ha];exact .head _) hb
   .split
    .rename_i h6
     obtain⟨a,b,ha,hb,_⟩:=FB h h6;rw[ha];have:=ih a (by rw[ha];exact .head _) hb;simp only[E4,List.getD_cons_zero];omega
    .omega
def kq {a b:Nat} (ha:1<=a) (hb:1<=b):2 ^ a+2 ^ b<=2 ^ (a+b):=by
 rw[Nat.pow_add];have h1:2<=2 ^ a:=by simpa using Nat.pow_le_pow_right (show 0<2 by omega) ha
 have h2:2<=2 ^ b:=by simpa using Nat.pow_le_pow_right (show 0<2 by omega) hb
 generalize 2 ^ a=x at *;generalize 2 ^ b=y at *;have:=Nat.mul_le_mul_left (x - 1) (show 1<=y - 1 by omega);obtain⟨x,rfl⟩: ∃u,x=u+1:=⟨x - 1,by omega⟩
 obtain⟨y,rfl⟩: ∃u,y=u+1:=⟨y - 1,by omega⟩
 simp only[Nat.add_sub_cancel,Nat.mul_one]at this;rw[Nat.add_mul,Nat.mul_add];omega
def av (A B:List (List Fact)):(FG A B).length=A.length*B.length:=by
 induction A with
 | nil=>simp[FG]
 | cons x r ih=>
   simp only[FG,List.flatMap_cons,R0,Bu,Lz]at *;rw[ih,Nat.add_mul];omega
def KW (f : Fact):arity f=true-> ∀c,(BS f c).length<=2 ^ lv f/\ ∀l∈BS f c,l.length<=lv f:=by
 induction f using Fact.ind with
 | h f ih=>
   intro h c;rw[Ey,Jh,Gr,Zr];by_cases h1:f.op=1
   .have e5: ¬f.op=5:=by omega
    have e6: ¬(f.op=6\/f.op=7):=by omega
    rw[if_pos h1,if_neg e5,if_neg e6];cases c
    .rw[if_neg (by decide)]
     exact⟨by simp,fun l hl=>by simp at hl;subst hl;simp⟩
    .rw[if_pos rfl]
     exact⟨by simp,fun l hl=>by cases hl⟩
   rw[if_neg h1];by_cases h5:f.op=5
   .obtain⟨a,ha,hb⟩:=FC h h5
    rw[if_pos h5,if_pos h5,ha];exact ih a (by rw[ha];exact .head _) hb (!c)
   rw[if_neg h5,if_neg h5];by_cases h6:f.op=6\/f.op=7
   .obtain⟨a,b,ha,hb1,hb2⟩:=FB h h6
    rw[if_pos h6,if_pos h6,ha];simp only[E4,List.map_nil,List.getD_cons_zero,List.getD_cons_succ];obtain⟨i1,i2⟩:=ih a (by rw[ha];exact .head _) hb1 c;obtain⟨j1,j2⟩:=ih b (by rw[ha];exact .tail _ (.head _)) hb2 c;have p1:=ei a hb1;have p2:=ei b hb2;split
    .refine⟨?_,fun l hl=>?_⟩
     .rw[R0]
      have:=kq p1 p2;omega
     .rcases Dr.1 hl with hl|hl
      .have:=i2 l hl;omega
      .have:=j2 l hl;omega
    .refine⟨?_,fun l hl=>?_⟩
     .rw[av,Nat.pow_add]
      exact Nat.mul_le_mul i1 j1
     .simp only[FG,List.mem_flatMap,Iz]at hl
      obtain⟨x,hx,y,hy,rfl⟩:=hl;have:=RI x y;have:=i2 x hx;have:=j2 y hy;omega
   .rw[if_neg h6,if_neg h6]
    cases c
    .exact⟨by simp,fun l hl=>by simp at hl;subst hl;simp⟩
    .exact⟨by simp,fun l hl=>by simp at hl;subst hl;simp⟩
def qY (f:Fact):arity f=true->2*lv f<=QC f+1:=by
 induction f using Fact.ind with
 | h f ih=>
   intro h;rw[Jh,Zr,Om];by_cases h5:f.op=5
   .obtain⟨a,ha,hb⟩:=FC h h5
    rw[if_pos h5,ha];have:=ih a (by rw[ha];exact .head _) hb;simp only[E4,List.map_nil,List.getD_cons_zero,List.sum_cons,List.sum_nil];omega
   rw[if_neg h5];by_cases h6:f.op=6\/f.op=7
   .obtain⟨a,b,ha,hb1,hb2⟩:=FB h h6
    rw[if_pos h6,ha];have:=ih a (by rw[ha];exact .head _) hb1;have:=ih b (by rw[ha];exact .tail _ (.head _)) hb2;simp only[E4,List.map_nil,List.getD_cons_zero,List.getD_cons_succ,List.sum_cons,List.sum_nil];omega
   .rw[if_neg h6]
    omega
def C1 (w:AJ) (x:Fact):Prop:= ∃g,BT w g=true/\Cq g=true/\(x=g\/x=Ea g)
def E8 {g:Fact} (h:Cq g=true):g.op=2\/g.op=3\/g.op=4:=by
 simp only[Cq,EJ,Cr]at h;omega
def Df {w : AJ} (f:Fact):BT w f=true-> ∀c,∀l∈BS f c,∀x∈l,C1 w x:=by
 induction f using Fact.ind with
 | h f ih=>
   intro h c;have har:=By f h;have h':=h;rw[CS,A8,Dh]at h';rw[Ey,Gr];by_cases h1:f.op=1
   .rw[if_pos h1]
    cases c
    .rw[if_neg (by decide)]
     intro l hl x hx;simp at hl;subst hl;cases hx
    .rw[if_pos rfl]
     intro l hl;cases hl
   rw[if_neg h1];by_cases h5:f.op=5
   .obtain⟨a,ha,hb⟩:=FC har h5
    rw[if_pos h5,ha];exact ih a (by rw[ha];exact .head _) (h'.2 a (by rw[ha];exact .head _)) (!c)
   rw[if_neg h5];by_cases h6:f.op=6\/f.op=7
   .obtain⟨a,b,ha,hb1,hb2⟩:=FB har h6
    rw[if_pos h6,ha];have i1:=ih a (by rw[ha];exact .head _) (h'.2 a (by rw[ha];exact .head _)) c;have j1:=ih b (by rw[ha];exact .tail _ (.head _)) (h'.2 b (by rw[ha];exact .tail _ (.head _))) c;simp only[E4,List.map_nil,List.getD_cons_zero,List.getD_cons_succ];split
    .intro l hl
     rcases Dr.1 hl with hl|hl
     .exact i1 l hl
     .exact j1 l hl
    .intro l hl x hx
     simp only[FG,List.mem_flatMap,Iz]at hl;obtain⟨y,hy,z,hz,rfl⟩:=hl;rcases RH _ _ _ hx with h|h
     .exact i1 y hy x h
     .exact j1 z hz x h
   .rw [if_neg h6]
    have hlf:Cq f=true:=by
     have ho:Zp w f=true:=by
      have:=h'.1;simp only[Dx,A8]at this;exact this.1
     simp only[Cq,EJ,Cr];unfold Zp at ho;split at ho
     .omega
     .split at ho
      .omega
      .simp only[EJ,Cr]at ho
       omega
    cases c
    .rw[if_neg (by decide)]
     intro l hl x hx;simp at hl;subst hl;simp at hx;subst hx;exact⟨x,h,hlf,.inl rfl⟩
    .rw[if_pos rfl]
     intro l hl x hx;simp at hl;subst hl;simp at hx;subst hx;exact⟨f,h,hlf,.inr rfl⟩
def HM {w:AJ} {x:Fact} (h:C1 w x):np x/\BT w (Ai x).1=true/\Cq (Ai x).1=true:=by
 obtain⟨g,hn,hl,rfl|rfl⟩:=h
 .have:=E8 hl
  have h5: ¬x.op=5:=by omega
  exact⟨fun e=>absurd e h5,by simp only[Ai,if_neg h5];exact⟨hn,hl⟩⟩
 .exact⟨fun _ e=>(by cases e),hn,hl⟩
def LR {w:AJ} {l:List Fact} (h: ∀x∈l,C1 w x):(∀x∈l,np x)/\wL w l/\W4 l/\eO l 2:=by
 refine⟨fun x hx=>(HM (h x hx)).1,fun x hx h2=>?_,fun x hx=>?_,fun x hx=>?_⟩
 all_goals
  obtain⟨-,hn,hl⟩:=HM (h x hx);have hlo:=E8 hl;generalize (Ai x).1=g at *;rw[CS,A8]at hn;have hn:=hn.1;simp only[Dx,A8]at hn;obtain⟨ho,-,-,-,hp,-⟩:=hn
 .unfold Zp at ho
  rw[if_pos h2]at ho;simp only[Wq,A8,Cm]at ho;exact ho.2
 .unfold Zp at ho
  split at ho
  .simp only[A8,Cr]at ho
   omega
  .split at ho
   .simp only[A8,Cm]at ho
    omega
   .omega
 .simp only[IY,A8,Cm]at hp
  omega
def Wi (w:AJ) (f:Fact):Bool:=(BS f false).any (Fg w)
def T6 (w:AJ) (a b:Fact):Bool:= !Wi w (QK a (Ea b))
def qX (a b:Fact):lv (QK a (Ea b))=lv a+lv b:=by
 rw[Jh];simp only[Zr,QK,Fact.op,Fact.kids,E4,List.map_nil,List.getD_cons_zero,List.getD_cons_succ];rw[Jh (Ea b)];simp[Zr,Ea,Fact.op,Fact.kids]
def VD {w:AJ} {a b:Fact} (ha:BT w a=true) (hb:BT w b=true):BT w (QK a (Ea b))=true:=by
 have hnb:BT w (Ea b)=true:=by
  rw[CS];simp[Ea,Dx,Zp,Fact.op,Fact.kids,Fact.arg,Fact.path,Fact.cls,Fact.n,Cy,IY,Cq,hb]
 rw[CS];simp[QK,Dx,Zp,Fact.op,Fact.kids,Fact.arg,Fact.path,Fact.cls,Fact.n,Cy,IY,Cq,ha,hnb]
def U3 {p:Prog}: ∀ {ms:List Ng} {s:List Int},(runM p ms s).isSome=true-> ∀m∈ms,Wd p m=true
 | [],_,_,_,h=>by cases h
 | m ::r,s,h,x,hx=>by
   rw[runM]at h;split at h
   .rename_i hok
    split at h
    .cases h
    .rcases Fq.1 hx with rfl|hx
     .exact hok
     .exact U3 h x hx
   .cases h
def Ft {p:Prog} (h:(Bf p).isSome=true):Fb p=true/\ ∀m∈p.methods,Wd p m=true:=by
 unfold Bf at h;split at h
 .rename_i hh
  refine⟨hh,?_⟩;split at h
  .cases h
  .rename_i s hs
   exact U3 (by rw[hs];rfl)
 .cases h
structure Ed (p:Prog):Prop where
 ud:Ju (AT p)
 AI:CX p.AZ<=Ay
 many0:p.AZ.length<=1000
 facts: ∀m∈p.methods,BT (AT p) m.fact=true/\lv m.fact<=12
 many:p.methods.length<=16
def look_ok {p:Prog} (h:(Bf p).isSome=true):Ed p:=by
 obtain⟨hh,hm⟩:=Ft h;simp only[Fb,A8,Cm]at hh;have hc:=hh.1;simp only[CL,A8,Cm]at hc;have hM:=Mx;refine⟨XS hc.1 hc.2.1 hc.2.2.2.1,by have:=(HT _ _ hc.2.1).1;omega,by have:=hc.1;omega,fun m h=>?_,hh.2.2.1⟩;have:=hm m h;simp only[Wd,EM,A8,Cm]at this;have hn:=this.2.2.2.2.1.2.2;refine⟨hn,?_⟩;have hcn:=Pa m.fact 24 (by omega) this.2.2.2.2.1.1;have:=qY m.fact (By _ hn);omega
def Bc (p:Prog) (m:Int):Bool:=decide (0<=m)&&decide (m<(p.methods.length:Int))
def B1 (p:Prog) (m:Int):Ng:=p.methods.getD m.toNat default
def C0 {p:Prog} {m:Int} (h:Bc p m=true):p.methods[m.toNat]? =some (B1 p m):=by
 simp only[Bc,A8,Cm]at h;rw[B1,Ds,ES (by omega)];rfl
def KA (p:Prog) (m n:Int):Bool:=(B1 p m).gen==(B1 p n).gen&&(B1 p m).kind==(B1 p n).kind
def Ja (p:Prog) (m n:Int):Bool:=T6 (AT p) (B1 p m).fact (B1 p n).fact
def Az (p:Prog) (m n:Int):Bool:=Ja p m n&& !Ja p n m
end Go.Gl
namespace Go.Gl
variable {P:Program} {σ:AH}
abbrev eU (n:Nat):V:= .i .u64 (n:Int)
def HH {n:Nat} (h:n<18446744073709551616):IntKind.u64.wrap (n:Int)=n:=by
 simp only[IntKind.wrap,IntKind.signed,IntKind.bits];simp;omega
def GX {a b:Nat} (ha:a<18446744073709551616) (hb:b<18446744073709551616):bits .or .u64 (a:Int) (b:Int)=((a|||b:Nat):Int):=by
 have h:a|||b<2 ^ 64:=Nat.or_lt_two_pow (n:=64) (by simpa using ha) (by simpa using hb)
 simp only[bits,IntKind.bits]
 have e1:(BitVec.ofInt 64 (a:Int)|||BitVec.ofInt 64 (b:Int)).toNat=a|||b:=by
  simp only[BitVec.ofInt_natCast,BitVec.toNat_or,BitVec.toNat_ofNat];rw[Nat.mod_eq_of_lt (by simpa using ha),Nat.mod_eq_of_lt (by simpa using hb)]
 have e2:=HH (n:=a|||b) (by simpa using h);rw[<-e1]at e2;rw[<-e1];exact e2
def FN {a b:Nat} (ha:a<18446744073709551616) (hb:b<18446744073709551616):bits .and .u64 (a:Int) (b:Int)=((a&&&b:Nat):Int):=by
 have h:a&&&b<2 ^ 64:=Nat.and_lt_two_pow (n:=64) a (by simpa using hb);simp only[bits,IntKind.bits]
 have e1:(BitVec.ofInt 64 (a:Int)&&&BitVec.ofInt 64 (b:Int)).toNat=a&&&b:=by
  simp only[BitVec.ofInt_natCast,BitVec.toNat_and,BitVec.toNat_ofNat];rw[Nat.mod_eq_of_lt (by simpa using ha),Nat.mod_eq_of_lt (by simpa using hb)]
 have e2:=HH (n:=a&&&b) (by simpa using h);rw[<-e1]at e2;rw[<-e1];exact e2
def Km (a b:Nat):Nat:=(BitVec.ofNat 64 a&&& ~~~BitVec.ofNat 64 b).toNat
def TR (a b:Nat):Km a b<18446744073709551616:=by
 have:=(BitVec.ofNat 64 a&&& ~~~BitVec.ofNat 64 b).isLt;simpa[Km]using this
def Hb {a b:Nat}:bits .andNot .u64 (a:Int) (b:Int)=((Km a b:Nat):Int):=by
 simp only[bits,IntKind.bits]
 have e1:(BitVec.ofInt 64 (a:Int)&&& ~~~BitVec.ofInt 64 (b:Int)).toNat=Km a b:=by
  simp only[BitVec.ofInt_natCast,Km]
 have e2:=HH (n:=Km a b) (TR a b);rw[<-e1]at e2;rw[<-e1];exact e2
def PI {a b i:Nat} (hi:i<64):(Km a b).testBit i=(a.testBit i&& !b.testBit i):=by
 rw[Km,BitVec.testBit_toNat,BitVec.getLsbD_and,BitVec.getLsbD_not];rw[BitVec.getLsbD_ofNat,BitVec.getLsbD_ofNat];simp only[hi,decide_true,D2]
def Sy {c:Nat} (h:c<64):IntKind.u64.wrap (1*2 ^ (min c IntKind.u64.bits))=((2 ^ c:Nat):Int):=by
 have hb:IntKind.u64.bits=64:=rfl;rw[hb,Nat.min_eq_left (by omega),Int.one_mul];have:=HH (n:=2 ^ c) (by have:=Nat.pow_lt_pow_right (show 1<2 by omega) h;simpa using this);rw[<-this];simp
def F1 {c:Nat} (h:c<64):2 ^ c<18446744073709551616:=by
 have:=Nat.pow_lt_pow_right (show 1<2 by omega) h;simpa using this
def Sx {a c:Nat} (h:c<64):(a:Int).fdiv (2 ^ (min c IntKind.u64.bits))=((a >>> c:Nat):Int):=by
 have hb:IntKind.u64.bits=64:=rfl;rw[hb,Nat.min_eq_left (by omega),Nat.shiftRight_eq_div_pow,Int.fdiv_eq_ediv_of_nonneg _ (Int.pow_nonneg (by omega))];simp
def C4 {v:V} {Q:R->AH->Prop} (h:Q (.BZ v) σ):Ac σ v Q:=⟨v,σ,fun _ _ h=>h,.refl v,h⟩
def BD {g:FuncId} {fi ca args:List V} {Q:R->AH->Prop} (h:As P g (fi++args++ca) σ Q):Ao P (.f (.func g) fi ca) args σ Q:=h
def Pure.of {f:FuncId} {args:List V} {v:V} (h:As P f args emp fun r _=>r= .ret v):Pure P f args v:=by
 refine⟨h.1,fun Λ w cs G hv=>Calls.mono (h.2 Λ w cs G hv) fun e w' ⟨r,σ',hr,h1,h2,h3⟩=>?_⟩;subst hr;obtain⟨c,rfl,hv'⟩:=h1;have hsub:Sub emp σ':=fun n o ho=>by cases ho
 exact⟨.ret v,emp,⟨rfl,rfl⟩,⟨c,rfl,Ff.rel h2 hsub (.refl v) hv'⟩,h2.drop hsub,⟨h3.frame,h3.size,h3.os,h3.tape,h3.output,fun _ _ _=>rfl⟩⟩
def Cu {α S:Type} (P:Program) (x:V) (ea:α->V) (H:S->List At) (stp:α->S->Bool×S) (D:α->S->Prop):Prop:=
 ∀y s,D y s-> ∀σ,Sat σ (H s)->Ao P x [ea y] σ fun r σ'=>r= .ret (.b (stp y s).1)/\Sat σ' (H (stp y s).2)
def Cu.use {α S:Type} {x:V} {ea:α->V} {H:S->List At} {stp:α->S->Bool×S} {D:α->S->Prop} (h:Cu P x ea H stp D) {y:α} {s:S} (hd:D y s) (hs:Sat σ (H s)) {k kp:V->AH->Prop} (hk: ∀σ',Sat σ' (H (stp y s).2)->k (.b (stp y s).1) σ'):Ao P x [ea y] σ (qk k kp):=
 (h y s hd σ hs).mono fun r σ' ⟨e,h'⟩=>by rw[e];exact hk σ' h'
def Cu.xM {α S:Type} {g:FuncId} {fi ca:List V} {ea:α->V} {H:S->List At} {stp:α->S->Bool×S} {D:α->S->Prop} (h:Cu P (.f (.func g) fi ca) ea H stp D) {y:α} {s:S} (hd:D y s) {rest:List At} (hs:Sat σ (H s++rest)) {k kp:V->AH->Prop} (hk: ∀σ',Sat σ' (H (stp y s).2++rest)->k (.b (stp y s).1) σ'):Ao P (.f (.func g) fi ca) [ea y] σ (qk k kp):=by
 refine BD ?_;have h1:BK P g (fi++[ea y]++ca) (H s) fun r post=>r= .ret (.b (stp y s).1)/\post=H (stp y s).2:=fun σ hs=>As.mono (h y s hd σ hs) fun r σ' ⟨e,h2⟩=>⟨_,⟨e,rfl⟩,h2⟩
 refine h1.use hs ?_;rintro r post σ' ⟨rfl,rfl⟩ hs';exact hk σ' hs'
def Bl {α S:Type} (stp:α->S->Bool×S):List α->Nat->S->Int×S
 | [],_,s=>(-1,s)
 | y::r,k,s=>if(stp y s).1 then((k:Int),(stp y s).2)else Bl stp r (k+1) (stp y s).2
def B5 {α S:Type} (stp:α->S->Bool×S):List α->S->Bool×S
 | [],s=>(true,s)
 | y::r,s=>if(stp y s).1 then B5 stp r (stp y s).2 else(false,(stp y s).2)
def Wc {α S:Type} (stp:α->S->Bool×S) (D:α->S->Prop):List α->S->Prop
 | [],_=>True
 | y::r,s=>D y s/\Wc stp D r (stp y s).2
def Mm {α S:Type} {stp:α->S->Bool×S}: ∀(xs:List α) (k:Nat) (s:S),(Bl (fun y s=>(!(stp y s).1,(stp y s).2)) xs k s).2=(B5 stp xs s).2/\(decide ((Bl (fun y s=>(!(stp y s).1,(stp y s).2)) xs k s).1≥0)= !(B5 stp xs s).1)
 | [],_,_=>⟨rfl,rfl⟩
 | y::r,k,s=>by
   simp only[Bl,B5];cases h:(stp y s).1
   .simp
   .simpa using Mm r (k+1) (stp y s).2
def S1 {α S:Type} {stp:α->S->Bool×S} {D:α->S->Prop}: ∀(xs:List α) (s:S),Wc stp D xs s->Wc (fun y s=>(!(stp y s).1,(stp y s).2)) D xs s
 | [],_,_=>trivial
 | _::r,_,h=>⟨h.1,S1 r _ h.2⟩
def JU {α:Type} (f:α->Bool): ∀(xs:List α),B5 (fun y (_:Unit)=>(f y,())) xs ()=(xs.all f,())
 | []=>rfl
 | y::r=>by
   simp only[B5,WX];cases f y
   .rfl
   .simpa using JU f r
def Gk {α S:Type} {stp:α->S->Bool×S} {D:α->S->Prop}: ∀ {xs:List α} {s:S},(∀y∈xs,∀s,D y s)->Wc stp D xs s
 | [],_,_=>trivial
 | y::r,s,h=>⟨h y (.head _) s,Gk fun z hz=>h z (.tail _ hz)⟩
end Go.Gl
namespace Go.Gl
open Go.Proofs
attribute [local irreducible] As Am Ac AQ AM Ab AP AR AL Aa AN AO Ao Ax Sat AW Au Ad W
def Sd {xs:List Int} {f:Bool} (h:FE (.l (iL xs) f)):xs.length<=Ay:=di h
def gy:Pure Tryz.prog 283 [.b true] (.t []):=by
 refine fN kZ ?_;have hs:=Sn
 conv=>whnf
 repeat'((first|apply st|(apply sq;intro K U)|(apply si;intro A B Y Z)|(apply Y;clear Z B Y A)|(apply U;clear U K)|refine Es ?_|fail)<;>conv=>whnf)
 all_goals exact AS rfl
abbrev Db:V:= .Eo 377 (.a [])
def pC (xs:List Int) (x:Int):Int:=(Bl (fun y (_:Unit)=>(x==y,())) xs 0 ()).1
def La {α:Type} (f:α->Bool): ∀(xs:List α) (k:Nat),(decide ((Bl (fun y (_:Unit)=>(f y,())) xs k ()).1≥0))=xs.any f
 | [],_=>rfl
 | y::r,k=>by
   simp only[Bl,QB];cases f y
   .simpa using La f r (k+1)
   .simp
def Tf (xs:List Int) (x:Int):xs.any (x== ·)=xs.contains x:=by
 induction xs with
 | nil=>rfl
 | cons y r ih=>rw[QB,List.contains_cons,ih]
def lg (xs:List Int) (x:Int):decide (pC xs x≥0)=xs.contains x:=by
 rw[<-Tf];exact La (x== ·) xs 0
def iJ (xs:List Int) (f:Bool) (x:Int):Pure Tryz.prog 96 [.l (iL xs) f,eI x] (eI (pC xs x)):=by
 refine Pure.fit (by kernel_rfl) fun hf=>?_
 have hxl:=Sd hf.1;have hM:=Mx;refine wB kZ ?_;have hs:=Sn
 conv=>whnf
 repeat'((first|apply st|(apply sq;intro K U)|(apply si;intro A B Y Z)|(apply Y;clear Z B Y A)|(apply U;clear U K)|fail)<;>conv=>whnf)
 refine D3 xs.length (fun k (_:Unit)=>[(8,eI (Bq k))]) (fun _ _=>[]) (fun k _=>pC xs x=(Bl (fun y (_:Unit)=>(x==y,())) (xs.drop k) k ()).1) () rfl rfl hs ?_;clear hs;rintro k - σ hk hn hs;have hck:Bq k=k:=AV (by omega);rcases BM xs hk with⟨y,hy,hlt⟩|hke
 .rw[drop_cons hy,Bl]at hn
  conv=>whnf
  repeat'((first|apply st|(apply sq;intro K U)|(apply si;intro A B Y Z)|(apply Y;clear Z B Y A)|(apply U;clear U K)|refine⟨rfl,?_⟩|refine ix ?_|(refine DV (fun hc=>?_)<;>(try rw[hc])<;>clear hc)|(constructor<;>intro hc<;>(try rw[hc])<;>(replace hc:=bp hc))|clear U K)<;>conv=>whnf)
  .exact AS (by rw[hn,hc,hck];simp)
  .exact⟨hlt,(),rfl,by rw[hn];simp[hc],hs⟩
 .rw[BX hke,Bl]at hn
  conv=>whnf
  repeat'((first|apply st|(apply sq;intro K U)|(apply si;intro A B Y Z)|(apply Y;clear Z B Y A)|(apply U;clear U K)|refine⟨rfl,?_⟩|(refine EZ (fun hc=>?_)<;>(try rw[hc])<;>clear hc)|clear U K)<;>conv=>whnf)
  exact AS (by rw[hn])
def Ck (xs:List Int) (f:Bool) (x:Int):Pure Tryz.prog 34 [.l (iL xs) f,eI x] (.b (xs.contains x)):=by
 refine wK kZ ?_;have hs:=Sn
 conv=>whnf
 repeat'((first|apply st|(apply sq;intro K U)|(apply si;intro A B Y Z)|(apply Y;clear Z B Y A)|(apply U;clear U K)|refine⟨rfl,?_⟩|refine Pure.use (iJ _ _ _) ?_|fail)<;>conv=>whnf)
 all_goals exact AS (by rw[<-lg])
def P1 (n:Int):Pure Tryz.prog 326 [eI n] (.b (Wt n)):=by
 refine rX kZ ?_;have hs:=Sn
 conv=>whnf
 repeat'((first|apply st|(apply sq;intro K U)|(apply si;intro A B Y Z)|(apply Y;clear Z B Y A)|(apply U;clear U K)|refine⟨rfl,?_⟩|(constructor<;>intro hc<;>(try rw[hc])<;>(replace hc:=bp hc))|fail)<;>conv=>whnf)
 all_goals exact AS (by simp[Wt, *]<;>omega)
def LS (f:Fact):Cq f=(decide (2<=f.op)&&decide (f.op<=4)):=by
 rw[Hf];simp only[Cq,EJ,A8,Cr,Cm];omega
def S8 (f:Fact):Pure Tryz.prog 180 [.a (xF f)] (.b (Cq f)):=by
 refine tN kZ ?_;have hs:=Sn
 conv=>whnf
 repeat'((first|apply st|(apply sq;intro K U)|(apply si;intro A B Y Z)|(apply Y;clear Z B Y A)|(apply U;clear U K)|refine⟨rfl,?_⟩|(constructor<;>intro hc<;>(try rw[hc])<;>(replace hc:=bp hc))|fail)<;>conv=>whnf)
 all_goals exact AS (by rw[LS];simp[*]<;>omega)
def Yd (s c:Nat) (hs0:s<18446744073709551616) (hc:c<64):Pure Tryz.prog 245 [eU s,eI c] (eU (s|||2 ^ c)):=by
 refine sc kZ ?_;have hs:=Sn
 conv=>whnf
 repeat'((first|(apply sq;intro K U)|(apply si;intro A B Y Z)|(apply Y;clear Z B Y A)|(apply U;clear U K)|fail)<;>conv=>whnf)
 refine⟨Int.natCast_nonneg _,?_⟩
 conv=>whnf
 repeat'((first|apply st|(apply Y;clear Z B Y A)|(apply U;clear U K)|refine⟨rfl,?_⟩|fail)<;>conv=>whnf)
 exact AS (by rw[Hd,Sy hc,GX hs0 (F1 hc)])
def SZ (s c:Nat) (hs0:s<18446744073709551616) (hc:c<64):Pure Tryz.prog 182 [eU s,eI c] (.b (s.testBit c)):=by
 refine tM kZ ?_;have hs:=Sn
 conv=>whnf
 repeat'((first|(apply sq;intro K U)|(apply si;intro A B Y Z)|(apply Y;clear Z B Y A)|(apply U;clear U K)|fail)<;>conv=>whnf)
 refine⟨Int.natCast_nonneg _,?_⟩
 conv=>whnf
 repeat'((first|apply st|(apply Y;clear Z B Y A)|(apply U;clear U K)|refine⟨rfl,?_⟩|fail)<;>conv=>whnf)
 refine AS ?_;rw[Hd,Sx hc];have h1:s >>> c<18446744073709551616:=by rw[Nat.shiftRight_eq_div_pow];exact Nat.lt_of_le_of_lt (Nat.div_le_self _ _) hs0
 have h2:bits .and .u64 ((s >>> c:Nat):Int) 1=((s >>> c&&&1:Nat):Int):=FN h1 (show 1<_ by decide);rw[h2];simp only[Nat.testBit,Nat.and_comm 1];congr 1;rcases Nat.mod_two_eq_zero_or_one (s >>> c)with h|h<;>simp[Nat.and_one_is_mod,h]
def lY (op:Int):Pure Tryz.prog 303 [eI op] (eI (Cy op)):=by
 refine rz kZ ?_;have hs:=Sn
 conv=>whnf
 repeat'((first|apply st|(apply sq;intro K U)|(apply si;intro A B Y Z)|(apply Y;clear Z B Y A)|(apply U;clear U K)|refine⟨rfl,?_⟩|(constructor<;>intro hc<;>(try rw[hc])<;>(replace hc:=bp hc))|clear U K)<;>conv=>whnf)
 all_goals exact AS (by simp[Cy, *])
def Xb (b:Bool):Pure Tryz.prog 218 [.b b] (eI (if b then 0 else 2)):=by
 refine sr kZ ?_;have hs:=Sn
 conv=>whnf
 repeat'((first|apply st|(apply sq;intro K U)|(apply si;intro A B Y Z)|(apply Y;clear Z B Y A)|(apply U;clear U K)|(constructor<;>intro hc<;>(try rw[hc])<;>(replace hc:=bp hc))|clear U K)<;>conv=>whnf)
 all_goals exact AS (by simp[*])
def H0 {S:Type} (g:FuncId) (fi ca:List V) (H:S->List At) (stp:Int->S->Bool×S) (D:Int->S->Prop) (hx:Cu Tryz.prog (.f (.func g) fi ca) eI H stp D) (xs:List Int) (f:Bool) (s0:S) (hd:Wc stp D xs s0) :
    BK Tryz.prog 117 [.l (iL xs) f,.f (.func g) fi ca] (H s0) fun r post=>r= .ret (eI (Bl stp xs 0 s0).1)/\post=H (Bl stp xs 0 s0).2:=by
 intro σ hs;refine As.fit (by kernel_rfl) fun hf=>?_
 have hxl:=Sd hf.1;have hM:=Mx;refine fV kZ ?_
 conv=>whnf
 repeat'((first|apply st|(apply sq;intro K U)|(apply si;intro A B Y Z)|(apply Y;clear Z B Y A)|(apply U;clear U K)|fail)<;>conv=>whnf)
 refine D3 xs.length (fun k (_:S)=>[(8,eI (Bq k))]) (fun _ s=>H s) (fun k s=>Wc stp D (xs.drop k) s/\Bl stp xs 0 s0=Bl stp (xs.drop k) k s) s0 rfl ⟨hd,rfl⟩ hs ?_;clear hs;rintro k s σ hk ⟨hd,hn⟩ hs;have hck:Bq k=k:=AV (by omega);rcases BM xs hk with⟨y,hy,hlt⟩|hke
 .rw[drop_cons hy]at hn hd
  obtain⟨hd1,hd2⟩:=hd;rw[Bl]at hn
  conv=>whnf
  repeat'((first|apply st|(apply sq;intro K U)|(apply si;intro A B Y Z)|(apply Y;clear Z B Y A)|(apply U;clear U K)|refine⟨rfl,?_⟩|refine ix ?_|(refine DV (fun hc=>?_)<;>(try rw[hc])<;>clear hc)|fail)<;>conv=>whnf)
  refine hx.use hd1 hs ?_;clear hs;intro σ hs
  conv=>whnf
  repeat'((first|apply st|(apply sq;intro K U)|(apply si;intro A B Y Z)|(apply Y;clear Z B Y A)|(apply U;clear U K)|refine⟨rfl,?_⟩|(constructor<;>intro hc<;>(try rw[hc])<;>(replace hc:=bp hc))|clear U K)<;>conv=>whnf)
  .rw[hc,if_pos rfl]at hn
   rw[hn];exact A4 hs (List.Sublist.refl _) (by rw[hck];exact .refl _) fun σ' hs'=>⟨_,⟨rfl,rfl⟩,hs'⟩
  .rw[hc,if_neg (by decide)]at hn
   exact⟨hlt,_,rfl,⟨hd2,hn⟩,hs⟩
 .rw[BX hke,Bl]at hn
  conv=>whnf
  repeat'((first|apply st|(apply sq;intro K U)|(apply si;intro A B Y Z)|(apply Y;clear Z B Y A)|(apply U;clear U K)|refine⟨rfl,?_⟩|(refine EZ (fun hc=>?_)<;>(try rw[hc])<;>clear hc)|clear U K)<;>conv=>whnf)
  rw[hn];exact A4 hs (List.Sublist.refl _) (.refl _) fun σ' hs'=>⟨_,⟨rfl,rfl⟩,hs'⟩
section
variable {S:Type} (g:FuncId) (fi ca:List V) (H:S->List At)
def GF (stp:Int->S->Bool×S) (D:Int->S->Prop) (hx:Cu Tryz.prog (.f (.func g) fi ca) eI H stp D) (xs:List Int) (f:Bool) (s0:S) (hd:Wc stp D xs s0) :
    BK Tryz.prog 49 [.l (iL xs) f,.f (.func g) fi ca] (H s0) fun r post=>r= .ret (.b (decide ((Bl stp xs 0 s0).1≥0)))/\post=H (Bl stp xs 0 s0).2:=by
 intro σ hs;refine oF kZ ?_
 conv=>whnf
 repeat'((first|(apply sq;intro K U)|(apply si;intro A B Y Z)|(apply Y;clear Z B Y A)|(apply U;clear U K)|fail)<;>conv=>whnf)
 refine(H0 g fi ca H stp D hx xs f s0 hd).use (rest:=[]) (by simpa using hs) ?_;rintro r post σ ⟨rfl,rfl⟩ hs
 conv=>whnf
 repeat'((first|apply st|(apply Y;clear Z B Y A)|(apply U;clear U K)|refine⟨rfl,?_⟩|fail)<;>conv=>whnf)
 exact A4 hs (by simp) (.refl _) fun σ' hs'=>⟨_,⟨rfl,rfl⟩,hs'⟩
def qU (stp:Int->S->Bool×S) (D:Int->S->Prop) (hx:Cu Tryz.prog (.f (.func g) fi ca) eI H stp D):Cu Tryz.prog (.f (.func 301) [] [.rp [.f (.func g) fi ca]]) eI H (fun y s=>(!(stp y s).1,(stp y s).2)) D:=by
 intro y s hd σ hs;refine BD ?_;show As Tryz.prog 301 ([]++[eI y]++[.rp [.f (.func g) fi ca]]) σ _;refine fM kZ ?_
 conv=>whnf
 repeat'((first|apply st|(apply sq;intro K U)|(apply si;intro A B Y Z)|(apply Y;clear Z B Y A)|(apply U;clear U K)|fail)<;>conv=>whnf)
 refine hx.use hd hs ?_;clear hs;intro σ hs
 conv=>whnf
 repeat'((first|apply st|(apply Y;clear Z B Y A)|(apply U;clear U K)|fail)<;>conv=>whnf)
 exact A4 hs (List.Sublist.refl _) (.refl _) fun σ' hs'=>⟨rfl,hs'⟩
def fh (stp:Int->S->Bool×S) (D:Int->S->Prop) (hx:Cu Tryz.prog (.f (.func g) fi ca) eI H stp D) (xs:List Int) (f:Bool) (s0:S) (hd:Wc stp D xs s0) :
    BK Tryz.prog 246 [.l (iL xs) f,.f (.func g) fi ca] (H s0) fun r post=>r= .ret (.b (B5 stp xs s0).1)/\post=H (B5 stp xs s0).2:=by
 intro σ hs;obtain⟨e1,e2⟩:=Mm (stp:=stp) xs 0 s0;refine fQ kZ ?_
 conv=>whnf
 repeat'((first|(apply sq;intro K U)|(apply si;intro A B Y Z)|(apply Y;clear Z B Y A)|(apply U;clear U K)|fail)<;>conv=>whnf)
 refine(GF 301 [] [.rp [.f (.func g) fi ca]] H _ D (qU g fi ca H stp D hx) xs f s0 (S1 xs s0 hd)).use (rest:=[]) (by simpa using hs) ?_;rintro r post σ ⟨rfl,rfl⟩ hs;rw[e2];rw[e1]at hs
 conv=>whnf
 repeat'((first|apply st|(apply Y;clear Z B Y A)|(apply U;clear U K)|fail)<;>conv=>whnf)
 exact A4 hs (by simp) (by rw[Bool.not_not];exact .refl _) fun σ' hs'=>⟨_,⟨rfl,rfl⟩,hs'⟩
def Ta (stp:Fact->S->Bool×S) (D:Fact->S->Prop) (hx:Cu Tryz.prog (.f (.func g) fi ca) (fun y=> .a (xF y)) H stp D) (xs:List Fact) (f:Bool) (s0:S) (hxl:xs.length<=Ay) (hd:Wc stp D xs s0) :
    BK Tryz.prog 330 [.l (facts xs) f,.f (.func g) fi ca] (H s0) fun r post=>r= .ret (eI (Bl stp xs 0 s0).1)/\post=H (Bl stp xs 0 s0).2:=by
 intro σ hs;have hM:=Mx;refine rU kZ ?_
 conv=>whnf
 repeat'((first|apply st|(apply sq;intro K U)|(apply si;intro A B Y Z)|(apply Y;clear Z B Y A)|(apply U;clear U K)|fail)<;>conv=>whnf)
 refine D3 xs.length (fun k (_:S)=>[(8,eI (Bq k))]) (fun _ s=>H s) (fun k s=>Wc stp D (xs.drop k) s/\Bl stp xs 0 s0=Bl stp (xs.drop k) k s) s0 rfl ⟨hd,rfl⟩ hs ?_;clear hs;rintro k s σ hk ⟨hd,hn⟩ hs;have hck:Bq k=k:=AV (by omega);rcases BM xs hk with⟨y,hy,hlt⟩|hke
 .rw[drop_cons hy]at hn hd
  obtain⟨hd1,hd2⟩:=hd;rw[Bl]at hn
  conv=>whnf
  repeat'((first|apply st|(apply sq;intro K U)|(apply si;intro A B Y Z)|(apply Y;clear Z B Y A)|(apply U;clear U K)|refine⟨rfl,?_⟩|refine⟨kZ,?_⟩|refine xB ?_|(refine DV (fun hc=>?_)<;>(try rw[hc])<;>clear hc)|fail)<;>conv=>whnf)
  refine hx.use hd1 hs ?_;clear hs;intro σ hs
  conv=>whnf
  repeat'((first|apply st|(apply sq;intro K U)|(apply si;intro A B Y Z)|(apply Y;clear Z B Y A)|(apply U;clear U K)|refine⟨rfl,?_⟩|(constructor<;>intro hc<;>(try rw[hc])<;>(replace hc:=bp hc))|clear U K)<;>conv=>whnf)
  .rw[hc,if_pos rfl]at hn
   rw[hn];exact A4 hs (List.Sublist.refl _) (by rw[hck];exact .refl _) fun σ' hs'=>⟨_,⟨rfl,rfl⟩,hs'⟩
  .rw[hc,if_neg (by decide)]at hn
   exact⟨hlt,_,rfl,⟨hd2,hn⟩,hs⟩
 .rw[BX hke,Bl]at hn
  conv=>whnf
  repeat'((first|apply st|(apply sq;intro K U)|(apply si;intro A B Y Z)|(apply Y;clear Z B Y A)|(apply U;clear U K)|refine⟨rfl,?_⟩|(refine EZ (fun hc=>?_)<;>(try rw[hc])<;>clear hc)|clear U K)<;>conv=>whnf)
  rw[hn];exact A4 hs (List.Sublist.refl _) (.refl _) fun σ' hs'=>⟨_,⟨rfl,rfl⟩,hs'⟩
def No (stp:Fact->S->Bool×S) (D:Fact->S->Prop) (hx:Cu Tryz.prog (.f (.func g) fi ca) (fun y=> .a (xF y)) H stp D) (xs:List Fact) (f:Bool) (s0:S) (hxl:xs.length<=Ay) (hd:Wc stp D xs s0) :
    BK Tryz.prog 291 [.l (facts xs) f,.f (.func g) fi ca] (H s0) fun r post=>r= .ret (.b (decide ((Bl stp xs 0 s0).1≥0)))/\post=H (Bl stp xs 0 s0).2:=by
 intro σ hs;refine r8 kZ ?_
 conv=>whnf
 repeat'((first|(apply sq;intro K U)|(apply si;intro A B Y Z)|(apply Y;clear Z B Y A)|(apply U;clear U K)|fail)<;>conv=>whnf)
 refine(Ta g fi ca H stp D hx xs f s0 hxl hd).use (rest:=[]) (by simpa using hs) ?_;rintro r post σ ⟨rfl,rfl⟩ hs
 conv=>whnf
 repeat'((first|apply st|(apply Y;clear Z B Y A)|(apply U;clear U K)|refine⟨rfl,?_⟩|fail)<;>conv=>whnf)
 exact A4 hs (by simp) (.refl _) fun σ' hs'=>⟨_,⟨rfl,rfl⟩,hs'⟩
def qS (stp:Fact->S->Bool×S) (D:Fact->S->Prop) (hx:Cu Tryz.prog (.f (.func g) fi ca) (fun y=> .a (xF y)) H stp D):Cu Tryz.prog (.f (.func 302) [] [.rp [.f (.func g) fi ca]]) (fun y=> .a (xF y)) H (fun y s=>(!(stp y s).1,(stp y s).2)) D:=by
 intro y s hd σ hs;refine BD ?_;show As Tryz.prog 302 ([]++[.a (xF y)]++[.rp [.f (.func g) fi ca]]) σ _;refine r5 kZ ?_
 conv=>whnf
 repeat'((first|apply st|(apply sq;intro K U)|(apply si;intro A B Y Z)|(apply Y;clear Z B Y A)|(apply U;clear U K)|refine⟨kZ,?_⟩|fail)<;>conv=>whnf)
 refine hx.use hd hs ?_;clear hs;intro σ hs
 conv=>whnf
 repeat'((first|apply st|(apply Y;clear Z B Y A)|(apply U;clear U K)|fail)<;>conv=>whnf)
 exact A4 hs (List.Sublist.refl _) (.refl _) fun σ' hs'=>⟨rfl,hs'⟩
def fg (stp:Fact->S->Bool×S) (D:Fact->S->Prop) (hx:Cu Tryz.prog (.f (.func g) fi ca) (fun y=> .a (xF y)) H stp D) (xs:List Fact) (f:Bool) (s0:S) (hxl:xs.length<=Ay) (hd:Wc stp D xs s0) :
    BK Tryz.prog 248 [.l (facts xs) f,.f (.func g) fi ca] (H s0) fun r post=>r= .ret (.b (B5 stp xs s0).1)/\post=H (B5 stp xs s0).2:=by
 intro σ hs;obtain⟨e1,e2⟩:=Mm (stp:=stp) xs 0 s0;refine sa kZ ?_
 conv=>whnf
 repeat'((first|(apply sq;intro K U)|(apply si;intro A B Y Z)|(apply Y;clear Z B Y A)|(apply U;clear U K)|fail)<;>conv=>whnf)
 refine(No 302 [] [.rp [.f (.func g) fi ca]] H _ D (qS g fi ca H stp D hx) xs f s0 hxl (S1 xs s0 hd)).use (rest:=[]) (by simpa using hs) ?_;rintro r post σ ⟨rfl,rfl⟩ hs;rw[e2];rw[e1]at hs
 conv=>whnf
 repeat'((first|apply st|(apply Y;clear Z B Y A)|(apply U;clear U K)|fail)<;>conv=>whnf)
 exact A4 hs (by simp) (by rw[Bool.not_not];exact .refl _) fun σ' hs'=>⟨_,⟨rfl,rfl⟩,hs'⟩
end
abbrev UQ (f:Int->Bool):Int->Unit->Bool×Unit:=fun y _=>(f y,())
def PS {g:FuncId} {fi ca:List V} {f:Int->Bool} {D:Int->Unit->Prop} (h: ∀y,D y ()->Pure Tryz.prog g (fi++[eI y]++ca) (.b (f y))):Cu Tryz.prog (.f (.func g) fi ca) eI (fun _=>[]) (UQ f) D:=by
 intro y s hd σ hs;refine BD ?_;show As Tryz.prog g (fi++[eI y]++ca) σ _;refine As.mono ((h y hd).use (k:=fun v σ'=>v= .b (f y)/\Sat σ' []) (kp:=fun _ _=>False) ⟨rfl,Sat.nil⟩) ?_;rintro(v|v) σ' hq
 .obtain⟨rfl,h⟩:=hq
  exact⟨rfl,h⟩
 .exact hq.elim
def m8 {g:FuncId} {fi ca:List V} {f:Int->Bool} {xs:List Int} (b:Bool) (h: ∀y∈xs,Pure Tryz.prog g (fi++[eI y]++ca) (.b (f y))):Pure Tryz.prog 246 [.l (iL xs) b,.f (.func g) fi ca] (.b (xs.all f)):=by
 have:=fh g fi ca (fun _=>[]) (UQ f) (fun y _=>y∈xs) (PS fun y hy=>h y hy) xs b () (Gk fun y hy _=>hy);rw[JU]at this;exact Pure.of (As.mono (this emp Sat.nil) fun r σ' ⟨post,⟨h1,h2⟩,h3⟩=>h1)
def Ui (g:FuncId) (fi ca:List V) (f:Int->Bool):Prop:= ∀y:Int,Pure Tryz.prog g (fi++[eI y]++ca) (.b (f y))
def Ui.use {g:FuncId} {fi ca:List V} {f:Int->Bool} (h:Ui g fi ca f) {y:Int} {σ:AH} {k kp:V->AH->Prop} (hk:k (.b (f y)) σ):Ao Tryz.prog (.f (.func g) fi ca) [eI y] σ (qk k kp):=BD ((h y).use hk)
def lf (g:FuncId) (fi ca:List V) (L:List At) (p:Int->Bool) (hx:Cu Tryz.prog (.f (.func g) fi ca) eI (fun _:Unit=>L) (UQ p) (fun _ _=>True)) (xs:List Int) (f:Bool):BK Tryz.prog 380 [.l (iL xs) f,.f (.func g) fi ca] L fun r post=>r= .ret (.l (iL (xs.filter p)) false)/\post=L:=by
 intro σ hs;refine As.fit (by kernel_rfl) fun hf=>?_
 have hxl:=Sd hf.1;have hM:=Mx;refine fK kZ ?_
 conv=>whnf
 repeat'((first|apply st|(apply sq;intro K U)|(apply si;intro A B Y Z)|(apply Y;clear Z B Y A)|(apply U;clear U K)|fail)<;>conv=>whnf)
 refine D3 xs.length (fun k v=>[(5,v),(10,eI (Bq k))]) (fun k v=>L++[.own v 1 (iL ((xs.take k).filter p))]) (fun _ _=>True) (.l [] true) rfl trivial (OF hs 1) ?_;clear hs;rintro k v σ hk - hs;have hfl:=Wb p (xs.take k);rw[NT]at hfl;rcases BM xs hk with⟨y,hy,hlt⟩|hke
 .have hst:(xs.take (k+1)).filter p=if p y then(xs.take k).filter p++[y]else(xs.take k).filter p:=by
   rw[Ar hy,List.filter_append];cases hp:p y<;>simp[hp]
  generalize (xs.take k).filter p=zs at *
  conv=>whnf
  repeat'((first|apply st|(apply sq;intro K U)|(apply si;intro A B Y Z)|(apply Y;clear Z B Y A)|(apply U;clear U K)|refine⟨rfl,?_⟩|refine ix ?_|(refine DV (fun hc=>?_)<;>(try rw[hc])<;>clear hc)|refine hx.xM (s:=()) (rest:=[_]) trivial hs (fun σ hs=>?_)|(constructor<;>intro hc<;>(try rw[hc])<;>(replace hc:=bp hc)<;>(try simp(disch:=omega) only[Bu,wrap64,AV]at hc))|clear U K)<;>conv=>whnf)
  .refine Hu (YU hs L.length (xs:=zs) (x:=y) List.getElem?_concat_length (by omega) Eg fun v' σ' hs' hsl=>?_)
   rw[List.set_append_right _ _ (IN _),Nat.sub_self]at hs';replace hs:=hs'
   conv=>whnf
   repeat'((first|(apply si;intro A B Y Z)|(apply Y;clear Z B Y A)|(apply U;clear U K)|refine⟨rfl,?_⟩|clear U K)<;>conv=>whnf)
   rw[if_pos (by assumption)]at hst;exact⟨hlt,_,rfl,trivial,by rw[hst];exact hs⟩
  .rw[if_neg (by simp[*])]at hst
   exact⟨hlt,_,rfl,trivial,by rw[hst];exact hs⟩
 .conv=>whnf
  repeat'((first|apply st|(apply sq;intro K U)|(apply si;intro A B Y Z)|(apply Y;clear Z B Y A)|(apply U;clear U K)|refine⟨rfl,?_⟩|(refine EZ (fun hc=>?_)<;>(try rw[hc])<;>clear hc)|clear U K)<;>conv=>whnf)
  rw[CJ hke]at hs;obtain⟨σ2,h1,h2,h3⟩:=Ji hs L.length List.getElem?_concat_length;refine JC h1 h2 ⟨_,⟨rfl,rfl⟩,?_⟩;rw[List.eraseIdx_append_of_length_le (IN _),Nat.sub_self]at h3;simpa using h3
def iG (g:FuncId) (fi ca:List V) (p:Int->Bool) (hpf:Ui g fi ca p) (xs:List Int) (u:V) (hxl:xs.length<=Ay):BK Tryz.prog 380 [u,.f (.func g) fi ca] [.own u 1 (iL xs)] fun r post=>r= .ret (.l (iL (xs.filter p)) false)/\post= [.own u 1 (iL xs)]:=by
 intro σ hs;have hM:=Mx;refine fK kZ ?_
 conv=>whnf
 repeat'((first|apply st|(apply sq;intro K U)|(apply si;intro A B Y Z)|(apply Y;clear Z B Y A)|(apply U;clear U K)|refine lo ?_|fail)<;>conv=>whnf)
 refine D3 xs.length (fun k v=>[(5,v),(10,eI (Bq k))]) (fun k v=>[.own u 1 (iL xs),.own v 1 (iL ((xs.take k).filter p))]) (fun _ _=>True) (.l [] true) rfl trivial (OF hs 1) ?_;clear hs;rintro k v σ hk - hs;have hfl:=Wb p (xs.take k);rw[NT]at hfl;rcases BM xs hk with⟨y,hy,hlt⟩|hke
 .have hst:(xs.take (k+1)).filter p=if p y then(xs.take k).filter p++[y]else(xs.take k).filter p:=by
   rw[Ar hy,List.filter_append];cases hp:p y<;>simp[hp]
  generalize (xs.take k).filter p=zs at *
  conv=>whnf
  repeat'((first|apply st|(apply sq;intro K U)|(apply si;intro A B Y Z)|(apply Y;clear Z B Y A)|(apply U;clear U K)|refine⟨rfl,?_⟩|refine oc ?_|refine uS ?_|refine aq fun v σ hs hsl=>?_|(refine DV (fun hc=>?_)<;>(try rw[hc])<;>clear hc)|refine Ui.use hpf ?_|(constructor<;>intro hc<;>(try rw[hc])<;>(replace hc:=bp hc))|clear U K)<;>conv=>whnf)
  .rw[if_pos (by assumption)]at hst
   exact⟨hlt,_,rfl,trivial,by rw[hst];exact hs.take 2⟩
  .rw[if_neg (by simp[*])]at hst
   exact⟨hlt,_,rfl,trivial,by rw[hst];exact hs.take 2⟩
 .conv=>whnf
  repeat'((first|apply st|(apply sq;intro K U)|(apply si;intro A B Y Z)|(apply Y;clear Z B Y A)|(apply U;clear U K)|refine⟨rfl,?_⟩|(refine EZ (fun hc=>?_)<;>(try rw[hc])<;>clear hc)|clear U K)<;>conv=>whnf)
  rw[CJ hke]at hs;obtain⟨σ2,h1,h2,h3⟩:=Ji hs 1 rfl;exact JC h1 h2 ⟨_,⟨rfl,rfl⟩,h3⟩
def vT:Ui 382 [] [] (· != 0):=by
 intro y;refine rF kZ ?_;have hs:=Sn
 conv=>whnf
 repeat'((first|apply st|(apply sq;intro K U)|(apply si;intro A B Y Z)|(apply Y;clear Z B Y A)|(apply U;clear U K)|refine⟨rfl,?_⟩|fail)<;>conv=>whnf)
 all_goals exact AS rfl
def jA (xs:List Int) (u:V) (hxl:xs.length<=Ay):BK Tryz.prog 379 [u] [.own u 1 (iL xs)] fun r post=>r= .ret (.l (iL (xs.filter (· != 0))) false)/\post= [.own u 1 (iL xs)]:=by
 intro σ hs;refine rH kZ ?_
 conv=>whnf
 repeat'((first|(apply sq;intro K U)|(apply si;intro A B Y Z)|(apply Y;clear Z B Y A)|(apply U;clear U K)|fail)<;>conv=>whnf)
 refine(iG 382 [] [] (· != 0) vT xs u hxl).use (rest:=[]) hs ?_;clear hs;rintro r post σ ⟨rfl,rfl⟩ hs
 conv=>whnf
 repeat'((first|apply st|(apply Y;clear Z B Y A)|(apply U;clear U K)|fail)<;>conv=>whnf)
 exact A4 hs (by simp) (.refl _) fun σ' hs'=>⟨_,⟨rfl,rfl⟩,hs'⟩
def ZL (g : List (List Int)) (f:Bool):Pure Tryz.prog 352 [.l (JY g) f] (.b (FJ g)):=by
 refine Pure.fit (by kernel_rfl) fun hf=>?_
 have⟨g1,g2⟩:=fE hf.1;have hM:=Mx;refine rO kZ ?_;have hs:=Sn;by_cases h16:g.length<=16
 .conv=>whnf
  repeat'((first|apply st|(apply sq;intro K U)|(apply si;intro A B Y Z)|(apply Y;clear Z B Y A)|(apply U;clear U K)|refine⟨rfl,?_⟩|(constructor<;>intro hc<;>(try rw[hc])<;>(replace hc:=bp hc)<;>(try simp(disch:=omega) only[Bu,wrap64,AV]at hc)<;>try(exfalso;omega))|fail)<;>conv=>whnf)
  all_goals try(exfalso;omega)
  refine D3 g.length (fun k (_:Unit)=>[(12,eI (Bq k))]) (fun _ _=>[]) (fun k _=>FJ g=OM k (g.drop k)) () rfl (by simp[FJ,h16]) hs ?_;clear hs;rintro k - σ hk hn hs;have hck:Bq k=k:=AV (by omega);rcases BM g hk with⟨l,hl,hlt⟩|hke
  .have hll:=g2 l (Dm hl)
   rw[drop_cons hl,OM]at hn;by_cases h3:l.length<=3
   .rw[decide_eq_true h3,D2]at hn
    conv=>whnf
    repeat'((first|apply st|(apply sq;intro K U)|(apply si;intro A B Y Z)|(apply Y;clear Z B Y A)|(apply U;clear U K)|refine⟨rfl,?_⟩|refine ix ?_|(refine DV (fun hc=>?_)<;>(try rw[hc])<;>clear hc)|(constructor<;>intro hc<;>(try rw[hc])<;>(replace hc:=bp hc)<;>(try simp(disch:=omega) only[Bu,wrap64,AV]at hc)<;>try(exfalso;omega))|fail)<;>conv=>whnf)
    all_goals try(exfalso;omega)
    refine D3 l.length (fun j (_:Unit)=>[(22,eI (Bq j))]) (fun _ _=>[]) (fun j _=>FJ g=(Z6 k (l.take j) (l.drop j)&&OM (k+1) (g.drop (k+1)))) () rfl hn hs ?_;clear hs hn;rintro j - σ hj hn hs;rcases BM l hj with⟨c,hc0,hjlt⟩|hje
    .rw[drop_cons hc0,Z6,xE]at hn
     have hw:IntKind.i64.wrap (3+Bq k)=3+(k:Int):=by rw[hck,wrap64 (by omega) (by omega)]
     conv=>whnf
     repeat'((first|apply st|(apply sq;intro K U)|(apply si;intro A B Y Z)|(apply Y;clear Z B Y A)|(apply U;clear U K)|refine⟨rfl,?_⟩|refine ix ?_|refine sk1 ?_|(refine DV (fun hc=>?_)<;>(try rw[hc])<;>clear hc)|refine Pure.use (Ck _ _ _) ?_|(constructor<;>intro hc<;>(try rw[hc])<;>(replace hc:=bp hc)<;>(try simp(disch:=omega) only[Bu,wrap64,AV]at hc))|clear U K)<;>conv=>whnf)
     .exact AS (by rw[hn,hc];simp)
     .exact⟨hjlt,(),rfl,by rw[hn,hc,Ar hc0];simp[*],hs⟩
     .exact AS (by(rw[hn];have: ¬c<3+(k:Int):=by omega);simp[this])
     .exact AS (by(rw[hn];have: ¬3<=c:=by omega);simp[this])
    .conv=>whnf
     repeat'((first|apply st|(apply sq;intro K U)|(apply si;intro A B Y Z)|(apply Y;clear Z B Y A)|(apply U;clear U K)|refine⟨rfl,?_⟩|(refine EZ (fun hc=>?_)<;>(try rw[hc])<;>clear hc)|clear U K)<;>conv=>whnf)
     exact⟨hlt,(),rfl,by rw[hn,BX hje];rfl,hs⟩
   .conv=>whnf
    repeat'((first|apply st|(apply sq;intro K U)|(apply si;intro A B Y Z)|(apply Y;clear Z B Y A)|(apply U;clear U K)|refine⟨rfl,?_⟩|refine ix ?_|(refine DV (fun hc=>?_)<;>(try rw[hc])<;>clear hc)|(constructor<;>intro hc<;>(try rw[hc])<;>(replace hc:=bp hc)<;>(try simp(disch:=omega) only[Bu,wrap64,AV]at hc)<;>try(exfalso;omega))|clear U K)<;>conv=>whnf)
    all_goals try(exfalso;omega)
    exact AS (by rw[hn];simp[h3])
  .conv=>whnf
   repeat'((first|apply st|(apply sq;intro K U)|(apply si;intro A B Y Z)|(apply Y;clear Z B Y A)|(apply U;clear U K)|refine⟨rfl,?_⟩|(refine EZ (fun hc=>?_)<;>(try rw[hc])<;>clear hc)|clear U K)<;>conv=>whnf)
   exact AS (by rw[hn,BX hke];rfl)
 .conv=>whnf
  repeat'((first|apply st|(apply sq;intro K U)|(apply si;intro A B Y Z)|(apply Y;clear Z B Y A)|(apply U;clear U K)|refine⟨rfl,?_⟩|(constructor<;>intro hc<;>(try rw[hc])<;>(replace hc:=bp hc)<;>(try simp(disch:=omega) only[Bu,wrap64,AV]at hc)<;>try(exfalso;omega))|clear U K)<;>conv=>whnf)
  all_goals try(exfalso;omega)
  exact AS (by simp[FJ,h16])
def Vd (g:List (List Int)) (f:Bool):Pure Tryz.prog 323 [.l (JY g) f] (eI (if FJ g then 0 else 2)):=by
 refine ra kZ ?_;have hs:=Sn
 conv=>whnf
 repeat'((first|apply st|(apply sq;intro K U)|(apply si;intro A B Y Z)|(apply Y;clear Z B Y A)|(apply U;clear U K)|refine Pure.use (ZL _ _) ?_|(constructor<;>intro hc<;>(try rw[hc])<;>(replace hc:=bp hc))|clear U K)<;>conv=>whnf)
 all_goals exact AS (by simp[*])
def vU (n:Nat) (h:Int):Cu Tryz.prog (.f (.func 381) [] [.p n 0]) eI (fun _:Unit=>[.box n [eI h]]) (UQ (· != h)) (fun _ _=>True):=by
 intro y s _ σ hs;refine BD ?_;show As Tryz.prog 381 ([]++[eI y]++[.p n 0]) σ _;refine rG kZ ?_
 conv=>whnf
 repeat'((first|apply st|(apply sq;intro K U)|(apply si;intro A B Y Z)|(apply Y;clear Z B Y A)|(apply U;clear U K)|refine⟨rfl,?_⟩|refine ld ?_|fail)<;>conv=>whnf)
 exact A4 hs (List.Sublist.refl _) (.refl _) fun σ' hs'=>⟨rfl,hs'⟩
def bX (ls:List (List Int)):UT ls []=false:=rfl
def Xx (ls:List (List Int)) (x:Int) (r:List Int):UT ls (x::r)=free ls x:=rfl
def bj {α:Type} {p:α->Bool} {xs:List α} {k:Nat} {x:α} (hx:xs[k]? =some x) (h:(xs.take k).find? p=none):(xs.take (k+1)).find? p=if p x then some x else none:=by
 rw[Ar hx,List.find?_append,h];simp only[List.find?_cons,List.find?_nil,Option.none_or];cases p x<;>rfl
def bg {α:Type} {p:α->Bool} {xs:List α} {k:Nat} {x:α} (h:(xs.take k).find? p=some x):xs.find? p=some x:=by
 conv=>lhs;rw[<-List.take_append_drop k xs]
 rw[List.find?_append,h];rfl
def Yv (ls:List (List Int)):pick ls=(ls.find? (UT ls)).bind List.head? :=rfl
set_option maxHeartbeats 4000000 in
def iA (ls:List (List Int)) (f:Bool) (hok:Wj ls) (ht:total ls<Ay):Pure Tryz.prog 377 [.l (JY ls) f] (.t [.l (iL (DS ls).1) false,.b (DS ls).2]):=by
 have hM:=Mx;refine rI kZ ?_;have hs:=Sn
 conv=>whnf
 repeat'((first|apply st|(apply sq;intro K U)|(apply si;intro A B Y Z)|(apply Y;clear Z B Y A)|(apply U;clear U K)|fail)<;>conv=>whnf)
 refine Gf (fun(x:List (List Int)×Bool×V×List Int)=>total x.1) (fun x=>[(0,.l (JY x.1) x.2.1),(4,x.2.2.1)]) (fun x=>[.own x.2.2.1 1 (iL x.2.2.2)])
  (fun x=>Wj x.1/\x.2.2.2.length+total x.1<=total ls/\DM (total x.1) x.1 x.2.2.2=DS ls) (ls,f,.l [] true,[]) rfl ⟨hok,by simp,rfl⟩ (OF hs 1) ?_
 clear hs;rintro⟨ls',f',v,out⟩ σ ⟨hok',hlen,hm⟩ hs;dsimp only at hok' hlen hm hs;dsimp only;have hol:=hok'.1
 conv=>whnf
 repeat'((first|apply st|(apply sq;intro K U)|(apply si;intro A B Y Z)|(apply Y;clear Z B Y A)|(apply U;clear U K)|fail)<;>conv=>whnf)
 refine D3 ls'.length (fun k (t:Bool)=>[(5,.b t),(16,eI (Bq k))]) (fun _ _=>[.own v 1 (iL out)]) (fun k t=>(ls'.take k).find? (UT ls')=none/\t=(ls'.take k).any fun l=> !l.isEmpty) false rfl ⟨rfl,rfl⟩ hs ?_;clear hs;rintro k t σ hk ⟨hfd,hta⟩ hs;rcases BM ls' hk with⟨l,hl,hlt⟩|hke
 .have hfs:=bj (p:=UT ls') hl hfd
  have has:((ls'.take (k+1)).any fun l=> !l.isEmpty)=(t|| !l.isEmpty):=by rw[Ar hl,List.any_append,<-hta];simp
  have hb:=hok'.2 _ (Dm hl);cases l with
  | nil=>
    have hnl:([]:List Int).length=0:=rfl;rw[bX,if_neg (by decide)]at hfs
    conv=>whnf
    repeat'((first|apply st|(apply sq;intro K U)|(apply si;intro A B Y Z)|(apply Y;clear Z B Y A)|(apply U;clear U K)|refine⟨rfl,?_⟩|refine ix ?_|(refine DV (fun hc=>?_)<;>(try rw[hc])<;>clear hc)|(constructor<;>intro hc<;>(try rw[hc])<;>(replace hc:=bp hc)<;>(try simp(disch:=omega) only[Bu,wrap64,AV]at hc)<;>try(exfalso;omega))|clear U K)<;>conv=>whnf)
    exact⟨hlt,_,rfl,⟨hfs,by rw[has];simp⟩,hs⟩
  | cons x r=>
    have hx0:(x::r)[Int.toNat 0]? =some x:=rfl;have hnl:(x::r).length=r.length+1:=rfl;rw[Xx]at hfs;simp only[List.isEmpty_cons,Bool.not_false,Bool.or_true]at has
    conv=>whnf
    repeat'((first|apply st|(apply sq;intro K U)|(apply si;intro A B Y Z)|(apply Y;clear Z B Y A)|(apply U;clear U K)|refine⟨rfl,?_⟩|refine ix ?_|(refine DV (fun hc=>?_)<;>(try rw[hc])<;>clear hc)|(constructor<;>intro hc<;>(try rw[hc])<;>(replace hc:=bp hc)<;>(try simp(disch:=omega) only[Bu,wrap64,AV]at hc)<;>try(exfalso;omega))|fail)<;>conv=>whnf)
    refine D3 ls'.length (fun j (_:Unit)=>[(25,eI (Bq j))]) (fun _ _=>[.own v 1 (iL out)]) (fun j _=>free ls' x=(ls'.drop j).all fun m=> !(m.drop 1).contains x) () rfl rfl hs ?_;clear hs;rintro j - σ hj hfr hs;rcases BM ls' hj with⟨m,hm0,hjlt⟩|hje
    .have hmb:=(hok'.2 _ (Dm hm0)).1
     rw[drop_cons hm0,WX]at hfr;cases m with
     | nil=>
       have hml:([]:List Int).length=0:=rfl
       conv=>whnf
       repeat'((first|apply st|(apply sq;intro K U)|(apply si;intro A B Y Z)|(apply Y;clear Z B Y A)|(apply U;clear U K)|apply dr|refine⟨rfl,?_⟩|refine ix ?_|(refine DV (fun hc=>?_)<;>(try rw[hc])<;>clear hc)|(constructor<;>intro hc<;>(try rw[hc])<;>(replace hc:=bp hc)<;>(try simp(disch:=omega) only[Bu,wrap64,AV]at hc)<;>try(exfalso;omega))|clear U K)<;>conv=>whnf)
       exact⟨hjlt,(),rfl,by rw[hfr];rfl,hs⟩
     | cons y s=>
       have hml:(y::s).length=s.length+1:=rfl
       conv=>whnf
       repeat'((first|apply st|(apply sq;intro K U)|(apply si;intro A B Y Z)|(apply Y;clear Z B Y A)|(apply U;clear U K)|apply dr|refine⟨rfl,?_⟩|refine ix ?_|(refine DV (fun hc=>?_)<;>(try rw[hc])<;>clear hc)|(constructor<;>intro hc<;>(try rw[hc])<;>(replace hc:=bp hc)<;>(try simp(disch:=omega) only[Bu,wrap64,AV]at hc)<;>try(exfalso;omega))|fail)<;>conv=>whnf)
       refine gX 1 rfl (by omega) (fun _=>rfl) ?_
       conv=>whnf
       repeat'((first|apply st|(apply si;intro A B Y Z)|(apply Y;clear Z B Y A)|(apply U;clear U K)|apply dr|refine⟨rfl,?_⟩|refine Kf ?_|refine Pure.use (Ck _ _ _) ?_|(constructor<;>intro hc<;>(try rw[hc])<;>(replace hc:=bp hc))|clear U K)<;>conv=>whnf)
       .rw[hc]at hfr
        have hfr2:free ls' x=false:=by rw[hfr];rfl
        rw[hfr2,if_neg (by decide)]at hfs;exact⟨hlt,true,rfl,⟨hfs,by rw[has]⟩,hs⟩
       .exact⟨hjlt,(),rfl,by rw[hfr,hc];rfl,hs⟩
    .rw[BX hje]at hfr
     have hgood:free ls' x=true:=hfr;rw[hgood,if_pos rfl]at hfs;have hp:pick ls'=some x:=by rw[Yv,bg hfs];rfl
     have htp:=KD hp
     conv=>whnf
     repeat'((first|apply st|(apply sq;intro K U)|(apply si;intro A B Y Z)|(apply Y;clear Z B Y A)|(apply U;clear U K)|refine⟨rfl,?_⟩|refine Kf ?_|refine ld ?_|refine s1 fun σ hs=>?_|refine aq fun v σ hs hsl=>?_|(refine EZ (fun hc=>?_)<;>(try rw[hc])<;>clear hc)|(intro nn hnn;generalize hg:A6 _ nn _=σ;refine al hg fun hs=>?_;clear hg)|clear U K)<;>conv=>whnf)
     have hs2:Sat σ [.own v 1 (iL (out++[x])),.box nn [eI x]]:=hs;refine D3 ls'.length (fun k u=>[(11,u),(50,eI (Bq k))]) (fun k u=>[.own v 1 (iL (out++[x])),.box nn [eI x],.own u 1 (JY ((ls'.take k).map fun l=>l.filter (· != x)))]) (fun _ _=>True) (.l [] true) rfl trivial (OF hs2 1) ?_;clear hs hs2;rintro q u σ hq - hs;rcases BM ls' hq with⟨w,hw,hqlt⟩|hqe
     .conv=>whnf
      repeat'((first|apply st|(apply sq;intro K U)|(apply si;intro A B Y Z)|(apply Y;clear Z B Y A)|(apply U;clear U K)|refine⟨rfl,?_⟩|refine ix ?_|(refine DV (fun hc=>?_)<;>(try rw[hc])<;>clear hc)|fail)<;>conv=>whnf)
      refine(lf 381 [] [.p nn 0] [.box nn [eI x]] (· != x) (vU nn x) w false).use (rest:=[_,_]) (hs.perm (.swap _ _ _)) ?_;clear hs;rintro rr post σ ⟨rfl,rfl⟩ hs
      conv=>whnf
      repeat'((first|(apply si;intro A B Y Z)|(apply Y;clear Z B Y A)|(apply U;clear U K)|refine⟨rfl,?_⟩|refine aq fun v σ hs hsl=>?_|clear U K)<;>conv=>whnf)
      refine⟨hqlt,_,rfl,trivial,?_⟩;rw[Ar hw,YF];exact hs.perm (.swap _ _ _)
     .conv=>whnf
      repeat'((first|apply st|(apply sq;intro K U)|(apply si;intro A B Y Z)|(apply Y;clear Z B Y A)|(apply U;clear U K)|refine⟨rfl,?_⟩|(refine EZ (fun hc=>?_)<;>(try rw[hc])<;>clear hc)|clear U K)<;>conv=>whnf)
      rw[CJ hqe]at hs;refine xW hs 2 rfl fun σ' hs'=>?_
      conv=>whnf
      repeat'((first|apply st|(apply Y;clear Z B Y A)|(apply U;clear U K)|clear U K)<;>conv=>whnf)
      refine⟨(ls'.map fun l=>l.filter (· != x),false,v,out++[x]),htp,rfl,⟨hok'.filter x,by simp;omega,?_⟩,hs'.take 1⟩;rw[<-V6 hp];exact hm
 .rw[CJ hke]at hfd hta
  have hp:pick ls'=none:=by rw[Yv,hfd];rfl
  rw[Xl hp]at hm
  conv=>whnf
  repeat'((first|apply st|(apply sq;intro K U)|(apply si;intro A B Y Z)|(apply Y;clear Z B Y A)|(apply U;clear U K)|refine⟨rfl,?_⟩|(refine EZ (fun hc=>?_)<;>(try rw[hc])<;>clear hc)|clear U K)<;>conv=>whnf)
  refine B3 ?_;rw[<-hm];refine .t (.cons (hs.IJ 0 rfl) (.cons ?_ .nil));have:(!t)=ls'.all List.isEmpty:=by rw[hta];simp[List.all_eq_not_any_not]
  rw[<-this];exact .refl _
end Go.Gl
namespace Go.Gl
variable {P:Program} {σ:AH}
def Sat.ue {l:List At} {a:At} (h:Sat σ (l++[a])):Sat σ (a::l):=h.perm (by
 have:=Np (l₁:=l) (l₂:=[a])
 simpa using this)
def DQ {l:List At} (h:Sat σ l) (sz:Nat):Sat σ (.own (.l [] true) sz []::l):=(OF h sz).ue
def dg {l:List At} (h:Sat σ l) {sz:Nat} {es:List (List V)} (hs: ∀e∈es,e.length=sz):Sat σ (.own (.l es true) sz es::l):=(xV h hs).ue
def Ci {l:List At} {o:O} {n:Nat} {K:Prop} {σ':AH} (e:A6 σ n o=σ') (hk:Sat σ' (.obj n o::l)->K) (hn:σ n=none:=by assumption) (h:Sat σ l:=by assumption):K:=hk (e ▸ (pG h hn).ue)
def KJ {α:Type}: ∀ {l:List α} {j:Nat} {a:α},l[j]? =some a->l.Perm (a::l.eraseIdx j)
 | x::r,0,a,h=>by simp at h;subst h;simp
 | x::r,j+1,a,h=>by
   simp only[uO]at h;simp only[List.eraseIdx_cons_succ];exact((KJ h).cons x).trans (.swap _ _ _)
def Sat.front {l:List At} {j:Nat} {a:At} (h:Sat σ l) (hj:l[j]? =some a):Sat σ (a::l.eraseIdx j):=h.perm (KJ hj)
def Sat.back {l:List At} {j:Nat} {a:At} (h:Sat σ (a::l.eraseIdx j)) (hj:l[j]? =some a):Sat σ l:=h.perm (KJ hj).symm
def BK.nU {f:FuncId} {args:List V} {a:At} {Φ:R->Prop} (h:BK P f args [a] fun r post=>Φ r/\post= [a]) {l:List At} {j:Nat} (hs:Sat σ l) (hj:l[j]? =some a) {Q:R->AH->Prop} (hk: ∀r σ',Φ r->Sat σ' l->Q r σ'):As P f args σ Q:=by
 refine h.use (rest:=l.eraseIdx j) (hs.front hj) ?_;rintro r post σ' ⟨hr,rfl⟩ hs';exact hk r σ' hr (Sat.back hs' hj)
def EK {l:List At} {i n off:Nat} {vs:List V} {x:V} {K:AH->Prop} (hk: ∀σ',Sat σ' (l.set i (.box n (vs.set off x)))->K σ') (h:Sat σ l:=by assumption)
    (hi:l[i]? =some (.box n vs):=by first|exact Tt|exact Ts|exact Tq|exact Tp|exact To|exact Tn)
    (h1:CA x=true:=by first|rfl|exact IS (by assumption) 0 rfl|exact IS (by assumption) 1 rfl|exact IS (by assumption) 2 rfl|exact IS (by assumption) 3 rfl|(simp<;>fail)) (ho:off+1<=vs.length:=by exact Nat.le_of_ble_eq_true rfl):AR σ 1 (.p n off) x K:=
 N3 h i hi h1 ho hk
def Di {l:List At} {i n off sz:Nat} {vs vc:List V} {x:V} {K:AH->Prop} (hk: ∀σ',Sat σ' (l.set i (.box n (putAt vs off vc)))->K σ') (h:Sat σ l:=by assumption)
    (hi:l[i]? =some (.box n vs):=by first|exact Tt|exact Ts|exact Tq|exact Tp|exact To|exact Tn)
    (hc:cellsOf x=some vc:=by rfl) (hl:vc.length=sz:=by rfl) (h1:vc.all CA=true:=by first|rfl|(simp<;>fail)|(simp[*]<;>fail)) (ho:off+sz<=vs.length:=by exact Nat.le_of_ble_eq_true rfl):AR σ sz (.p n off) x K:=
 MH h i hi hc hl h1 ho hk
def WY {sz m n o:Nat} {ki:IntKind} {j:Int} {K:V->Prop} (h:K (.p n (o+j.toNat*sz))) (h0:0<=j:=by omega) (h1:j<m:=by omega):AQ sz (some m) (.p n o) (.i ki j) K:=⟨h0,h1,h⟩
def iar {sz m:Nat} {cs:List V} {ki:IntKind} {j:Int} {K:V->Prop} (h:K (.rp (cs.drop (j.toNat*sz)))) (h0:0<=j:=by omega) (h1:j<m:=by omega):AQ sz (some m) (.rp cs) (.i ki j) K:=⟨h0,h1,h⟩
def qc {l:List At} (h:Sat σ l) (i:Nat) {v:V} {sz:Nat} {es es':List (List V)} (hi:l[i]? =some (.own v sz es)) (he: ∀σ2,FF σ σ2 es es'): ∃σ2,Sub σ2 σ/\Ff σ σ2 v (.l es' false)/\Sat σ2 (l.eraseIdx i):=by
 rcases h.get hi with⟨rfl,_⟩|⟨n,cap,rfl,hn⟩
 .exact⟨σ,fun _ _ h=>h,.l (fun h=>(by cases h)) (he _),h.less (List.eraseIdx_sublist _ _)⟩
 .refine⟨del σ n,Fi σ n,.arr hn (DF σ n) rfl (he _),?_⟩
  refine⟨fun b hb=>?_,h.2.sublist (List.eraseIdx_sublist _ _)⟩;refine FH (h.1 b (List.mem_of_mem_eraseIdx hb)) fun m hm=>?_
  rw[Gp];intro e;subst e;exact En h.2 hi b hb m rfl hm
def uz {l:List At} (h:Sat σ l) {sz:Nat} {z:List V} {n m:Nat} {K:V->AH->Prop} (hnm:n<=m) (hn:m<=1073741824) (hk: ∀v σ',Sat σ' (.own v sz (List.replicate n z)::l)->(∃id,v= .sl id n m)->K v σ') {ki kj:IntKind} :
    AL σ sz z (.i ki (n:Int)) (.i kj (m:Int)) K:=by
 refine⟨by omega,by omega,by omega,fun id hid=>?_⟩;simp only[Hd];refine hk _ _ (h.add (a:= .own (.sl id n m) sz (List.replicate n z)) (fun b hb=>FH hb fun m hm=>?_) (fun b hb m hm hb'=>?_) (.inr ⟨id,m,by simp,by simp[A6]⟩)).ue ⟨id,rfl⟩
 .obtain⟨o,ho⟩:=DE hb hm
  rw[Ca];intro e;subst e;rw[hid]at ho;cases ho
 .cases hm
  obtain⟨o,ho⟩:=DE hb hb';rw[hid]at ho;cases ho
def oG {σ:AH} {l:List At} {i:Nat} {v:V} {sz:Nat} {es:List (List V)} (hs:Sat σ l) (hi:l[i]? =some (.own v sz es)) (he: ∀e∈es,e.length=sz) (hm:es.length<=Ay) {K:V->AH->Prop} (hk: ∀σ',Sat σ' (l.eraseIdx i)->K (.l es true) σ'):AP σ sz v none (some (.i .i64 (es.length:Int))) (some (.i .i64 (es.length:Int))) K:=by
 rcases hs.get hi with⟨rfl,_⟩|⟨n,cap,rfl,hn⟩
 .refine⟨he,?_⟩
  simp only[Nr];refine⟨Int.le_refl _,Int.natCast_nonneg _,Int.le_refl _,trivial,?_⟩;have:=hk σ (hs.less (List.eraseIdx_sublist _ _));simpa using this
 .unfold AP
  simp only[Nr];refine⟨Int.le_refl _,Int.natCast_nonneg _,Int.le_refl _,trivial,trivial,trivial,?_⟩;rw[hn];refine⟨rfl,rfl,rfl,.inl (hk _ ?_)⟩;refine⟨fun b hb=>?_,hs.2.sublist (List.eraseIdx_sublist _ _)⟩;refine FH (hs.1 b (List.mem_of_mem_eraseIdx hb)) fun m hm=>?_
  rw[Gp];intro e;subst e;exact En hs.2 hi b hb m rfl hm
end Go.Gl
namespace Go.Gl
open Go.Proofs
attribute [local irreducible] As Am Ac AQ AM Ab AP AR AL Aa AN AO Ao Ax Sat AW Au Ad W
abbrev Ord:=Int×V×List Int
def jY (e:Ord):V×V:=(eI e.1,e.2.1)
def cb (e:Ord):At:= .own e.2.1 1 (iL e.2.2)
abbrev pL (ps:List (List Int×Bool)):List (List V):=ps.map fun p=>[.l (iL p.1) p.2]
abbrev gH (n mm:Nat) (vp vu:V) (ps:List (List Int×Bool)) (us:List Nat) (M:List Ord):List At:=
 .box n [vp,vu,.m mm]:: .own vp 1 (pL ps):: .own vu 1 (us.map fun u=>[eU u]):: .map mm (M.map jY)::M.map cb
def B4 (M:List Ord) (c:Int):List Int:=((M.find? fun e=>c==e.1).map fun e=>e.2.2).getD []
def IQ (M:List Ord) (c:Int):V:=((M.find? fun e=>c==e.1).map fun e=>e.2.1).getD (.l [] true)
def iE (M:List Ord) (c:Int):found (.l [] true) false (CU (eI c) (M.map jY))=IQ M c:=by
 induction M with
 | nil=>rfl
 | cons e r ih=>
   simp only[E4,jY,CU,IQ,List.find?_cons]at *;have he:DZ (eI c) (eI e.1)=(c==e.1):=rfl;rw[he];cases c==e.1
   .exact ih
   .rfl
def W8 (M:List Ord): ∀kv∈M.map jY,BI (.i .i64) kv.1=true:=by
 intro kv h;obtain⟨e,_,rfl⟩:=Iz.1 h;rfl
def lR {M:List Ord} {c:Int} (v:V) (l:List Int) (h: ∀e∈M,e.1≠c):DA (eI c) v (M.map jY)=(M++[(c,v,l)]).map jY:=by
 induction M with
 | nil=>rfl
 | cons e r ih=>
   simp only[E4,List.cons_append,jY,DA];have he:DZ (eI c) (eI e.1)=(c==e.1):=rfl;rw[he,beq_false_of_ne (fun e'=>h e (.head _) e'.symm)];simp only[cond_false];rw[ih fun e he=>h e (.tail _ he)]
def Ot (M:List Ord) (c:Int):(B4 M c= []/\IQ M c= .l [] true)\/ ∃j:Nat,(M.map cb)[j]? =some (At.own (IQ M c) 1 (iL (B4 M c))):=by
 unfold B4 IQ;cases h:M.find? fun e=>c==e.1 with
 | none=>exact .inl ⟨rfl,rfl⟩
 | some e=>
   refine .inr ?_;obtain⟨j,hj⟩:=List.getElem?_of_mem (List.mem_of_find?_eq_some h);refine⟨j,?_⟩;rw[P8,hj];rfl
def Ou {M:List Ord} {c:Int} {σ:AH} {fx:List At} (hs:Sat σ (fx++M.map cb)) (hl:(B4 M c).length<=Ay) {K:V->Prop} (hk:K (.i .i64 (B4 M c).length)):Au (IQ M c) K:=by
 rcases Ot M c with⟨h1,h2⟩|⟨j,hj⟩
 .rw[h2]
  rw[h1]at hk;exact nq hk
 .have hj':(fx++M.map cb)[fx.length+j]? =some (At.own (IQ M c) 1 (iL (B4 M c))):=by
   rw[List.getElem?_append_right (by omega),Nat.add_sub_cancel_left,hj]
  exact u6 hs _ hj' (by simpa using hl) (by simpa using hk)
def xA {σ:AH} {l:List At} {i mm:Nat} {M:List Ord} {c:Int} {K:V->Prop} (hk:K (IQ M c)) (h:Sat σ l:=by assumption)
    (hi:l[i]? =some (.map mm (M.map jY)):=by first|exact Tt|exact Ts|exact Tq|exact Tp|exact To|exact Tn):AN σ (.i .i64) (.l [] true) false (.m mm) (eI c) K:=
 I6 h i hi rfl (W8 M) (by rw[iE];exact hk)
def wQ {M:List Ord} {c:Int} {σ:AH} {fx:List At} (hs:Sat σ (fx++M.map cb)) (hl:(B4 M c).length<=Ay) (hne:B4 M c≠[]) {k kp:V->AH->Prop} (hk: ∀σ',Sat σ' (fx++M.map cb)->k (.l (iL ((B4 M c).filter (· != 0))) false) σ'):As Tryz.prog 379 [IQ M c] σ (qk k kp):=by
 rcases Ot M c with⟨h1,h2⟩|⟨j,hj⟩
 .exact absurd h1 hne
 .have hj':(fx++M.map cb)[fx.length+j]? =some (At.own (IQ M c) 1 (iL (B4 M c))):=by
   rw[List.getElem?_append_right (by omega),Nat.add_sub_cancel_left,hj]
  refine(jA (B4 M c) (IQ M c) hl).nU hs hj' ?_;rintro r σ' rfl hs';exact hk σ' hs'
def Vs {σ σ2:AH}: ∀ {a a' b b':List (List V)},FF σ σ2 a a'->FF σ σ2 b b'->FF σ σ2 (a++b) (a'++b')
 | [],[],_,_,.nil,h=>h
 | _::_,_::_,_,_,.cons h1 h2,h=> .cons h1 (Vs h2 h)
def iD (n mm:Nat) (vp vu:V) (ps:List (List Int×Bool)) (us:List Nat) (M:List Ord) (c:Int) (l:List Int) (b:Bool) (hc0:0<=c) (hl:ps[c.toNat]? =some (l,b)) (hll:l.length<=3) (hol: ∀c,(B4 M c).length<=Ay) :
    BK Tryz.prog 376 [.p n 0,eI c] (gH n mm vp vu ps us M) fun r post=>r= .ret (if l.any fun p=>(B4 M p).isEmpty then .t [.l [] true,.b false]else .t [.l (JY (l.map (fun p=>(B4 M p).filter (· != 0))++[l])) false,.b true])/\post=gH n mm vp vu ps us M:=by
 intro σ hs;have hM:=Mx;have hci:c<ps.length:=by have:=(JX.1 hl).1;omega
 refine rJ kZ ?_
 conv=>whnf
 repeat'((first|apply st|(apply sq;intro K U)|(apply si;intro A B Y Z)|(apply Y;clear Z B Y A)|(apply U;clear U K)|refine ld ?_|refine oi ?_|refine uS ?_|fail)<;>conv=>whnf)
 refine D3 l.length (fun k v=>[(6,v),(17,eI (Bq k))]) (fun k v=> .own v 1 (JY ((l.take k).map fun p=>(B4 M p).filter (· != 0)))::gH n mm vp vu ps us M) (fun k _=>((l.take k).any fun p=>(B4 M p).isEmpty)=false) (.l [] true) rfl rfl (DQ hs 1) ?_;clear hs;rintro k v σ hk hne hs;rcases BM l hk with⟨p,hp,hlt⟩|hke
 .have han:((l.take (k+1)).any fun p=>(B4 M p).isEmpty)=(B4 M p).isEmpty:=by rw[Ar hp,List.any_append,hne];simp
  have hap:(l.take k).length<=3:=by rw[NT];omega
  conv=>whnf
  repeat'((first|apply st|(apply sq;intro K U)|(apply si;intro A B Y Z)|(apply Y;clear Z B Y A)|(apply U;clear U K)|refine⟨rfl,?_⟩|refine ix ?_|refine ld ?_|(refine DV (fun hc=>?_)<;>(try rw[hc])<;>clear hc)|refine xA ?_|refine Ou (fx:=_::_::_::_::_:: []) hs (hol _) ?_|(constructor<;>intro hc<;>(try rw[hc])<;>(replace hc:=bp hc))|clear U K)<;>conv=>whnf)
  .have h0:(B4 M p).isEmpty=true:=by rw[List.isEmpty_iff_length_eq_zero];omega
   have hany:(l.any fun p=>(B4 M p).isEmpty)=true:=He.2 ⟨p,Dm hp,h0⟩;refine A4 (l':=gH n mm vp vu ps us M) hs (Mz _ _) (.refl _) fun σ' hs'=>⟨_,⟨?_,rfl⟩,hs'⟩
   rw[if_pos hany]
  .have h0:(B4 M p).isEmpty=false:=by
    cases h:(B4 M p).isEmpty
    .rfl
    .rw[List.isEmpty_iff_length_eq_zero]at h;omega
   refine wQ (fx:=_::_::_::_::_:: []) hs (hol _) (fun e=>by rw[e]at h0;cases h0) fun σ hs=>?_
   conv=>whnf
   repeat'((first|(apply si;intro A B Y Z)|(apply Y;clear Z B Y A)|(apply U;clear U K)|refine⟨rfl,?_⟩|refine aq fun v σ hs hsl=>?_|clear U K)<;>conv=>whnf)
   refine⟨hlt,_,rfl,by rw[han];exact h0,?_⟩;rw[Ar hp,YF];exact hs
 .rw[CJ hke]at hne hs
  conv=>whnf
  repeat'((first|apply st|(apply sq;intro K U)|(apply si;intro A B Y Z)|(apply Y;clear Z B Y A)|(apply U;clear U K)|refine⟨rfl,?_⟩|refine ld ?_|refine oi ?_|refine uS ?_|(refine EZ (fun hc=>?_)<;>(try rw[hc])<;>clear hc)|clear U K)<;>conv=>whnf)
  refine hAppend hs 0 rfl (by simp;omega) (fun e he=>by simp at he;subst he;rfl) (fun e he v hv=>by simp at he;subst he;simp at hv;subst hv;rfl) fun v σ hs=>?_
  conv=>whnf
  repeat'((first|apply st|(apply Y;clear Z B Y A)|(apply U;clear U K)|fail)<;>conv=>whnf)
  obtain⟨σ2,h1,h2,h3⟩:=qc (es':=JY (l.map (fun p=>(B4 M p).filter (· != 0))++[l])) hs 0 rfl fun σ2=>by
   have e:JY (l.map (fun p=>(B4 M p).filter (· != 0))++[l])=JY (l.map fun p=>(B4 M p).filter (· != 0))++[[.l (iL l) false]]:=by simp only[JY,YF,E4,List.map_nil]
   rw[e];exact Vs (JW _) (.cons (.cons dh .nil) .nil)
  refine JC h1 (.t (.cons h2 (.cons (.refl _) .nil))) ⟨_,⟨?_,rfl⟩,h3⟩;rw[hne,if_neg (by decide)]
def Sat.xS {σ:AH} {l:List At} {a:At} (h:Sat σ (a::l)):Sat σ (l++[a]):=h.perm (by
 have:=Np (l₁:=[a]) (l₂:=l)
 simpa using this)
def Cx (M:List Ord) (l:List Int):List (List Int):=l.map (fun p=>(B4 M p).filter (· != 0))++[l]
def Gc (M:List Ord) (l:List Int) (c:Int):List Int:=
 if c=0 then [0]else if l.any (fun p=>(B4 M p).isEmpty)then []else if(DS (Cx M l)).2 then [c]++(DS (Cx M l)).1++[0]else []
def ZE (n mm:Nat) (vp vu:V) (ps:List (List Int×Bool)) (us:List Nat) (M:List Ord) {c:Int} {v:V} {l:List Int} (hk: ∀e∈M,e.1≠c) {σ:AH}
    (hs:Sat σ (.own v 1 (iL l):: .box n [vp,vu,.m mm]:: .own vp 1 (pL ps):: .own vu 1 (us.map fun u=>[eU u]):: .map mm (DA (eI c) v (M.map jY))::M.map cb)):Sat σ (gH n mm vp vu ps us (M++[(c,v,l)])):=by
 rw[lR v l hk]at hs;have:=hs.xS;unfold gH;rw[YF (f:=cb)];exact this
def gm (n mm:Nat) (vp vu:V) (ps:List (List Int×Bool)) (us:List Nat) (M:List Ord) (c:Int) (l:List Int) (b:Bool) (hc0:0<=c) (hl:ps[c.toNat]? =some (l,b)) (hll:l.length<=3) (hol: ∀c,(B4 M c).length<=Ay) (hk: ∀e∈M,e.1≠c)
    (hok:Wj (Cx M l)) (ht:total (Cx M l)<1000000000) :
    BK Tryz.prog 368 [.p n 0,eI c] (gH n mm vp vu ps us M) fun r post=>r= .ret (.t [])/\ ∃M',post=gH n mm vp vu ps us M'/\((M'=M/\Gc M l c= [])\/ ∃v,M'=M++[(c,v,Gc M l c)]/\Gc M l c≠[]):=by
 intro σ hs;have hM:=Mx;refine rK kZ ?_;by_cases hc:c=0
 .subst hc
  conv=>whnf
  repeat'((first|apply st|(apply sq;intro K U)|(apply si;intro A B Y Z)|(apply Y;clear Z B Y A)|(apply U;clear U K)|refine⟨rfl,?_⟩|refine ld ?_|(constructor<;>intro hc<;>(try rw[hc])<;>(replace hc:=bp hc)<;>(try simp(disch:=omega) only[Bu,wrap64,AV]at hc)<;>try(exfalso;omega))|fail)<;>conv=>whnf)
  refine Hp hs 3 rfl rfl (W8 M) fun σ hs=>?_
  conv=>whnf
  repeat'((first|apply st|(apply Y;clear Z B Y A)|(apply U;clear U K)|clear U K)<;>conv=>whnf)
  refine A4 (l':=gH n mm vp vu ps us (M++[(0,.l [[eI 0]] true,[0])])) ?_ (List.Sublist.refl _) (.refl _) fun σ' hs'=>⟨_,⟨rfl,_,rfl,.inr ⟨.l [[eI 0]] true,?_,?_⟩⟩,hs'⟩
  .refine ZE n mm vp vu ps us M hk ?_
   exact dg hs (fun e he=>by simp at he;subst he;rfl)
  .rw[Gc,if_pos rfl]
  .rw[Gc,if_pos rfl];exact fun e=>by cases e
 .have hoc:Gc M l c=if l.any (fun p=>(B4 M p).isEmpty)then []else if(DS (Cx M l)).2 then [c]++(DS (Cx M l)).1++[0]else []:=by rw[Gc,if_neg hc]
  have hli:=iD n mm vp vu ps us M c l b hc0 hl hll hol;have hmg:=iA (Cx M l) false hok (by omega);have hml:=KN (total (Cx M l)) (Cx M l) [];have hml2:(DS (Cx M l)).1.length<=total (Cx M l):=by simpa[DS]using hml
  cases hany:l.any fun p=>(B4 M p).isEmpty
  .rw[hany,if_neg (by decide)]at hoc
   simp only[hany,Kc,if_false]at hli;have hdn: ∀ {σ:AH} {M':List Ord},Sat σ (gH n mm vp vu ps us M')->((M'=M/\Gc M l c= [])\/ ∃v,M'=M++[(c,v,Gc M l c)]/\Gc M l c≠[])->Am σ (.t []) fun r σ'=> ∃post,(r= .ret (.t [])/\ ∃M',post=gH n mm vp vu ps us M'/\((M'=M/\Gc M l c= [])\/ ∃v,M'=M++[(c,v,Gc M l c)]/\Gc M l c≠[]))/\Sat σ' post:=fun hs h=>A4 hs (List.Sublist.refl _) (.refl _) fun σ' hs'=>⟨_,⟨rfl,_,rfl,h⟩,hs'⟩
   conv=>whnf
   repeat'((first|apply st|(apply sq;intro K U)|(apply si;intro A B Y Z)|(apply Y;clear Z B Y A)|(apply U;clear U K)|refine⟨rfl,?_⟩|(constructor<;>intro hc<;>(try rw[hc])<;>(replace hc:=bp hc)<;>try(exfalso;omega))|fail)<;>conv=>whnf)
   refine hli.use (rest:=[]) (by simpa using hs) ?_;clear hs;rintro r post σ ⟨rfl,rfl⟩ hs;rw[Ep]at hs;have hml3:(Cx M l)=l.map (fun p=>(B4 M p).filter (· != 0))++[l]:=rfl;rw[<-hml3];generalize Cx M l=ll at *;cases hb:(DS ll).2<;>rw[hb]at hmg hoc
   .conv=>whnf
    repeat'((first|apply st|(apply sq;intro K U)|(apply si;intro A B Y Z)|(apply Y;clear Z B Y A)|(apply U;clear U K)|refine Es ?_|refine Pure.use (by assumption) ?_|fail)<;>conv=>whnf)
    exact hdn hs (.inl ⟨rfl,by rw[hoc];rfl⟩)
   .rw[if_pos rfl]at hoc
    conv=>whnf
    repeat'((first|apply st|(apply sq;intro K U)|(apply si;intro A B Y Z)|(apply Y;clear Z B Y A)|(apply U;clear U K)|apply dr|refine ld ?_|refine Es ?_|refine Pure.use (by assumption) ?_|fail)<;>conv=>whnf)
    replace hs:=dg hs (sz:=1) (es:=[[eI c]]) (fun e he=>by simp at he;subst he;rfl);refine OV hs 0 (xs:=[c]) (ys:=(DS ll).1) rfl (by simp;omega) Eg fun v σ hs=>?_
    conv=>whnf
    repeat'((first|apply dr|refine rk ?_ ?_|exact fun s e=>by cases e;rfl|refine ld ?_|refine aq fun v σ hs hsl=>?_|fail)<;>conv=>whnf)
    refine Hp hs 4 rfl rfl (W8 M) fun σ hs=>?_
    conv=>whnf
    repeat'((first|(apply Y;clear Z B Y A)|apply dr|fail)<;>conv=>whnf)
    refine hdn (ZE n mm vp vu ps us M hk (l:=Gc M l c) ?_) (.inr ⟨v,rfl,by rw[hoc];simp⟩);rw[hoc];exact hs
  .rw[hany,if_pos rfl]at hoc
   simp only[hany,if_true]at hli
   conv=>whnf
   repeat'((first|apply st|(apply sq;intro K U)|(apply si;intro A B Y Z)|(apply Y;clear Z B Y A)|(apply U;clear U K)|refine⟨rfl,?_⟩|(constructor<;>intro hc<;>(try rw[hc])<;>(replace hc:=bp hc)<;>try(exfalso;omega))|fail)<;>conv=>whnf)
   refine hli.use (rest:=[]) (by simpa using hs) ?_;clear hs;rintro r post σ ⟨rfl,rfl⟩ hs;rw[Ep]at hs
   conv=>whnf
   repeat'((first|apply st|(apply sq;intro K U)|(apply si;intro A B Y Z)|(apply Y;clear Z B Y A)|(apply U;clear U K)|refine FX ?_|clear U K)<;>conv=>whnf)
   exact A4 hs (List.Sublist.refl _) (.refl _) fun σ' hs'=>⟨_,⟨rfl,_,rfl,.inl ⟨rfl,hoc⟩⟩,hs'⟩
end Go.Gl
namespace Go.Gl
def a7 {M:List Ord} {k:Int} {v:V} {o:List Int} (h: ∀e∈M,e.1<k) (d:Int):B4 (M++[(k,v,o)]) d=if d=k then o else B4 M d:=by
 unfold B4;rw[List.find?_append];split
 .rename_i e
  have:M.find? (fun e=>d==e.1)=none:=by
   rw[List.find?_eq_none];intro x hx;have:=h x hx;simp;omega
  rw[this];simp[e]
 .rename_i e
  cases hf:M.find? fun e=>d==e.1 with
  | some x=>simp
  | none=>simp[List.find?_cons,e]
structure IF (g:List (List Int)) (k:Nat) (M:List Ord):Prop where
 keys: ∀e∈M,0<=e.1/\e.1<(k:Int)
 dD: ∀d:Int,0<=d->d<k->B4 M d=(Dc g).getD d.toNat []
def U9 {g:List (List Int)} {k:Nat} {M:List Ord} (h:IF g k M) {d:Int} (hd:d<0\/(k:Int)<=d):B4 M d= []:=by
 unfold B4
 have:M.find? (fun e=>d==e.1)=none:=by
  rw[List.find?_eq_none];intro x hx;have:=h.keys x hx;simp;omega
 rw[this];rfl
def LP {g:List (List Int)} (hg:Kr g) {k:Nat} {M:List Ord} (h:IF g k M) (d:Int):(B4 M d).length<=71744535/\ ∀x∈B4 M d,(0:Int)<=x:=by
 by_cases hd:d<0\/(k:Int)<=d
 .rw[U9 h hd]
  exact⟨by simp,fun x hx=>by cases hx⟩
 .rw[h.dD d (by omega) (by omega)]
  have hb:=Ln hg (2+g.length);have hl:=mq (k:=2+g.length) (by have:=hg.1;omega);unfold Dc;exact⟨VO (fun o ho=>Nat.le_trans (hb o ho).1 hl) _,VN (fun o ho=>(hb o ho).2) _⟩
def bE {g:List (List Int)} (hg:Kr g) {k:Nat} {M:List Ord} (h:IF g k M) {l:List Int} (hl:l.length<=3) (h0: ∀x∈l,(0:Int)<=x):Wj (Cx M l)/\total (Cx M l)<1000000000:=by
 have hM:Ay=17592186044416:=rfl;have hf: ∀p,((B4 M p).filter (· != 0)).length<=71744535:=fun p=>Nat.le_trans (Wb _ _) (LP hg h p).1
 have ht: ∀l:List Int,total (l.map fun p=>(B4 M p).filter (· != 0))<=l.length*71744535:=by
  intro l
  induction l with
  | nil=>simp[total]
  | cons p r ih=>
    simp only[total,E4,List.sum_cons,Lz]at *;have:=hf p;rw[Nat.add_mul];omega
 refine⟨⟨by simp[Cx];omega,fun m hm=>?_⟩,?_⟩
 .rcases Dr.1 hm with hm|hm
  .obtain⟨p,_,rfl⟩:=Iz.1 hm
   refine⟨by have:=hf p;omega,fun x hx=>(LP hg h p).2 x (Jc.1 hx).1⟩
  .rw[My.1 hm]
   exact⟨by omega,h0⟩
 .have h1:=ht l
  have h2:total (Cx M l)=total (l.map fun p=>(B4 M p).filter (· != 0))+l.length:=by simp[Cx,total]
  have h3:=YG 71744535 hl;omega
def kz {g:List (List Int)} {k:Nat} {M:List Ord} (h:IF g (k+1) M) {l:List Int} (hl:l=BY g ((k:Int)+1)) (hp: ∀p∈l,(0:Int)<=p/\p<(k:Int)+1) (hk:k+1<3+g.length) :
    Gc M l ((k:Int)+1)=Hn g (CR g k) ((k:Int)+1):=by
 have ho: ∀p∈l,B4 M p=(CR g k).getD p.toNat []:=fun p hpl=>by
  obtain⟨h0,h1⟩:=hp p hpl;rw[h.dD p h0 (by omega)];unfold Dc;rw[Ds,Ds,Em (k:=2+g.length) (j:=p.toNat) (by omega),Em (k:=k) (j:=p.toNat) (by omega)]
 have e1:(l.any fun p=>(B4 M p).isEmpty)=(l.any fun p=>((CR g k).getD p.toNat []).isEmpty):=by
  rw[Hf,He,He];constructor
  .rintro⟨p,h1,h2⟩;exact⟨p,h1,by rw[<-ho p h1];exact h2⟩
  .rintro⟨p,h1,h2⟩;exact⟨p,h1,by rw[ho p h1];exact h2⟩
 have e2:Cx M l=l.map (fun p=>((CR g k).getD p.toNat []).filter (· != 0))++[l]:=by
  unfold Cx;congr 1;exact List.map_congr_left fun p hpl=>by rw[ho p hpl]
 unfold Gc Hn K2;rw[if_neg (by omega),e1,e2,<-hl];split<;>rfl
def IF.nil {g:List (List Int)}:IF g 0 []:=⟨fun e h=>(by cases h),fun d h0 h1=>by omega⟩
def IF.step {g:List (List Int)} {k:Nat} {M M':List Ord} (h:IF g k M) {l:List Int} (hl:l=BY g (k:Int)) (hp: ∀p∈l,(0:Int)<=p/\p<(k:Int)) (hk:k<3+g.length)
    (hM:(M'=M/\Gc M l k= [])\/ ∃v,M'=M++[((k:Int),v,Gc M l k)]/\Gc M l k≠[]):IF g (k+1) M':=by
 have hc:Gc M l k=(Dc g).getD k []:=by
  cases k with
  | zero=>
    unfold Gc Dc;rw[if_pos (by simp),Ds,Em (j:=0) (by omega)];rfl
  | succ k=>
    have:=kz h (by simpa using hl) (fun p hpl=>by have:=hp p hpl;simpa using this) hk;have e:((k+1:Nat):Int)=(k:Int)+1:=by omega
    rw[e,this];unfold Dc;rw[Ds,Em (k:=2+g.length) (j:=k+1) (by omega),CR,List.getElem?_append_right (by rw[Fm];omega),Fm,Nat.sub_self];rfl
 rcases hM with⟨rfl,he⟩|⟨v,rfl,_⟩
 .refine⟨fun e he=>by have:=h.keys e he;omega,fun d h0 h1=>?_⟩
  by_cases hd:d=k
  .subst hd
   rw[U9 h (by omega)];rw[Hd,<-hc,he]
  .exact h.dD d h0 (by omega)
 .refine⟨fun e he=>?_,fun d h0 h1=>?_⟩
  .rcases Dr.1 he with he|he
   .have:=h.keys e he;omega
   .rw[My.1 he]
    exact⟨by simp,by simp;omega⟩
  .rw[a7 (fun e he=>(h.keys e he).2)]
   split
   .rename_i hd
    rw[hd,Hd];exact hc
   .exact h.dD d h0 (by omega)
end Go.Gl
