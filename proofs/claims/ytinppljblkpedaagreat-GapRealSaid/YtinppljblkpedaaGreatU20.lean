import Derived.Test.YtinppljblkpedaaGreatU13
import Derived.Test.YtinppljblkpedaaGreatU14
import Derived.Test.YtinppljblkpedaaGreatU15
import Derived.Test.YtinppljblkpedaaGreatU18
import Derived.Test.YtinppljblkpedaaGreatU19
set_option linter.all false
set_option linter.defProp false
set_option maxHeartbeats 8000000
noncomputable section
namespace Go.Gl
open Go.Proofs
attribute [local irreducible] As Ag AY AQ AL AX AP AR AK AW AM AN Ai Ap Sat AT An AZ W
abbrev BB:=List Bool×List Bool
def OJ (x:Fact×Bool) (t:BB):Option BB:=
 if x.1.op≠2\/x.1.cls=1\/x.1.cls=2 then(if x.2 then some t else none)else
 if x.2 then some (t.1,t.2.set x.1.cls.toNat true)else some (t.1.set x.1.cls.toNat true,t.2)
def LN:List Fact->BB->Option BB
 | [],t=>some t
 | x::r,t=>(OJ (Ad x) t).bind (LN r)
def VW (w:AF) (ls:List Fact) (a:Int) (p:List Int) (can:Int->Bool) (s:Int) (t:BB):Option BB:=
 if !Eu ls a (p++[s])&& !can s then none else some (if Eu ls a (p++[s])then t.1 else t.1.set (BG w s).toNat true,if can s then t.2 else t.2.set (BG w s).toNat true)
def LM (w:AF) (ls:List Fact) (a:Int) (p:List Int) (can:Int->Bool):List Int->BB->Option BB
 | [],t=>some t
 | s::r,t=>(VW w ls a p can s t).bind (LM w ls a p can r)
def Kx (ps:List (List Int)) (c:Nat) (bs:List Bool):List Bool:=if bs.getD c false then(par ps c).foldl (fun b q=>b.set q.toNat true) bs else bs
def C0 (ps:List (List Int)) (n:Nat):Nat->List Bool->List Bool
 | 0,bs=>bs
 | k+1,bs=>Kx ps (n - 1 - k) (C0 ps n k bs)
def LS: ∀(l:List Int) (bs:List Bool),(l.foldl (fun b q=>b.set q.toNat true) bs).length=bs.length
 | [],_=>rfl
 | q::r,bs=>by rw[List.foldl_cons,LS r,List.length_set]
def Fs (ps:List (List Int)) (n:Nat): ∀(k:Nat) (bs:List Bool),(C0 ps n k bs).length=bs.length
 | 0,_=>rfl
 | k+1,bs=>by
   rw[C0,Kx];split
   .rw[LS,Fs ps n k bs]
   .exact Fs ps n k bs
def fm (w:AF) (t:BB):Option (List Bool):=
 if t.2.getD 0 false then none else
 if(List.range (3+w.parents.length)).any (fun c=>(C0 w.parents (3+w.parents.length) w.parents.length (t.1.set 0 false)).getD c false&&t.2.getD c false)then none else some (C0 w.parents (3+w.parents.length) w.parents.length (t.1.set 0 false))
def tO (w:AF):BB:=(List.replicate (3+w.parents.length) false,List.replicate (3+w.parents.length) false)
def VH (w:AF) (ls:List Fact) (a:Int) (p:List Int) (can:Int->Bool):Option (List Bool):=
 ((LN (ls.filter (Iq a p)) (tO w)).bind (LM w ls a p can (CN w.owner.length ls a p))).bind (fm w)
def IY {n:Nat} {ls:List Fact} {a:Int} {p:List Int} {s:Int} (h:s∈CN n ls a p):0<=s/\s<n:=by
 have:=(HD.1 h).1;simp only[Aw,GK,List.mem_range]at this;obtain⟨m,hm,rfl⟩:=this;exact⟨Int.natCast_nonneg m,by simpa using hm⟩
def AAv (w:AF) (ls:List Fact):Prop:= ∀l∈ls,(Ad l).1.op=2->0<=(Ad l).1.cls/\(Ad l).1.cls<3+w.parents.length
def To (w:AF) (ls:List Fact) (a:Int):Nat->List Int->Bool
 | 0,p=>((NY ls a p).isSome&&HV w.owner.length ls a p)||(Jr w.owner.length ls a p||(VH w ls a p fun _=>false).isSome)
 | d+1,p=>((NY ls a p).isSome&&HV w.owner.length ls a p)||(Jr w.owner.length ls a p||(VH w ls a p fun s=>To w ls a d (p++[s])).isSome)
def gu (ls:List Fact) (n:Nat):Prop:= ∀l∈ls,(Ad l).1.path.length<=n
def IW {n m:Nat} {ls:List Fact} {a:Int} {p:List Int} (h:gu ls m) (hp:m<=p.length):CN n ls a p= []:=by
 rw[CN,List.filter_eq_nil_iff];intro s _ hs;rw[GY]at hs;obtain⟨l,hl,hg⟩:=hs;have:=h l hl;simp only[qb,Bn,A4,B7,HQ,List.length_singleton]at hg;omega
def EN (w:AF) (ls:List Fact):Bool:=(Aw 3).all fun a=>To w ls a 2 []
def bD {b:Nat} {Z:AE} {l:List At} (h:Sat Z l) (i j:Nat) {v u:V} {sz:Nat} {es ys:List (List V)} {K:V->AE->Prop} (hi:l[i]? =some (.own v sz es)) (hj:l[j]? =some (.own u sz ys)) (hl:es.length+ys.length<=Ab/\(es.length+ys.length)*b<=140737488355328) (hys: ∀e∈ys,e.length=sz) (ho: ∀e∈ys,∀v∈e,Dg v=true)
    (hk: ∀v' Z',Sat Z' (l.set i (.own v' sz (es++ys)))->K v' Z'):AL b Z sz v u K:=by
 have hA:AL b Z sz v (.l ys true) K:=hAppend h i hi hl hys ho hk;rcases h.get hj with⟨rfl,hel⟩|⟨n,cap,rfl,hn⟩
 .exact hA
 .unfold AL at hA ⊢
  simp only[rowsOf]at hA ⊢;rw[hn];refine⟨rfl,Ft _,?_⟩;rw[List.take_length];exact hA.2
def Cv (a:List Fact):List Fact->List Fact
 | []=>a
 | x::r=>Cv (if a.any (CW x)then a else a++[x]) r
def Y9 (a:List Fact): ∀(b:List Fact) (x:Fact),Cv a (b++[x])=if(Cv a b).any (CW x)then Cv a b else Cv a b++[x]:=by
 intro b
 induction b generalizing a with
 | nil=>intro x;rfl
 | cons y r ih=>intro x;simp only[List.cons_append,Cv];exact ih _ x
def S4 (a:List Fact): ∀(b:List Fact),(Cv a b).length<=a.length+b.length:=by
 intro b
 induction b generalizing a with
 | nil=>simp[Cv]
 | cons y r ih=>
   simp only[Cv,HH];refine Nat.le_trans (ih _) ?_;split
   .omega
   .simp;omega
def S3 (a:List Fact): ∀(b:List Fact) (x:Fact),x∈Cv a b->x∈a\/x∈b:=by
 intro b
 induction b generalizing a with
 | nil=>intro x hx;exact .inl hx
 | cons y r ih=>
   intro x hx;simp only[Cv]at hx;rcases ih _ x hx with h|h
   .split at h
    .exact .inl h
    .rcases Dn.1 h with h|h
     .exact .inl h
     .rw[Jf.1 h];exact .inr (.head _)
   .exact .inr (.tail _ h)
def F2 (A B:List (List Fact)):List (List Fact):=A.flatMap fun x=>B.map fun y=>Cv x y
def Hw (f:Fact) (l:List (Bool->List (List Fact))) (c:Bool):List (List Fact):=
 if f.op=1 then(if c then []else [[]])else
 if f.op=5 then(l.getD 0 (fun _=>[])) (!c)else
 if f.op=6\/f.op=7 then(if c != (f.op==7)then l.getD 0 (fun _=>[]) c++l.getD 1 (fun _=>[]) c else F2 (l.getD 0 (fun _=>[]) c) (l.getD 1 (fun _=>[]) c))else
 if c then [[Ca f]]else [[f]]
def BV (f:Fact):Bool->List (List Fact):=f.Fe Hw
def Fm (f:Fact) (c:Bool):BV f c=Hw f (f.kids.map BV) c:=congrFun (Fact.CJ Hw f) c
def Ze (f:Fact) (l:List Nat):Nat:=if f.op=5 then l.getD 0 0 else if f.op=6\/f.op=7 then l.getD 0 0+l.getD 1 0 else 1
def lv (f:Fact):Nat:=f.Fe Ze
def Js (f:Fact):lv f=Ze f (f.kids.map lv):=Fact.CJ Ze f
def arity (f:Fact):Bool:=f.Fe fun f l=>f.kids.length==Bp f.op&&l.all id
def FM (f:Fact):arity f=(f.kids.length==Bp f.op&&f.kids.all arity):=by
 rw[arity,Fact.CJ,List.all_map];rfl
def Al {w:AF} (f:Fact):Ae w f=true->arity f=true:=by
 induction f using Fact.ind with
 | h f ih=>
   intro h;rw[BS]at h;simp only[CE,A4,Cu]at h;rw[FM,A4,Cu];exact⟨h.1.2.1,fun k hk=>ih k hk (h.2 k hk)⟩
def ED {f:Fact} (h:arity f=true) (h5:f.op=5): ∃a,f.kids= [a]/\arity a=true:=by
 rw[FM,A4,Cu,h5]at h;have hl:f.kids.length=1:=by simpa[Bp]using h.1
 obtain⟨a,ha⟩:=List.length_eq_one_iff.1 hl;exact⟨a,ha,h.2 a (by rw[ha];exact .head _)⟩
def EC {f:Fact} (h:arity f=true) (h6:f.op=6\/f.op=7): ∃a b,f.kids= [a,b]/\arity a=true/\arity b=true:=by
 rw[FM,A4,Cu]at h
 have hl:f.kids.length=2:=by
  have h5:f.op≠5:=by omega
  simpa[Bp,h5,h6]using h.1
 match hk:f.kids,hl with
 | [a,b],_=>exact⟨a,b,rfl,h.2 a (by rw[hk];exact .head _),h.2 b (by rw[hk];exact .tail _ (.head _))⟩
def YT (f:Fact):arity f=true->1<=lv f:=by
 induction f using Fact.ind with
 | h f ih=>
   intro h;rw[Js,Ze];split
   .rename_i h5
    obtain⟨a,ha,hb⟩:=ED h h5;rw[ha];exact ih a (by rw[ha];exact .head _) hb
   .split
    .rename_i h6
     obtain⟨a,b,ha,hb,_⟩:=EC h h6;rw[ha];have:=ih a (by rw[ha];exact .head _) hb;simp only[CK,List.getD_cons_zero];omega
    .omega
def oK {a b:Nat} (ha:1<=a) (hb:1<=b):2 ^ a+2 ^ b<=2 ^ (a+b):=by
 rw[Nat.pow_add];have h1:2<=2 ^ a:=by simpa using Nat.pow_le_pow_right (show 0<2 by omega) ha
 have h2:2<=2 ^ b:=by simpa using Nat.pow_le_pow_right (show 0<2 by omega) hb
 generalize 2 ^ a=x at *;generalize 2 ^ b=y at *;have:=Nat.mul_le_mul_left (x - 1) (show 1<=y - 1 by omega);obtain⟨x,rfl⟩: ∃u,x=u+1:=⟨x - 1,by omega⟩
 obtain⟨y,rfl⟩: ∃u,y=u+1:=⟨y - 1,by omega⟩
 simp only[Nat.add_sub_cancel,Nat.mul_one]at this;rw[Nat.add_mul,Nat.mul_add];omega
def dS (A B:List (List Fact)):(F2 A B).length=A.length*B.length:=by
 induction A with
 | nil=>simp[F2]
 | cons x r ih=>
   simp only[F2,List.flatMap_cons,HQ,Bc,HH]at *;rw[ih,Nat.add_mul];omega
def G8 (f : Fact):arity f=true-> ∀c,(BV f c).length<=2 ^ lv f/\ ∀l∈BV f c,l.length<=lv f:=by
 induction f using Fact.ind with
 | h f ih=>
   intro h c;rw[Fm,Js,Hw,Ze];by_cases h1:f.op=1
   .have e5: ¬f.op=5:=by omega
    have e6: ¬(f.op=6\/f.op=7):=by omega
    rw[if_pos h1,if_neg e5,if_neg e6];cases c
    .rw[if_neg (by decide)]
     exact⟨by simp,fun l hl=>by simp at hl;subst hl;simp⟩
    .rw[if_pos rfl]
     exact⟨by simp,fun l hl=>by cases hl⟩
   rw[if_neg h1];by_cases h5:f.op=5
   .obtain⟨a,ha,hb⟩:=ED h h5
    rw[if_pos h5,if_pos h5,ha];exact ih a (by rw[ha];exact .head _) hb (!c)
   rw[if_neg h5,if_neg h5];by_cases h6:f.op=6\/f.op=7
   .obtain⟨a,b,ha,hb1,hb2⟩:=EC h h6
    rw[if_pos h6,if_pos h6,ha];simp only[CK,List.map_nil,List.getD_cons_zero,List.getD_cons_succ];obtain⟨i1,i2⟩:=ih a (by rw[ha];exact .head _) hb1 c;obtain⟨j1,j2⟩:=ih b (by rw[ha];exact .tail _ (.head _)) hb2 c;have p1:=YT a hb1;have p2:=YT b hb2;split
    .refine⟨?_,fun l hl=>?_⟩
     .rw[HQ]
      have:=oK p1 p2;omega
     .rcases Dn.1 hl with hl|hl
      .have:=i2 l hl;omega
      .have:=j2 l hl;omega
    .refine⟨?_,fun l hl=>?_⟩
     .rw[dS,Nat.pow_add]
      exact Nat.mul_le_mul i1 j1
     .simp only[F2,List.mem_flatMap,GK]at hl
      obtain⟨x,hx,y,hy,rfl⟩:=hl;have:=S4 x y;have:=i2 x hx;have:=j2 y hy;omega
   .rw[if_neg h6,if_neg h6]
    cases c
    .exact⟨by simp,fun l hl=>by simp at hl;subst hl;simp⟩
    .exact⟨by simp,fun l hl=>by simp at hl;subst hl;simp⟩
def iE (f:Fact):arity f=true->2*lv f<=CC f+1:=by
 induction f using Fact.ind with
 | h f ih=>
   intro h;rw[Js,Ze,EU];by_cases h5:f.op=5
   .obtain⟨a,ha,hb⟩:=ED h h5
    rw[if_pos h5,ha];have:=ih a (by rw[ha];exact .head _) hb;simp only[CK,List.map_nil,List.getD_cons_zero,List.sum_cons,List.sum_nil];omega
   rw[if_neg h5];by_cases h6:f.op=6\/f.op=7
   .obtain⟨a,b,ha,hb1,hb2⟩:=EC h h6
    rw[if_pos h6,ha];have:=ih a (by rw[ha];exact .head _) hb1;have:=ih b (by rw[ha];exact .tail _ (.head _)) hb2;simp only[CK,List.map_nil,List.getD_cons_zero,List.getD_cons_succ,List.sum_cons,List.sum_nil];omega
   .rw[if_neg h6]
    omega
def DS (w:AF) (x:Fact):Prop:= ∃g,Ae w g=true/\Be g=true/\(x=g\/x=Ca g)
def Fw {g:Fact} (h:Be g=true):g.op=2\/g.op=3\/g.op=4:=by
 simp only[Be,EW,CF]at h;omega
def DB {w : AF} (f:Fact):Ae w f=true-> ∀c,∀l∈BV f c,∀x∈l,DS w x:=by
 induction f using Fact.ind with
 | h f ih=>
   intro h c;have har:=Al f h;have h':=h;rw[BS,A4,Cu]at h';rw[Fm,Hw];by_cases h1:f.op=1
   .rw[if_pos h1]
    cases c
    .rw[if_neg (by decide)]
     intro l hl x hx;simp at hl;subst hl;cases hx
    .rw[if_pos rfl]
     intro l hl;cases hl
   rw[if_neg h1];by_cases h5:f.op=5
   .obtain⟨a,ha,hb⟩:=ED har h5
    rw[if_pos h5,ha];exact ih a (by rw[ha];exact .head _) (h'.2 a (by rw[ha];exact .head _)) (!c)
   rw[if_neg h5];by_cases h6:f.op=6\/f.op=7
   .obtain⟨a,b,ha,hb1,hb2⟩:=EC har h6
    rw[if_pos h6,ha];have i1:=ih a (by rw[ha];exact .head _) (h'.2 a (by rw[ha];exact .head _)) c;have j1:=ih b (by rw[ha];exact .tail _ (.head _)) (h'.2 b (by rw[ha];exact .tail _ (.head _))) c;simp only[CK,List.map_nil,List.getD_cons_zero,List.getD_cons_succ];split
    .intro l hl
     rcases Dn.1 hl with hl|hl
     .exact i1 l hl
     .exact j1 l hl
    .intro l hl x hx
     simp only[F2,List.mem_flatMap,GK]at hl;obtain⟨y,hy,z,hz,rfl⟩:=hl;rcases S3 _ _ _ hx with h|h
     .exact i1 y hy x h
     .exact j1 z hz x h
   .rw [if_neg h6]
    have hlf:Be f=true:=by
     have ho:PY w f=true:=by
      have:=h'.1;simp only[CE,A4]at this;exact this.1
     simp only[Be,EW,CF];unfold PY at ho;split at ho
     .omega
     .split at ho
      .omega
      .simp only[EW,CF]at ho
       omega
    cases c
    .rw[if_neg (by decide)]
     intro l hl x hx;simp at hl;subst hl;simp at hx;subst hx;exact⟨x,h,hlf,.inl rfl⟩
    .rw[if_pos rfl]
     intro l hl x hx;simp at hl;subst hl;simp at hx;subst hx;exact⟨f,h,hlf,.inr rfl⟩
def IN {w:AF} {x:Fact} (h:DS w x):qx x/\Ae w (Ad x).1=true/\Be (Ad x).1=true:=by
 obtain⟨g,hn,hl,rfl|rfl⟩:=h
 .have:=Fw hl
  have h5: ¬x.op=5:=by omega
  exact⟨fun e=>absurd e h5,by simp only[Ad,if_neg h5];exact⟨hn,hl⟩⟩
 .exact⟨fun _ e=>(by cases e),hn,hl⟩
def Mv {w:AF} {l:List Fact} (h: ∀x∈l,DS w x):(∀x∈l,qx x)/\AAv w l/\YL l/\gu l 2:=by
 refine⟨fun x hx=>(IN (h x hx)).1,fun x hx h2=>?_,fun x hx=>?_,fun x hx=>?_⟩
 all_goals
  obtain⟨-,hn,hl⟩:=IN (h x hx);have hlo:=Fw hl;generalize (Ad x).1=g at *;rw[BS,A4]at hn;have hn:=hn.1;simp only[CE,A4]at hn;obtain⟨ho,-,-,-,hp,-⟩:=hn
 .unfold PY at ho
  rw[if_pos h2]at ho;simp only[O1,A4,B7]at ho;exact ho.2
 .unfold PY at ho
  split at ho
  .simp only[A4,CF]at ho
   omega
  .split at ho
   .simp only[A4,B7]at ho
    omega
   .omega
 .simp only[EH,A4,B7]at hp
  omega
def Ry (w:AF) (f:Fact):Bool:=(BV f false).any (EN w)
def O0 (w:AF) (a b:Fact):Bool:= !Ry w (Jd a (Ca b))
def tj (a b:Fact):lv (Jd a (Ca b))=lv a+lv b:=by
 rw[Js];simp only[Ze,Jd,Fact.op,Fact.kids,CK,List.map_nil,List.getD_cons_zero,List.getD_cons_succ];rw[Js (Ca b)];simp[Ze,Ca,Fact.op,Fact.kids]
def WY {w:AF} {a b:Fact} (ha:Ae w a=true) (hb:Ae w b=true):Ae w (Jd a (Ca b))=true:=by
 have hnb:Ae w (Ca b)=true:=by
  rw[BS];simp[Ca,CE,PY,Fact.op,Fact.kids,Fact.arg,Fact.path,Fact.cls,Fact.n,Bp,EH,Be,hb]
 rw[BS];simp[Jd,CE,PY,Fact.op,Fact.kids,Fact.arg,Fact.path,Fact.cls,Fact.n,Bp,EH,Be,ha,hnb]
def WG {p:Prog}: ∀ {ms:List MJ} {s:List Int},(runM p ms s).isSome=true-> ∀m∈ms,PZ p m=true
 | [],_,_,_,h=>by cases h
 | m ::r,s,h,x,hx=>by
   rw[runM]at h;split at h
   .rename_i hok
    split at h
    .cases h
    .rcases Ep.1 hx with rfl|hx
     .exact hok
     .exact WG h x hx
   .cases h
def Ex {p:Prog} (h:(BQ p).isSome=true):C8 p=true/\ ∀m∈p.methods,PZ p m=true:=by
 unfold BQ at h;split at h
 .rename_i hh
  refine⟨hh,?_⟩;split at h
  .cases h
  .rename_i s hs
   exact WG (by rw[hs];rfl)
 .cases h
structure FC (p:Prog):Prop where
 mh:Fu (AH p)
 AI:Br p.AO<=Ab
 zU:p.AO.length<=1000
 facts: ∀m∈p.methods,Ae (AH p) m.fact=true/\lv m.fact<=12
 many:p.methods.length<=16
def look_ok {p:Prog} (h:(BQ p).isSome=true):FC p:=by
 obtain⟨hh,hm⟩:=Ex h;simp only[C8,A4,B7]at hh;have hc:=hh.1;simp only[BE,A4,B7]at hc;have hM:=Mx;refine⟨Qs hc.1 hc.2.1 hc.2.2.2.1,by have:=(Fj _ _ hc.2.1).1;omega,by have:=hc.1;omega,fun m h=>?_,hh.2.2.1⟩;have:=hm m h;simp only[PZ,Ba,A4,B7]at this;have hn:=this.2.2.2.2.1.2.2;refine⟨hn,?_⟩;have hcn:=G3 m.fact 24 (by omega) this.2.2.2.2.1.1;have:=iE m.fact (Al _ hn);omega
def Bd (p:Prog) (m:Int):Bool:=decide (0<=m)&&decide (m<(p.methods.length:Int))
def BY (p:Prog) (m:Int):MJ:=p.methods.getD m.toNat default
def Cm {p:Prog} {m:Int} (h:Bd p m=true):p.methods[m.toNat]? =some (BY p m):=by
 simp only[Bd,A4,B7]at h;rw[BY,Cq,Cd (by omega)];rfl
def Lh (p:Prog) (m n:Int):Bool:=(BY p m).gen==(BY p n).gen&&(BY p m).kind==(BY p n).kind
def K8 (p:Prog) (m n:Int):Bool:=O0 (AH p) (BY p m).fact (BY p n).fact
def Az (p:Prog) (m n:Int):Bool:=K8 p m n&& !K8 p n m
abbrev pI (p:Int×Int):List V:=[eI p.1,eI p.2]
abbrev pP (l:List (Int×Int)):List (List V):=l.map pI
def R2 (p:Prog) (g:Int):Bool:=decide (0<=g)&&decide (g<(p.Ce.length:Int))
def AAC (p:Prog) (g:Int):Pure zP 36 [.a (BF p),eI g] (.b (R2 p g)):=by
 refine Pure.fit (by kernel_rfl) fun hf=>?_
 have⟨p1,p2,p3,p4⟩:=Gq hf.1;refine AAk kZ ?_;have hs:=Sn
 conv=>whnf
 repeat'((first|clear U K|apply st|(apply zk;intro K U)|refine zY ?_|refine za (fun hc=>?_) fun hc=>?_|fail)<;>conv=>whnf)
 all_goals exact AG (by simp[R2, *]<;>omega)
structure cG (T:List (List Bool)) (l:List Int):Prop where
 len:T.length<=16
 sq: ∀r∈T,r.length=T.length
 ins: ∀x∈l,0<=x/\x<(T.length:Int)
 many:l.length<=16
def Ov (A:Int->Int->Bool) (l:List Int) (i k:Nat):Bool:=(List.range k).all fun j=>j==i||A (l.getD i 0) (l.getD j 0)
def P8 (A:Int->Int->Bool) (l:List Int):Option Nat:=(List.range l.length).find? fun i=>Ov A l i l.length
def cg (A:Int->Int->Bool) (l:List Int) (i k:Nat):Ov A l i (k+1)=(Ov A l i k&&(k==i||A (l.getD i 0) (l.getD k 0))):=by
 rw[Ov,List.range_succ,List.all_append,Ov];simp
def Ee {l:List Int} {k:Nat} {x:Int} (h:l[k]? =some x):l.getD k 0=x:=by rw[Cq,h];rfl
def DU (A:Int->Int->Bool):Nat->List Int->List Int×Bool
 | 0,_=>([],false)
 | k+1,l=>match P8 A l with
   | none=>([],!l.isEmpty)
   | some i=>(l.getD i 0::(DU A k (l.eraseIdx i)).1,(DU A k (l.eraseIdx i)).2)
def cG.less {T:List (List Bool)} {l:List Int} (h:cG T l) (i:Nat):cG T (l.eraseIdx i):=
 ⟨h.len,h.sq,fun x hx=>h.ins x (List.mem_of_mem_eraseIdx hx),Nat.le_trans (List.length_eraseIdx_le _ _) h.many⟩
def DH (objs:Int) (v:Int×Int):Bool:=
 if v.1=1 then decide (-1000000000<=v.2)&&decide (v.2<=1000000000)else if v.1=2 then v.2==0 else if v.1=3 then decide (0<=v.2)&&decide (v.2<objs)else false
def cK (w:AF) (c:Int):Bool:=decide (3<=c)&&decide (c<3+(w.parents.length:Int))
def CS (w:AF) (c:Int):List Int:=(Aw w.owner.length).filter (hasB w c)
abbrev Ob:=Int×List (Int×Int)
abbrev MC (o:Ob):List V:=[eI o.1,.l (pP o.2) false]
def VI (w:AF) (n:Int) (o:Ob):Bool:=cK w o.1&&(o.2.length==(CS w o.1).length&&o.2.all (DH n))
def LI (w:AF) (os:List Ob):Bool:=decide (os.length<=40)&&os.all (VI w os.length)
end Go.Gl
namespace Go.Gl
open Go.Proofs
section
variable {H:Type} {enc:TypeId×Value->H} {W:World}
end
section
variable {H:Type} {enc:TypeId×Value->H} {W:World}
end
end Go.Gl
