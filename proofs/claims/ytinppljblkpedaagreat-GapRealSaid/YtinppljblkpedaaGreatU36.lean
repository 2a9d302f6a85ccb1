import Derived.Test.YtinppljblkpedaaGreatU14
import Derived.Test.YtinppljblkpedaaGreatU15
import Derived.Test.YtinppljblkpedaaGreatU18
import Derived.Test.YtinppljblkpedaaGreatU20
import Derived.Test.YtinppljblkpedaaGreatU23
import Derived.Test.YtinppljblkpedaaGreatU24
import Derived.Test.YtinppljblkpedaaGreatU25
import Derived.Test.YtinppljblkpedaaGreatU26
import Derived.Test.YtinppljblkpedaaGreatU27
import Derived.Test.YtinppljblkpedaaGreatU30
import Derived.Test.YtinppljblkpedaaGreatU34
import Derived.Test.YtinppljblkpedaaGreatU35
set_option linter.all false
set_option linter.defProp false
set_option maxHeartbeats 8000000
noncomputable section
namespace Go.Gl
open Go.Proofs
def Ve (A B:List (List Fact)):List (List Fact):=A.flatMap fun x=>B.map fun y=>x++y
def Px (f:Fact) (l:List (Bool->List (List Fact))) (c:Bool):List (List Fact):=
 if f.op=1 then(if c then []else [[]])else
 if f.op=5 then(l.getD 0 (fun _=>[])) (!c)else
 if f.op=6\/f.op=7 then(if c != (f.op==7)then l.getD 0 (fun _=>[]) c++l.getD 1 (fun _=>[]) c else Ve (l.getD 0 (fun _=>[]) c) (l.getD 1 (fun _=>[]) c))else
 if c then [[Ca f]]else [[f]]
def CO (f:Fact):Bool->List (List Fact):=f.Fe Px
def K0 (f:Fact) (c:Bool):CO f c=Px f (f.kids.map CO) c:=congrFun (Fact.CJ Px f) c
def Fk {A B:List (List Fact)} {l:List Fact}:l∈Ve A B↔ ∃x∈A,∃y∈B,l=x++y:=by
 simp only[Ve,List.mem_flatMap,GK];constructor
 .rintro⟨x,hx,y,hy,rfl⟩
  exact⟨x,hx,y,hy,rfl⟩
 .rintro⟨x,hx,y,hy,rfl⟩
  exact⟨x,hx,y,hy,rfl⟩
def On {w:AF} (f:Fact):Ae w f=true-> ∀c,∀l∈CO f c,∀x∈l,DS w x:=by
 induction f using Fact.ind with
 | h f ih=>
   intro h c;have har:=Al f h;have h':=h;rw[BS,A4,Cu]at h';rw[K0,Px];by_cases h1:f.op=1
   .rw[if_pos h1]
    cases c
    .rw[if_neg (by decide)]
     intro l hl x hx;simp at hl;subst hl;cases hx
    .rw[if_pos rfl]
     intro l hl;cases hl
   rw[if_neg h1];by_cases h5:f.op=5
   .obtain⟨a,ha,hb⟩:=ED har h5
    rw[if_pos h5,ha];exact ih a (by rw[ha];exact .head _) (h'.2 a (by rw[ha];exact .head _)) (!c)
   rw[if_neg h5];by_cases h6:f.op=6\/f.op=7
   .obtain⟨a,b,ha,hb1,hb2⟩:=EC har h6
    rw[if_pos h6,ha];have i1:=ih a (by rw[ha];exact .head _) (h'.2 a (by rw[ha];exact .head _)) c;have j1:=ih b (by rw[ha];exact .tail _ (.head _)) (h'.2 b (by rw[ha];exact .tail _ (.head _))) c;simp only[CK,List.map_nil,List.getD_cons_zero,List.getD_cons_succ];split
    .intro l hl
     rcases Dn.1 hl with hl|hl
     .exact i1 l hl
     .exact j1 l hl
    .intro l hl x hx
     obtain⟨y,hy,z,hz,rfl⟩:=Fk.1 hl;rcases Dn.1 hx with h|h
     .exact i1 y hy x h
     .exact j1 z hz x h
   .have hr:=DB f h c
    rw[Fm,Hw,if_neg h1,if_neg h5,if_neg h6]at hr;rw[if_neg h6];exact hr
def RY (f:Fact):arity f=true-> ∀c,∀l∈CO f c,l.length<=lv f:=by
 induction f using Fact.ind with
 | h f ih=>
   intro h c;rw[K0,Js,Px,Ze];by_cases h1:f.op=1
   .have e5: ¬f.op=5:=by omega
    have e6: ¬(f.op=6\/f.op=7):=by omega
    rw[if_pos h1,if_neg e5,if_neg e6];cases c
    .rw[if_neg (by decide)]
     exact fun l hl=>by simp at hl;subst hl;simp
    .rw[if_pos rfl]
     exact fun l hl=>by cases hl
   rw[if_neg h1];by_cases h5:f.op=5
   .obtain⟨a,ha,hb⟩:=ED h h5
    rw[if_pos h5,if_pos h5,ha];exact ih a (by rw[ha];exact .head _) hb (!c)
   rw[if_neg h5,if_neg h5];by_cases h6:f.op=6\/f.op=7
   .obtain⟨a,b,ha,hb1,hb2⟩:=EC h h6
    rw[if_pos h6,if_pos h6,ha];simp only[CK,List.map_nil,List.getD_cons_zero,List.getD_cons_succ];have i2:=ih a (by rw[ha];exact .head _) hb1 c;have j2:=ih b (by rw[ha];exact .tail _ (.head _)) hb2 c;split
    .intro l hl
     rcases Dn.1 hl with hl|hl
     .have:=i2 l hl;omega
     .have:=j2 l hl;omega
    .intro l hl
     obtain⟨x,hx,y,hy,rfl⟩:=Fk.1 hl;have:=i2 x hx;have:=j2 y hy;rw[HQ];omega
   .rw[if_neg h6,if_neg h6]
    cases c
    .exact fun l hl=>by simp at hl;subst hl;simp
    .exact fun l hl=>by simp at hl;subst hl;simp
def RZ {w : AF} {M:Int->Er} (f:Fact):Ae w f=true-> ∀c,(∃l∈CO f c,∀x∈l,E4 w M x)↔LD w M f= !c:=by
 induction f using Fact.ind with
 | h f ih=>
   intro h c;have har:=Al f h;have h':=h;rw[BS,A4,Cu]at h';have hF:=EF (M:=M) f h c;rw[Fm,Hw]at hF;rw[K0,Px];by_cases h1:f.op=1
   .rw[if_pos h1]at hF ⊢
    exact hF
   rw[if_neg h1]at hF ⊢;by_cases h5:f.op=5
   .obtain⟨a,ha,hb⟩:=ED har h5
    have i1:=ih a (by rw[ha];exact .head _) (h'.2 a (by rw[ha];exact .head _)) (!c);have k1:=EF (M:=M) a (h'.2 a (by rw[ha];exact .head _)) (!c);rw[if_pos h5,ha]at hF ⊢;exact(i1.trans k1.symm).trans hF
   rw[if_neg h5]at hF ⊢;by_cases h6:f.op=6\/f.op=7
   .obtain⟨a,b,ha,hb1,hb2⟩:=EC har h6
    have hna:=h'.2 a (by rw[ha];exact .head _);have hnb:=h'.2 b (by rw[ha];exact .tail _ (.head _));have i1:=(ih a (by rw[ha];exact .head _) hna c).trans (EF (M:=M) a hna c).symm;have j1:=(ih b (by rw[ha];exact .tail _ (.head _)) hnb c).trans (EF (M:=M) b hnb c).symm;rw[if_pos h6,ha]at hF ⊢;simp only[CK,List.map_nil,List.getD_cons_zero,List.getD_cons_succ]at hF ⊢;refine Iff.trans ?_ hF;split
    .constructor
     .rintro⟨l,hl,hx⟩
      rcases Dn.1 hl with hl|hl
      .obtain⟨m,h1,h2⟩:=i1.1 ⟨l,hl,hx⟩
       exact⟨m,NS _ h1,h2⟩
      .obtain⟨m,h1,h2⟩:=j1.1 ⟨l,hl,hx⟩
       exact⟨m,NR _ h1,h2⟩
     .rintro⟨l,hl,hx⟩
      rcases Dn.1 hl with hl|hl
      .obtain⟨m,h1,h2⟩:=i1.2 ⟨l,hl,hx⟩
       exact⟨m,NS _ h1,h2⟩
      .obtain⟨m,h1,h2⟩:=j1.2 ⟨l,hl,hx⟩
       exact⟨m,NR _ h1,h2⟩
    .constructor
     .rintro⟨l,hl,hx⟩
      obtain⟨y,hy,z,hz,rfl⟩:=Fk.1 hl;obtain⟨m,h1,h2⟩:=i1.1 ⟨y,hy,fun x h=>hx x (NS _ h)⟩;obtain⟨n,h3,h4⟩:=j1.1 ⟨z,hz,fun x h=>hx x (NR _ h)⟩;refine⟨Cv m n,?_,(Mz m _ n).2 ⟨h2,h4⟩⟩;simp only[F2,List.mem_flatMap,GK];exact⟨m,h1,n,h3,rfl⟩
     .rintro⟨l,hl,hx⟩
      simp only[F2,List.mem_flatMap,GK]at hl;obtain⟨y,hy,z,hz,rfl⟩:=hl;rw[Mz]at hx;obtain⟨m,h1,h2⟩:=i1.2 ⟨y,hy,hx.1⟩;obtain⟨n,h3,h4⟩:=j1.2 ⟨z,hz,hx.2⟩;refine⟨m++n,Fk.2 ⟨m,h1,n,h3,rfl⟩,fun x hx=>?_⟩;rcases Dn.1 hx with h|h
      .exact h2 x h
      .exact h4 x h
   .rw[if_neg h6]at hF ⊢
    exact hF
def Ox (tog:List Fact->Bool):List (List (List Fact))->List Fact->Bool
 | [],l=>tog l
 | cs::r,l=>tog l&&cs.any fun c=>Ox tog r (l++c)
def QJ {w:AF} {tog:List Fact->Bool} {OK:(Int->Er)->Prop} (htog: ∀l,(∀x∈l,DS w x)->(tog l=true↔ ∃M,OK M/\ ∀x∈l,E4 w M x)): ∀(css:List (List (List Fact))) (l:List Fact),(∀x∈l,DS w x)->(∀cs∈css,∀c∈cs,∀x∈c,DS w x)->
    (Ox tog css l=true↔ ∃M,OK M/\(∀x∈l,E4 w M x)/\ ∀cs∈css,∃c∈cs,∀x∈c,E4 w M x)
 | [],l,hl,_=>by
   rw[Ox,htog l hl];constructor
   .rintro⟨M,h1,h2⟩
    exact⟨M,h1,h2,fun _ h=>by cases h⟩
   .rintro⟨M,h1,h2,_⟩
    exact⟨M,h1,h2⟩
 | cs::r,l,hl,hcs=>by
   have ih:=fun c (hc:c∈cs)=>QJ htog r (l++c) (fun x hx=>(Dn.1 hx).elim (hl x) (hcs cs (.head _) c hc x)) (fun d hd=>hcs d (.tail _ hd))
   rw[Ox,A4,GY];constructor
   .rintro⟨_,c,hc,h⟩
    obtain⟨M,h1,h2,h3⟩:=(ih c hc).1 h;refine⟨M,h1,fun x hx=>h2 x (NS _ hx),fun d hd=>?_⟩;rcases Ep.1 hd with rfl|hd
    .exact⟨c,hc,fun x hx=>h2 x (NR _ hx)⟩
    .exact h3 d hd
   .rintro⟨M,h1,h2,h3⟩
    obtain⟨c,hc,h4⟩:=h3 cs (.head _);refine⟨(htog l hl).2 ⟨M,h1,h2⟩,c,hc,(ih c hc).2 ⟨M,h1,fun x hx=>(Dn.1 hx).elim (h2 x) (h4 x),fun d hd=>h3 d (.tail _ hd)⟩⟩
def sN (fs:List (Fact×Bool)):List (List (List Fact)):=fs.map fun x=>BV x.1 (!x.2)
def cT (fs:List (Fact×Bool)):List (List (List Fact)):=fs.map fun x=>CO x.1 (!x.2)
def kC {w:AF} {tog:List Fact->Bool} {OK:(Int->Er)->Prop} (htog: ∀l,(∀x∈l,DS w x)->(tog l=true↔ ∃M,OK M/\ ∀x∈l,E4 w M x)) {fs:List (Fact×Bool)} (hn: ∀x∈fs,Ae w x.1=true) :
    Ox tog (sN fs) []=true↔ ∃M,OK M/\ ∀x∈fs,LD w M x.1=x.2:=by
 rw[QJ htog (sN fs) [] (fun _ h=>by cases h) (fun cs hcs=>by
  obtain⟨x,hx,rfl⟩:=GK.1 hcs
  exact DB x.1 (hn x hx) _)]
 constructor
 .rintro⟨M,h1,_,h3⟩
  exact⟨M,h1,fun x hx=>by simpa using(EF x.1 (hn x hx) (!x.2)).1 (h3 _ (GK.2 ⟨x,hx,rfl⟩))⟩
 .rintro⟨M,h1,h2⟩
  refine⟨M,h1,(fun _ h=>by cases h),fun cs hcs=>?_⟩;obtain⟨x,hx,rfl⟩:=GK.1 hcs;exact(EF x.1 (hn x hx) (!x.2)).2 (by simpa using h2 x hx)
def kB {w:AF} {tog:List Fact->Bool} {OK:(Int->Er)->Prop} (htog: ∀l,(∀x∈l,DS w x)->(tog l=true↔ ∃M,OK M/\ ∀x∈l,E4 w M x)) {fs:List (Fact×Bool)} (hn: ∀x∈fs,Ae w x.1=true) :
    Ox tog (cT fs) []=true↔ ∃M,OK M/\ ∀x∈fs,LD w M x.1=x.2:=by
 rw[QJ htog (cT fs) [] (fun _ h=>by cases h) (fun cs hcs=>by
  obtain⟨x,hx,rfl⟩:=GK.1 hcs
  exact On x.1 (hn x hx) _)]
 constructor
 .rintro⟨M,h1,_,h3⟩
  exact⟨M,h1,fun x hx=>by simpa using(RZ x.1 (hn x hx) (!x.2)).1 (h3 _ (GK.2 ⟨x,hx,rfl⟩))⟩
 .rintro⟨M,h1,h2⟩
  refine⟨M,h1,(fun _ h=>by cases h),fun cs hcs=>?_⟩;obtain⟨x,hx,rfl⟩:=GK.1 hcs;exact(RZ x.1 (hn x hx) (!x.2)).2 (by simpa using h2 x hx)
def Hn (E:List Bool->Bool):Nat->List Bool->List (List Bool)
 | 0,pre=>if E pre then [pre]else []
 | k+1,pre=>if E pre then Hn E k (pre++[false])++Hn E k (pre++[true])else []
def I9 {E E':List Bool->Bool} (h: ∀l,E l=E' l): ∀(k:Nat) (pre:List Bool),Hn E k pre=Hn E' k pre
 | 0,pre=>by rw[Hn,Hn,h]
 | k+1,pre=>by rw[Hn,Hn,h,I9 h k,I9 h k]
def Wq {E:List Bool->Bool}: ∀(k:Nat) (pre l:List Bool),l∈Hn E k pre->l.length=pre.length+k/\pre <+: l/\E l=true
 | 0,pre,l,h=>by
   rw[Hn]at h;split at h
   .rename_i he
    rw[Jf]at h;subst h;exact⟨rfl,List.prefix_refl _,he⟩
   .cases h
 | k + 1,pre,l,h=>by
   rw[Hn]at h;split at h
   .rcases Dn.1 h with h|h
    all_goals
     obtain⟨h1,h2,h3⟩:=Wq k _ l h;rw[HQ,List.length_singleton]at h1;exact⟨by omega,(List.prefix_append _ _).trans h2,h3⟩
   .cases h
def Wp {E:List Bool->Bool} (hE: ∀a b,E (a++b)=true->E a=true): ∀(k:Nat) (pre l:List Bool),l.length=k->E (pre++l)=true->pre++l∈Hn E k pre
 | 0,pre,l,hl,h=>by
   obtain rfl:=Xv.1 hl;rw[D8]at h ⊢;rw[Hn,if_pos h];exact .head _
 | k+1,pre,[],hl,_=>by cases hl
 | k+1,pre,b::l,hl,h=>by
   rw[Hn,if_pos (hE _ _ h)];have e:pre++b::l=pre++[b]++l:=by simp
   rw[e]at h ⊢;have:=Wp hE k (pre++[b]) l (by simpa using hl) h;cases b
   .exact NS _ this
   .exact NR _ this
def cW (tog:List Fact->Bool) (fs:List Fact) (bs:List Bool):Bool:=Ox tog (sN (fs.zip bs)) []
def DK (tog:List Fact->Bool) (fs:List Fact) (bs:List Bool):Bool:=Ox tog (cT (fs.zip bs)) []
def M8 {w:AF} {tog:List Fact->Bool} {OK:(Int->Er)->Prop} (htog: ∀l,(∀x∈l,DS w x)->(tog l=true↔ ∃M,OK M/\ ∀x∈l,E4 w M x)) {fs:List Fact} (hn: ∀f∈fs,Ae w f=true) (bs:List Bool) :
    cW tog fs bs=true↔ ∃M,OK M/\ ∀x∈fs.zip bs,LD w M x.1=x.2:=kC htog fun x hx=>hn x.1 (List.of_mem_zip hx).1
def K1 {w:AF} {tog:List Fact->Bool} {OK:(Int->Er)->Prop} (htog: ∀l,(∀x∈l,DS w x)->(tog l=true↔ ∃M,OK M/\ ∀x∈l,E4 w M x)) {fs:List Fact} (hn: ∀f∈fs,Ae w f=true) (bs:List Bool) :
    DK tog fs bs=true↔ ∃M,OK M/\ ∀x∈fs.zip bs,LD w M x.1=x.2:=kB htog fun x hx=>hn x.1 (List.of_mem_zip hx).1
def nT {fs:List Fact} {a b:List Bool} {x:Fact×Bool} (h:x∈fs.zip a):x∈fs.zip (a++b):=by
 induction fs generalizing a with
 | nil=>cases h
 | cons f r ih=>
   cases a with
   | nil=>cases h
   | cons c a=>
     rw[List.zip_cons_cons]at h;rw[List.cons_append,List.zip_cons_cons];rcases Ep.1 h with rfl|h
     .exact .head _
     .exact .tail _ (ih h)
def BT (ms:List Int) (bs:List Bool):List Int:=((ms.zip bs).filter fun x=>x.2).map fun x=>x.1
def gN {w:AF} (hw:Fu w): ∀l,(∀x∈l,DS w x)->(EN w l=true↔ ∃M,ym w M/\ ∀x∈l,E4 w M x):=fun l hl=>Mk hw fun x hx=>EB (hl x hx)
def gO {w:AF} (hw:Fu w) {cs:List Int} (hcs: ∀c∈cs,1<=c/\c<3+(w.parents.length:Int)): ∀l,(∀x∈l,DS w x)->(X4 w cs l=true↔ ∃M,nC w cs M/\ ∀x∈l,E4 w M x):=fun l hl=>by
 rw[<-se hw hcs fun x hx=>EB (hl x hx)];exact IK hw fun x hx=>EB (hl x hx)
def ko {w:AF} {cs:List Int} {M:Int->Er} (h:nC w cs M):nC w [] M:=fun a=>⟨(h a).1,fun h0 h1=>by
 obtain⟨c,k0,_⟩:=(h a).2 h0 h1
 exact⟨c,k0,by rw[Jb,decide_eq_true (by simpa using h0)];rfl⟩⟩
def od {n:Int}: ∀c∈([]:List Int),1<=c/\c<n:=fun _ h=>by cases h
structure Gro (w w':AF) (ps:List Int):Prop where
 par:w'.parents=w.parents++[ps]
 own:w'.owner=w.owner
section
variable {w w':AF} {ps:List Int}
def Gro.BG (h:Gro w w' ps) (s:Int):BG w' s=BG w s:=by rw[Gl.BG,Gl.BG,h.own]
end
end Go.Gl
namespace Go.Gl
open Go.Proofs
attribute [local irreducible] As Ag AY AQ AL AX AP AR AK AW AM AN Ai Ap Sat AT An AZ W
def ml (p:Prog) (l:List Int) (kd:Bool) (x:Int):Bool:=Bd p x&&((BY p x).gen==(BY p (l.getD 0 0)).gen&&(!kd||Lh p x (l.getD 0 0)))
def GN (p:Prog) (l:List Int) (kd:Bool):Bool:=l.all (ml p l kd)&&decide l.Nodup
def dh {p:Prog} {l:List Int} {kd:Bool} {i:Nat} {x:Int} (hx:l[i]? =some x) (h:ml p l kd x=false):GN p l kd=false:=by
 rw[GN,Bool.and_eq_false_iff];left;rw[<-Bool.not_eq_true,Cu];intro h2;rw[h2 x (B6 hx)]at h;cases h
def dg {p:Prog} {l:List Int} {kd:Bool} {i k:Nat} {x:Int} (hx:l[i]? =some x) (hk:l[k]? =some x) (h:k<i):GN p l kd=false:=by
 rw[GN,Bool.and_eq_false_iff];right;rw[decide_eq_false_iff_not];intro h2;have hi:=(Ip.1 hx)
 have hj:=(Ip.1 hk)
 have:=(List.nodup_iff_pairwise_ne.1 h2)
 rw[List.pairwise_iff_getElem]at this;exact this k i hj.1 hi.1 h (by rw[hj.2,hi.2])
def Y4 {l:List Int} {i:Nat} {x:Int} (hx:l[i]? =some x) (h:(l.take i).Nodup) (hn: ∀k y,k<i->l[k]? =some y->y≠x):(l.take (i+1)).Nodup:=by
 rw[AU hx,List.nodup_append];refine⟨h,by simp,fun a ha b hb=>?_⟩;rw[Jf.1 hb];obtain⟨k,hk⟩:=List.getElem?_of_mem ha;rw[List.getElem?_take]at hk;split at hk
 .exact hn k a (by assumption) hk
 .cases hk
def QS: ∀(n:Nat) (l:List Int),l.Nodup->(∀x∈l,0<=x/\x<(n:Int))->l.length<=n
 | 0,l,_,h=>by
   cases l with
   | nil=>simp
   | cons x r=>have:=h x (.head _);omega
 | n + 1,l,hn,h=>by
   have h1:=QS n (l.erase (n:Int)) (hn.erase _) fun x hx=>by
    have hm:=(List.Nodup.mem_erase_iff hn).1 hx;have:=h x hm.2;have:=hm.1;omega
   have h2:=List.length_erase (a:=(n:Int)) (l:=l);split at h2<;>omega
def ah {p:Prog} (h:(BQ p).isSome=true) {x:MJ} (hx:x∈p.methods):(1<=x.kind/\x.kind<=4)/\Ba (AH p) x.fact=true/\Ae (AH p) x.fact=true/\Cj x.fact<=p.Ce.getD x.gen.toNat 0:=by
 have:=(Ex h).2 x hx;simp only[PZ,A4,B7]at this;have hf:=this.2.2.2.2.1;simp only[Ba,A4,B7]at hf;exact⟨⟨this.1,this.2.1⟩,this.2.2.2.2.1,hf.2.2,this.2.2.2.2.2⟩
structure Pl where
 ar:List Int
 fI:Bool
 be:List Int
 pr:List Int
 prt:Bool
 af:List Int
abbrev plV (x:Pl) (g h:Bool):List V:=[.l (iL x.ar) g,.b x.fI,.l (iL x.be) g,.l (iL x.pr) g,.b x.prt,.l (iL x.af) h]
def EM (p:Prog) (l:List Int) (k:Int):List Int:=l.filter fun m=>(BY p m).kind==k
def yd:Pl:=⟨[],false,[],[],false,[]⟩
def zJ (A:Int->Int->Bool) (p:Prog) (l:List Int):Pl:=
 ⟨(DU A (EM p l 4).length (EM p l 4)).1,(DU A (EM p l 4).length (EM p l 4)).2,Ho A (EM p l 2).length (LF (EM p l 2)),(DU A (EM p l 1).length (EM p l 1)).1,(DU A (EM p l 1).length (EM p l 1)).2,(Ho A (EM p l 3).length (LF (EM p l 3))).reverse⟩
def ML (A:Int->Int->Bool) (p:Prog) (l:List Int):Pl×Bool:=if(EM p l 1).isEmpty then(yd,false)else(zJ A p l,true)
def Xx (p:Prog) (gen:Int) (k:Nat):List Int:=(Aw k).filter fun m=>(BY p m).gen==gen
def Bu (p:Prog) (gen:Int):List Int:=Xx p gen p.methods.length
def Wn (p:Prog) (gen:Int) (k:Nat):Xx p gen (k+1)=if(BY p (k:Int)).gen==gen then Xx p gen k++[(k:Int)]else Xx p gen k:=by
 rw[Xx,KG,List.filter_append];cases hp:(BY p (k:Int)).gen==gen<;>simp[Xx,hp]
def bH (p:Prog) (gen:Int) (k:Nat):(Xx p gen k).length<=k:=by
 have:=TZ (fun m=>(BY p m).gen==gen) (Aw k)
 rwa [G1]at this
def Mc (p:Prog) (gen:Int) (m:Int):(Bu p gen).contains m=(Bd p m&&(BY p m).gen==gen):=by
 rw[Hl,List.contains_iff_mem,Bu,Xx,HD,BW,A4,Bd];simp only[A4,B7]
def Uc {p:Prog} {k:Nat} {x:MJ} (hx:p.methods[k]? =some x):BY p (k:Int)=x:=by
 have hlt:=(Ip.1 hx).1;have:=Cm (p:=p) (m:=k) (by simp[Bd];omega);rw[GR,hx]at this;exact(Option.some.inj this).symm
def Ru (p:Prog) (gen:Int) (l:List Int) (i:Nat):Bool:=Bd p (l.getD i 0)&&((BY p (l.getD i 0)).gen==gen&& !(decide (0<i)&&decide (l.getD (i - 1) 0≥l.getD i 0)))
def HK (p:Prog) (gen:Int) (l:List Int):Bool:=(List.range l.length).all (Ru p gen l)
def kN {p:Prog} {gen:Int} {l:List Int} {i:Nat} (hi:i<l.length) (h:Ru p gen l i=false):HK p gen l=false:=by
 rw[<-Bool.not_eq_true,HK,Cu];intro h2;rw[h2 i (List.mem_range.2 hi)]at h;cases h
def Z6 {p:Prog} {gen:Int} {l:List Int} (h: ∀i,i<l.length->Ru p gen l i=true):HK p gen l=true:=by
 rw[HK,Cu];exact fun i hi=>h i (List.mem_range.1 hi)
def Z7 {p:Prog} {gen:Int} {l:List Int} (h:HK p gen l=true): ∀i (hi:i+1<l.length),l[i]<l[i+1]:=fun i hi=>by
 rw[HK,Cu]at h;have:=h (i+1) (List.mem_range.2 hi);simp only[Ru,A4,Bool.not_eq_true',Bool.and_eq_false_iff,decide_eq_false_iff_not,Nat.add_sub_cancel,Cq,Cd hi,Cd (show i<l.length by omega),Option.getD_some]at this;omega
def WC {p:Prog} {gen:Int} {l:List Int} (h:HK p gen l=true): ∀x∈l,Bd p x=true/\(BY p x).gen=gen:=fun x hx=>by
 rw[HK,Cu]at h;obtain⟨i,hi,rfl⟩:=List.mem_iff_getElem.1 hx;have:=h i (List.mem_range.2 hi);simp only[Ru,A4,Cq,Cd hi,Option.getD_some,CF]at this;exact⟨this.1,this.2.1⟩
def Sh {p:Prog} {gen:Int} {l:List Int} (h:HK p gen l=true):GN p l false=true:=by
 have hm:=WC h;rw[GN,A4,Cu,B7];refine⟨fun x hx=>?_,?_⟩
 .have h0:l.getD 0 0∈l:=by
   cases l with
   | nil=>cases hx
   | cons y r=>exact List.mem_cons_self ..
  rw[ml,(hm x hx).1,(hm x hx).2,(hm _ h0).2];simp
 .have hq: ∀(i d:Nat) (hd:i+d+1<l.length),l[i]<l[i+d+1]:=fun i d=>by
   induction d with
   | zero=>exact fun hd=>Z7 h i hd
   | succ d ih=>exact fun hd=>Int.lt_trans (ih (by omega)) (Z7 h (i+d+1) hd)
  have hp:List.Pairwise (· < ·) l:=List.pairwise_iff_getElem.2 fun i j hi hj hij=>by
   obtain⟨d,rfl⟩: ∃d,j=i+d+1:=⟨j - i - 1,by omega⟩
   exact hq i d hj
  exact hp.imp fun h e=>by omega
def kL {p:Prog} {gen:Int} {l:List Int} (h:HK p gen l=true):l.length<=p.methods.length:=by
 have h1:=Sh h;rw[GN,A4,B7]at h1;refine QS p.methods.length l h1.2 fun x hx=>?_
 have:=(WC h x hx).1;simp only[Bd,A4,B7]at this;omega
def C5 (p:Prog) (gen:Int):Bool:=(BQ p).isSome&&R2 p gen
def stO (x:Pl×Bool):Int:=if x.2 then(if x.1.ar.isEmpty&&(x.1.fI||x.1.pr.isEmpty)then 3 else if x.1.fI||x.1.prt then 2 else 1)else 4
def Zd (p:Prog) (l:List Int):Int:=stO (ML (Az p) p l)
def Tw (p:Prog) (gen:Int) (l:List Int):Int×Int:=if C5 p gen then(if HK p gen l then(if(Bu p gen).length<=8 then(Zd p l,0)else(0,3))else(0,2))else(0,2)
def yM (p:Prog) (gen:Int):Pure zP 8 [.a (BF p),eI gen] (eI (if C5 p gen then 0 else 2)):=by
 have c1:=tA p;have c2:=AAC p gen;rw[C5];cases h1:(BQ p).isSome<;>rw[h1]at c1<;>cases h2:R2 p gen<;>rw[h2]at c2
 all_goals
  refine ctr8 kZ ?_;have hs:=Sn;exact zW
end Go.Gl
namespace Go.Gl
open Go.Proofs
def Fi (p:Prog) (gen:Int):List Fact:=(Bu p gen).map fun m=>(BY p m).fact
def E7 (p:Prog) (gen:Int) (tog:List Fact->Bool):List (List Int×Int):=(Hn (cW tog (Fi p gen)) (Bu p gen).length []).map fun bs=>(BT (Bu p gen) bs,Zd p (BT (Bu p gen) bs))
end Go.Gl
namespace Go.Gl
open Go.Proofs
attribute [local irreducible] As Ag AY AQ AL AX AP AR AK AW AM AN Ai Ap Sat AT An AZ W
def oo (l:List Int) (f kd:Bool):Pure zP 260 [.pn,.l (iL l) f,.b kd] (.b false):=by
 have c1:=uC l f;refine Ya kZ ?_;have hs:=Sn;exact zW
def kS {M:List Int} {x:Int} (h:M.contains x=false):H7 M x=M++[x]:=by
 rw[H7,if_neg (by rw[h];decide)]
def tp (p : Prog) (L:Nat) (l:List Int) (f kd:Bool) (hl:l.length<=1000):Pure zP 260 [Tb p L,.l (iL l) f,.b kd] (.b (GN p l kd)):=by
 refine Pure.fit (by kernel_rfl) fun hf=>?_
 have hM:=Mx;have c1:=zy p L l f;cases hm:l.all (Bd p)<;>rw[hm]at c1
 .have hb:GN p l kd=false:=by
   rw[<-Bool.not_eq_true];intro h;rw[GN,A4,Cu]at h;rw[<-Bool.not_eq_true,Cu]at hm;refine hm fun x hx=>?_
   have:=h.1 x hx;simp only[ml,A4]at this;exact this.1
  refine Ya kZ ?_;have hs:=Sn
  conv=>whnf
  repeat'((first|clear U K|apply st|(apply zk;intro K U)|refine zY ?_|refine zC ?_|fail)<;>conv=>whnf)
  all_goals exact AG (by rw[hb])
 rw[Cu]at hm;refine Ya kZ ?_;have hs:=Sn
 conv=>whnf
 repeat'((first|clear U K|apply st|(apply zk;intro K U)|refine zY ?_|refine zC ?_|refine zo fun nn hnn Z hs=>?_|fail)<;>conv=>whnf)
 clear c1;replace hs:Sat Z [.map nn (Te [])]:=hs;refine B4 l.length (fun i (_:Unit)=>[(17,eI (A7 i))]) (fun i _=>[.map nn (Te (l.take i))]) (fun i _=>(∀k y,k<i->l[k]? =some y->ml p l kd y=true)/\(l.take i).Nodup) () rfl ⟨fun k y h=>by omega,by simp⟩ hs ?_;clear hs;rintro i - Z hi ⟨ho,hn⟩ hs;rcases A9 l hi with⟨x,hx,hlt⟩|hie
 .have hci : A7 i=i:=AS (by omega)
  obtain⟨z,hz⟩: ∃z,l[0]? =some z:=⟨_,Cd (by omega)⟩
  have hz0:=Ee hz;have hmx:=hm x (B6 hx);have hmz:=hm z (B6 hz);have hbad:=fun h=>dh (p:=p) (kd:=kd) hx h
  rw[ml,hz0]at hbad;have hxP:=Cm hmx;have hzP:=Cm hmz;have c2:=qR p L x z hmx hmz;have hxr:=hmx;have hzr:=hmz;simp only[Bd,A4,B7]at hxr hzr;cases hcon:(l.take i).contains x
  .have hne : ∀k y,k<i->l[k]? =some y->y≠x:=fun k y h h2 e=>by
    rw[<-Bool.not_eq_true,List.contains_iff_mem]at hcon;exact hcon (B6 (i:=k) (by rw[List.getElem?_take,if_pos h,h2,e]))
   have hnd:=Y4 hx hn hne;have hput:=kS hcon;rw[<-AU hx]at hput;by_cases hg:(BY p x).gen=(BY p z).gen
   .have hoxF:(!kd||Lh p x z)=true->ml p l kd x=true:=fun h=>by rw[ml,hz0,hmx,hg,h];simp
    cases hal:Lh p x z<;>rw[hal]at c2 hoxF<;>cases kd
    all_goals
     conv=>whnf
     repeat'((first|clear U K|apply st|(apply zk;intro K U)|refine zY ?_|refine c2.use ?_|(refine Hc hs 0 rfl rfl (IP _) ?_;rw[My,hcon])|(refine Hb hs 0 rfl rfl (IP _) fun Z hs=>?_)|(refine zb (fun hc=>?_) (fun hc=>?_)<;>try exact⟨⟩)|fail)<;>conv=>whnf)
    all_goals first
     | exact AG (by rw[hbad (by simp[hal,hg])])
     | (exfalso;simp[hg]at hc;done)
     | (have hox:=hoxF rfl
        refine⟨hlt,(),rfl,⟨fun k' y' h h2=>?_,hnd⟩,?_⟩
        .rcases Nat.lt_or_ge k' i with h'|h'
         .exact ho k' y' h' h2
         .rw[show k'=i by omega,hx]at h2
          rw[<-Option.some.inj h2];exact hox
        .replace hs:Sat Z [.map nn (Du (eI x) (.b true) (Te (l.take i)))]:=hs
         rw[aw,hput]at hs
         exact hs)
   .conv=>whnf
    repeat'((first|clear U K|apply st|(apply zk;intro K U)|refine zY ?_|(refine Hc hs 0 rfl rfl (IP _) ?_;rw[My,hcon])|(refine zb (fun hc=>?_) (fun hc=>?_)<;>try exact⟨⟩)|fail)<;>conv=>whnf)
    all_goals first
     | exact AG (by rw[hbad (by simp[hg])])
     | (exfalso;have q:(BY p x).gen=(BY p z).gen:=(by assumption);exact hg q)
     | (exfalso;simp[hg]at hc;done)
  .obtain⟨k,hk⟩:=List.getElem?_of_mem (List.contains_iff_mem.1 hcon)
   rw[List.getElem?_take]at hk;split at hk
   .conv=>whnf
    repeat'((first|clear U K|apply st|(apply zk;intro K U)|refine zY ?_|(refine Hc hs 0 rfl rfl (IP _) ?_;rw[My,hcon])|fail)<;>conv=>whnf)
    all_goals exact AG (by rw[dg hx hk (by assumption)])
   .cases hk
 .refine zz ?_;(repeat clear U K);repeat intro K U
  have hall:GN p l kd=true:=by
   rw[GN,A4,Cu];refine⟨fun y hy=>?_,decide_eq_true (by rw[hie,List.take_length]at hn;exact hn)⟩;obtain⟨k,hk⟩:=List.getElem?_of_mem hy;exact ho k y (by rw[hie];exact(Ip.1 hk).1) hk
  exact AG (by rw[hall])
end Go.Gl
namespace Go.Gl
open Go.Proofs
def yA {Z:AE} {l:List At} {i:Nat} {v:V} {sz:Nat} {es:List (List V)} (hs:Sat Z l) (hi:l[i]? =some (.own v sz es)) (he: ∀e∈es,e.length=sz) {K:V->AE->Prop} (hk: ∀v' Z',Sat Z' (l.set i (.own v' sz es))->((Bi v').isSome=true\/(v'= .l es true/\v= .l es true))->K v' Z'):AP Z sz v none (some (.i .i64 (es.length:Int))) (some (.i .i64 (es.length:Int))) K:=by
 rcases hs.get hi with⟨rfl,_⟩|⟨n,cap,rfl,hn⟩
 .refine⟨he,?_⟩
  simp only[Ou];refine⟨Int.le_refl _,Int.natCast_nonneg _,Int.le_refl _,trivial,?_⟩
  have hset:l.set i (.own (.l es true) sz es)=l:=by
   refine List.ext_getElem? fun j=>?_
   by_cases hj:i=j
   .subst hj
    rw[List.getElem?_set_self (Ip.1 hi).1,hi]
   .rw[List.getElem?_set_ne hj]
  have:=hk (.l es true) Z (by rw[hset];exact hs) (.inr ⟨rfl,rfl⟩);simpa using this
 .unfold AP
  simp only[Ou];refine⟨Int.le_refl _,Int.natCast_nonneg _,Int.le_refl _,trivial,trivial,trivial,?_⟩;rw[hn];refine⟨rfl,rfl,rfl,.inr (hk _ _ ?_ (.inl rfl))⟩;refine hs.change hi (fun b hb ha=>E8 hb fun m hm=>?_) (fun b hb ha m hm=>?_) (.inr ⟨n,es.length,rfl,D1 _ _ _⟩)
  .rw[Ci]
   intro e;subst e;exact ha m rfl hm
  .cases hm
   exact ha _ rfl
attribute [local irreducible] As Ag AY AQ AL AX AP AR AK AW AM AN Ai Ap Sat AT An AZ W
def qD (xs:List Int) (v:V) (hl:xs.length<=Ab) (hv:(Bi v).isSome=true\/(v= .l [] true/\xs= [])):BL zP 286 [v] [.own v 1 (iL xs)] fun r post=> ∃v',r= .ret v'/\post= [.own v' 1 (iL xs)]/\((Bi v').isSome=true\/(v'= .l [] true/\xs= [])):=by
 intro Z hs;have hg:=Ew Cs xs;refine ie kZ ?_;refine zz ?_;(repeat clear U K);repeat intro K U
 refine yA (i:=0) hs rfl hg.1 fun v' Z hs hv'=>?_
 refine zz ?_;(repeat clear U K);repeat intro K U
 refine Au hs (List.Sublist.refl _) (.refl _) fun Z' hs'=>⟨_,⟨v',rfl,rfl,?_⟩,hs'⟩
 rcases hv' with h|⟨h1,h2⟩
 .exact .inl h
 .rcases hv with h|⟨h3,h4⟩
  .rw[h2]at h;cases h
  .subst h4
   exact .inr ⟨h1,rfl⟩
def Vk (xs ys:List Int) (k:Nat):Prop:=ys.length=xs.length/\ ∀t,t<xs.length->ys[t]? =if t<k\/xs.length - k<=t then xs[xs.length - 1 - t]? else xs[t]?
def uF (xs:List Int):Vk xs xs 0:=⟨rfl,fun t ht=>by rw[if_neg (by omega)]⟩
def lV {xs ys:List Int} {k:Nat} (h:Vk xs ys k) (hk:xs.length<=2*k+1):ys=xs.reverse:=by
 refine List.ext_getElem? fun t=>?_
 rcases Nat.lt_or_ge t xs.length with ht|ht
 .rw[h.2 t ht,List.getElem?_reverse ht]
  split
  .rfl
  .congr 1;omega
 .rw[List.getElem?_eq_none (by rw[h.1];exact ht),List.getElem?_eq_none (by rw[List.length_reverse];exact ht)]
def dt {xs ys:List Int} {k:Nat} {a b:Int} (h:Vk xs ys k) (hk:2*k+1<xs.length) (ha:ys[k]? =some a) (hb:ys[xs.length - 1 - k]? =some b):Vk xs ((ys.set k b).set (xs.length - 1 - k) a) (k+1):=by
 have h1:=h.2 k (by omega);have h2:=h.2 (xs.length - 1 - k) (by omega);rw[if_neg (by omega),ha]at h1;rw[if_neg (by omega),hb]at h2;refine⟨by rw[List.length_set,List.length_set];exact h.1,fun t ht=>?_⟩;have hl:=h.1;by_cases e1:t=xs.length - 1 - k
 .subst e1
  rw[List.getElem?_set_self (by rw[List.length_set];omega),if_pos (by omega),show xs.length - 1 - (xs.length - 1 - k)=k by omega,h1]
 .rw[List.getElem?_set_ne (fun e=>e1 e.symm)]
  by_cases e2:t=k
  .subst e2
   rw[List.getElem?_set_self (by omega),if_pos (by omega),h2]
  .rw[List.getElem?_set_ne (fun e=>e2 e.symm),h.2 t ht]
   by_cases e3:t<k\/xs.length - k<=t
   .rw[if_pos e3,if_pos (by omega)]
   .rw[if_neg e3,if_neg (by omega)]
end Go.Gl
namespace Go.Gl
open Go.Proofs
attribute [local irreducible] As Ag AY AQ AL AX AP AR AK AW AM AN Ai Ap Sat AT An AZ W
def dH (xs:List Int) (v:V) (hl:xs.length<=1000) (hv:(Bi v).isSome=true\/(v= .l [] true/\xs= [])):BL zP 321 [v] [.own v 1 (iL xs)] fun r post=>r= .ret (.t [])/\post= [.own v 1 (iL xs.reverse)]:=by
 intro Z hs;have hM:=Mx;have e0:((iL xs).length:Int)=xs.length:=by simp
 have hw0:IntKind.i64.wrap (((iL xs).length:Int) - 1)=(xs.length:Int) - 1:=by rw[e0,wrap64 (by omega) (by omega)]
 refine vE kZ ?_;refine zz ?_;(repeat clear U K);repeat intro K U
 refine Ff (fun(x:Int×Int×List Int)=>(x.2.1+1).toNat) (fun x=>[(2,eI x.1),(3,eI x.2.1)]) (fun x=>[.own v 1 (iL x.2.2)]) (fun x=> ∃k:Nat,x.1=k/\x.2.1=(xs.length:Int) - 1 - k/\2*k<=xs.length+1/\Vk xs x.2.2 k) (0,IntKind.i64.wrap (((iL xs).length:Int) - 1),xs) rfl ⟨0,rfl,by rw[hw0];simp,by omega,uF xs⟩ hs ?_;clear hs;rintro⟨i,j,ys⟩ Z ⟨k,hi,hj,hk,hh⟩ hs;dsimp only at hi hj hh hs;dsimp only;have hyl:=hh.1;by_cases hij:i<j
 .have hsv:(Bi v).isSome=true:=by
   rcases hv with h|⟨h1,h2⟩
   .exact h
   .rw[h2]at hj;simp at hj;omega
  have hwi:IntKind.i64.wrap (i+1)=i+1:=wrap64 (by omega) (by omega);have hwj:IntKind.i64.wrap (j - 1)=j - 1:=wrap64 (by omega) (by omega);obtain⟨a,ha⟩: ∃a,ys[i.toNat]? =some a:=⟨_,Cd (by omega)⟩
  obtain⟨b,hb⟩: ∃b,ys[j.toNat]? =some b:=⟨_,Cd (by omega)⟩
  conv=>whnf
  repeat'((first|clear U K|apply st|(apply zk;intro K U)|refine zY ?_|refine zs fun Z hs=>?_|refine oset (fun Z hs=>?_) (h1:=by rw[List.length_set];omega)|(refine zb (fun hc=>?_) (fun hc=>?_)<;>try exact⟨⟩)|fail)<;>conv=>whnf)
  have hik:i.toNat=k:=by omega
  have hjk:j.toNat=xs.length - 1 - k:=by omega
  refine⟨(IntKind.i64.wrap (i+1),IntKind.i64.wrap (j - 1),(ys.set i.toNat b).set j.toNat a),by dsimp only;rw[hwj];omega,rfl,⟨k+1,by dsimp only;rw[hwi];omega,by dsimp only;rw[hwj];omega,by omega,?_⟩,hs⟩;dsimp only;rw[hik]at ha ⊢;rw[hjk]at hb ⊢;exact dt hh (by omega) ha hb
 .have he:=lV hh (by omega)
  conv=>whnf
  repeat'((first|clear U K|apply st|(apply zk;intro K U)|refine zY ?_|(refine zb (fun hc=>?_) (fun hc=>?_)<;>try exact⟨⟩)|fail)<;>conv=>whnf)
  subst he;exact Au hs (List.Sublist.refl _) (.refl _) fun Z' hs'=>⟨_,⟨rfl,rfl⟩,hs'⟩
def Za (p:Prog) (L:Nat) (l:List Int) (f:Bool) (hok:FC p) (hgw:BR (AH p)) (hfm: ∀x∈p.methods,Ba (AH p) x.fact=true) (hl:T6 p l) (hnd:l.Nodup) (M:List (Int×Int)) :
    BL zP 320 [Tb p L,.l (iL l) f] [.map L (LZ p M)] fun r post=> ∃v M',r= .ret v/\post= [.own v 1 (iL (Ho (Az p) l.length (l.mergeSort H0))),.map L (LZ p M')]/\((Bi v).isSome=true\/(v= .l [] true/\Ho (Az p) l.length (l.mergeSort H0)= [])):=by
 intro Z hs;have hM:=Mx;have h16:=hl.many;have hml:(l.mergeSort H0).length=l.length:=List.length_mergeSort _;have c1:=Sa l f;have c2:=Sd l f (by omega);refine ia kZ ?_
 conv=>whnf
 repeat'((first|clear U K|apply st|(apply zk;intro K U)|refine zY ?_|refine zs fun Z hs=>?_|refine zC ?_|refine zo fun nn hnn Z hs=>?_|fail)<;>conv=>whnf)
 clear c1 c2 hnn
 refine Ff (fun(x:List Int×Bool×V×List Int×List (Int×Int))=>x.1.length) (fun x=>[(5,x.2.2.1)]) (fun x=>[.box nn [.l (iL x.1) x.2.1],.own x.2.2.1 1 (iL x.2.2.2.1),.map L (LZ p x.2.2.2.2)])
  (fun x=>(∀y∈x.1,Bd p y=true)/\x.1.Nodup/\x.2.2.2.1.length+x.1.length<=16/\Ho (Az p) l.length (l.mergeSort H0)=x.2.2.2.1++Ho (Az p) x.1.length x.1/\((Bi x.2.2.1).isSome=true\/(x.2.2.1= .l [] true/\x.2.2.2.1= []))) (l.mergeSort H0,false,.l [] true,[],M) rfl ⟨fun y hy=>hl.MN y (List.mem_mergeSort.1 hy),(List.mergeSort_perm l H0).symm.nodup hnd,by simpa[hml]using h16,by simp[hml],.inr ⟨rfl,rfl⟩⟩ ((Ch hs 1).perm (.swap _ _ _)) ?_
 clear hs;rintro⟨l',f',v,out,M⟩ Z ⟨hme,hn,hlen,hm,hv⟩ hs;dsimp only at hme hn hlen hm hv hs;dsimp only;have hll:out.length<Ab/\(out.length+1)*8<=140737488355328:=by omega
 by_cases hz:l'.length=0
 .rw[hz]at hm
  simp only[Ho,D8]at hm
  conv=>whnf
  repeat'((first|clear U K|apply st|(apply zk;intro K U)|refine zY ?_|(refine zb (fun hc=>?_) (fun hc=>?_)<;>try exact⟨⟩)|fail)<;>conv=>whnf)
  refine(qD out v (by omega) hv).use (rest:=[_,_]) (hs.perm (.swap _ _ _)) ?_;clear hs;rintro r post Z ⟨v',rfl,rfl,hv'⟩ hs;refine zz ?_;(repeat clear U K);repeat intro K U
  rw[hm];exact Au hs (.cons₂ _ (Gg _ _)) (.refl _) fun Z' hs'=>⟨_,⟨v',M,rfl,rfl,hv'⟩,hs'⟩
 .obtain⟨n,hnn⟩: ∃n,l'.length=n+1:=⟨l'.length - 1,by omega⟩
  have hne:l'≠[]:=fun e=>hz (by rw[e];rfl)
  obtain⟨i,hi⟩:=Sw hok hne hme;have hil:i<l'.length:=by simpa using List.mem_of_find?_eq_some hi
  obtain⟨x,hx⟩: ∃x,l'[i]? =some x:=⟨_,Cd hil⟩
  rw[hnn,Ho,hi,Option.getD_some,Ee hx]at hm;have c3:=Np l' f' x (by omega);rw[GW hn hx]at c3;have hel:=List.length_eraseIdx_of_lt hil
  conv=>whnf
  repeat'((first|clear U K|apply st|(apply zk;intro K U)|refine zY ?_|(refine zb (fun hc=>?_) (fun hc=>?_)<;>try exact⟨⟩)|fail)<;>conv=>whnf)
  refine(JE 362 [] [.p nn 0,.rp [Tb p L]] (fun M=>[.box nn [.l (iL l') f'],.map L (LZ p M)]) _ _ (Z3 p L nn l' f' hok hgw hfm hme) l' f' M (Hs fun y hy _=>hme y hy)).use (rest:=[.own v 1 (iL out)]) (hs.perm (.cons _ (.swap _ _ _))) ?_;clear hs;rintro r post Z ⟨rfl,rfl⟩ hs;rw[bR,hi];generalize (Bf _ l' 0 M).2=M2 at hs;dsimp only
  conv=>whnf
  repeat'((first|clear U K|apply st|(apply zk;intro K U)|refine zY ?_|refine zs fun Z hs=>?_|refine aq fun v Z hs hsl=>?_|refine zC ?_|fail)<;>conv=>whnf)
  refine⟨(l'.eraseIdx i,true,v,out++[x],M2),by dsimp only;omega,rfl,⟨fun y hy=>hme y (List.mem_of_mem_eraseIdx hy),hn.sublist (List.eraseIdx_sublist _ _),by simp;omega,?_,.inl hsl⟩,hs.perm (.cons _ (.swap _ _ _))⟩;dsimp only;rw[hm,hel,show l'.length - 1=n by omega];simp
end Go.Gl
namespace Go.Gl
open Go.Proofs
structure Zk (p:Prog) (l:List Int):Prop where
 MN: ∀x∈l,Bd p x=true
 gen: ∀x∈l,∀y∈l,(BY p x).gen=(BY p y).gen
 nodup:l.Nodup
 many:l.length<=16
def MY {p:Prog} {l:List Int} {k x:Int} (h:x∈EM p l k):x∈l/\(BY p x).kind=k:=by
 have:=HD.1 h;exact⟨this.1,by simpa using this.2⟩
def oW {p:Prog} {l:List Int} {k:Int}:(EM p l k).length<=l.length:=TZ _ _
def Zk.of {p:Prog} {l:List Int} (h:Zk p l) (k:Int):T6 p (EM p l k)/\(EM p l k).Nodup:=by
 refine⟨⟨fun x hx=>h.MN x (MY hx).1,fun x hx y hy=>?_,Nat.le_trans oW h.many⟩,h.nodup.sublist (List.filter_sublist ..)⟩;rw[Lh,h.gen x (MY hx).1 y (MY hy).1,(MY hx).2,(MY hy).2];simp
def cG.sub {T:List (List Bool)} {l l':List Int} (h:cG T l) (hs: ∀x∈l',x∈l) (hl:l'.length<=l.length):cG T l':=⟨h.len,h.sq,fun x hx=>h.ins x (hs x hx),Nat.le_trans hl h.many⟩
attribute [local irreducible] As Ag AY AQ AL AX AP AR AK AW AM AN Ai Ap Sat AT An AZ W
end Go.Gl
