import Derived.Test.YtnidfcmdimehdaaGreatW14
import Derived.Test.YtnidfcmdimehdaaGreatW15
import Derived.Test.YtnidfcmdimehdaaGreatW16
import Derived.Test.YtnidfcmdimehdaaGreatW17
import Derived.Test.YtnidfcmdimehdaaGreatW20
import Derived.Test.YtnidfcmdimehdaaGreatW22
import Derived.Test.YtnidfcmdimehdaaGreatW25
import Derived.Test.YtnidfcmdimehdaaGreatW26
import Derived.Test.YtnidfcmdimehdaaGreatW27
set_option linter.all false
set_option linter.defProp false
set_option maxHeartbeats 8000000
noncomputable section
namespace Go.Gl
open Go.Proofs
def Uz (A B:List (List Fact)):List (List Fact):=A.flatMap fun x=>B.map fun y=>x++y
def O8 (f:Fact) (l:List (Bool->List (List Fact))) (c:Bool):List (List Fact):=
 if f.op=1 then(if c then []else [[]])else
 if f.op=5 then(l.getD 0 (fun _=>[])) (!c)else
 if f.op=6\/f.op=7 then(if c != (f.op==7)then l.getD 0 (fun _=>[]) c++l.getD 1 (fun _=>[]) c else Uz (l.getD 0 (fun _=>[]) c) (l.getD 1 (fun _=>[]) c))else
 if c then [[EL f]]else [[f]]
def CC (f:Fact):Bool->List (List Fact):=f.Gy O8
def JZ (f:Fact) (c:Bool):CC f c=O8 f (f.kids.map CC) c:=congrFun (Fact.DQ O8 f) c
def Er {A B:List (List Fact)} {l:List Fact}:l∈Uz A B↔ ∃x∈A,∃y∈B,l=x++y:=by
 simp only[Uz,List.mem_flatMap,H8];constructor
 .rintro⟨x,hx,y,hy,rfl⟩
  exact⟨x,hx,y,hy,rfl⟩
 .rintro⟨x,hx,y,hy,rfl⟩
  exact⟨x,hx,y,hy,rfl⟩
def Nn {w:AG} (f:Fact):BM w f=true-> ∀c,∀l∈CC f c,∀x∈l,C6 w x:=by
 induction f using Fact.ind with
 | h f ih=>
   intro h c;have har:=Bs f h;have h':=h;rw[CO,A4,DR]at h';rw[JZ,O8];by_cases h1:f.op=1
   .rw[if_pos h1]
    cases c
    .rw[if_neg (by decide)]
     intro l hl x hx;simp at hl;subst hl;cases hx
    .rw[if_pos rfl]
     intro l hl;cases hl
   rw[if_neg h1];by_cases h5:f.op=5
   .obtain⟨a,ha,hb⟩:=E7 har h5
    rw[if_pos h5,ha];exact ih a (by rw[ha];exact .head _) (h'.2 a (by rw[ha];exact .head _)) (!c)
   rw[if_neg h5];by_cases h6:f.op=6\/f.op=7
   .obtain⟨a,b,ha,hb1,hb2⟩:=E6 har h6
    rw[if_pos h6,ha];have i1:=ih a (by rw[ha];exact .head _) (h'.2 a (by rw[ha];exact .head _)) c;have j1:=ih b (by rw[ha];exact .tail _ (.head _)) (h'.2 b (by rw[ha];exact .tail _ (.head _))) c;simp only[Eg,List.map_nil,List.getD_cons_zero,List.getD_cons_succ];split
    .intro l hl
     rcases Dm.1 hl with hl|hl
     .exact i1 l hl
     .exact j1 l hl
    .intro l hl x hx
     obtain⟨y,hy,z,hz,rfl⟩:=Er.1 hl;rcases Dm.1 hx with h|h
     .exact i1 y hy x h
     .exact j1 z hz x h
   .have hr:=Da f h c
    rw[Eu,Gh,if_neg h1,if_neg h5,if_neg h6]at hr;rw[if_neg h6];exact hr
def QZ (f:Fact):arity f=true-> ∀c,∀l∈CC f c,l.length<=lv f:=by
 induction f using Fact.ind with
 | h f ih=>
   intro h c;rw[JZ,Jq,O8,aJ];by_cases h1:f.op=1
   .have e5: ¬f.op=5:=by omega
    have e6: ¬(f.op=6\/f.op=7):=by omega
    rw[if_pos h1,if_neg e5,if_neg e6];cases c
    .rw[if_neg (by decide)]
     exact fun l hl=>by simp at hl;subst hl;simp
    .rw[if_pos rfl]
     exact fun l hl=>by cases hl
   rw[if_neg h1];by_cases h5:f.op=5
   .obtain⟨a,ha,hb⟩:=E7 h h5
    rw[if_pos h5,if_pos h5,ha];exact ih a (by rw[ha];exact .head _) hb (!c)
   rw[if_neg h5,if_neg h5];by_cases h6:f.op=6\/f.op=7
   .obtain⟨a,b,ha,hb1,hb2⟩:=E6 h h6
    rw[if_pos h6,if_pos h6,ha];simp only[Eg,List.map_nil,List.getD_cons_zero,List.getD_cons_succ];have i2:=ih a (by rw[ha];exact .head _) hb1 c;have j2:=ih b (by rw[ha];exact .tail _ (.head _)) hb2 c;split
    .intro l hl
     rcases Dm.1 hl with hl|hl
     .have:=i2 l hl;omega
     .have:=j2 l hl;omega
    .intro l hl
     obtain⟨x,hx,y,hy,rfl⟩:=Er.1 hl;have:=i2 x hx;have:=j2 y hy;rw[RG];omega
   .rw[if_neg h6,if_neg h6]
    cases c
    .exact fun l hl=>by simp at hl;subst hl;simp
    .exact fun l hl=>by simp at hl;subst hl;simp
def Qa {w : AG} {M:Int->I3} (f:Fact):BM w f=true-> ∀c,(∃l∈CC f c,∀x∈l,Em w M x)↔Sl w M f= !c:=by
 induction f using Fact.ind with
 | h f ih=>
   intro h c;have har:=Bs f h;have h':=h;rw[CO,A4,DR]at h';have hF:=EF (M:=M) f h c;rw[Eu,Gh]at hF;rw[JZ,O8];by_cases h1:f.op=1
   .rw[if_pos h1]at hF ⊢
    exact hF
   rw[if_neg h1]at hF ⊢;by_cases h5:f.op=5
   .obtain⟨a,ha,hb⟩:=E7 har h5
    have i1:=ih a (by rw[ha];exact .head _) (h'.2 a (by rw[ha];exact .head _)) (!c);have k1:=EF (M:=M) a (h'.2 a (by rw[ha];exact .head _)) (!c);rw[if_pos h5,ha]at hF ⊢;exact(i1.trans k1.symm).trans hF
   rw[if_neg h5]at hF ⊢;by_cases h6:f.op=6\/f.op=7
   .obtain⟨a,b,ha,hb1,hb2⟩:=E6 har h6
    have hna:=h'.2 a (by rw[ha];exact .head _);have hnb:=h'.2 b (by rw[ha];exact .tail _ (.head _));have i1:=(ih a (by rw[ha];exact .head _) hna c).trans (EF (M:=M) a hna c).symm;have j1:=(ih b (by rw[ha];exact .tail _ (.head _)) hnb c).trans (EF (M:=M) b hnb c).symm;rw[if_pos h6,ha]at hF ⊢;simp only[Eg,List.map_nil,List.getD_cons_zero,List.getD_cons_succ]at hF ⊢;refine Iff.trans ?_ hF;split
    .constructor
     .rintro⟨l,hl,hx⟩
      rcases Dm.1 hl with hl|hl
      .obtain⟨m,h1,h2⟩:=i1.1 ⟨l,hl,hx⟩
       exact⟨m,NL _ h1,h2⟩
      .obtain⟨m,h1,h2⟩:=j1.1 ⟨l,hl,hx⟩
       exact⟨m,MH _ h1,h2⟩
     .rintro⟨l,hl,hx⟩
      rcases Dm.1 hl with hl|hl
      .obtain⟨m,h1,h2⟩:=i1.2 ⟨l,hl,hx⟩
       exact⟨m,NL _ h1,h2⟩
      .obtain⟨m,h1,h2⟩:=j1.2 ⟨l,hl,hx⟩
       exact⟨m,MH _ h1,h2⟩
    .constructor
     .rintro⟨l,hl,hx⟩
      obtain⟨y,hy,z,hz,rfl⟩:=Er.1 hl;obtain⟨m,h1,h2⟩:=i1.1 ⟨y,hy,fun x h=>hx x (NL _ h)⟩;obtain⟨n,h3,h4⟩:=j1.1 ⟨z,hz,fun x h=>hx x (MH _ h)⟩;refine⟨Cb m n,?_,(Lk m _ n).2 ⟨h2,h4⟩⟩;simp only[FB,List.mem_flatMap,H8];exact⟨m,h1,n,h3,rfl⟩
     .rintro⟨l,hl,hx⟩
      simp only[FB,List.mem_flatMap,H8]at hl;obtain⟨y,hy,z,hz,rfl⟩:=hl;rw[Lk]at hx;obtain⟨m,h1,h2⟩:=i1.2 ⟨y,hy,hx.1⟩;obtain⟨n,h3,h4⟩:=j1.2 ⟨z,hz,hx.2⟩;refine⟨m++n,Er.2 ⟨m,h1,n,h3,rfl⟩,fun x hx=>?_⟩;rcases Dm.1 hx with h|h
      .exact h2 x h
      .exact h4 x h
   .rw[if_neg h6]at hF ⊢
    exact hF
def Nv (tog:List Fact->Bool):List (List (List Fact))->List Fact->Bool
 | [],l=>tog l
 | cs::r,l=>tog l&&cs.any fun c=>Nv tog r (l++c)
def PY {w:AG} {tog:List Fact->Bool} {OK:(Int->I3)->Prop} (htog: ∀l,(∀x∈l,C6 w x)->(tog l=true↔ ∃M,OK M/\ ∀x∈l,Em w M x)): ∀(css:List (List (List Fact))) (l:List Fact),(∀x∈l,C6 w x)->(∀cs∈css,∀c∈cs,∀x∈c,C6 w x)->
    (Nv tog css l=true↔ ∃M,OK M/\(∀x∈l,Em w M x)/\ ∀cs∈css,∃c∈cs,∀x∈c,Em w M x)
 | [],l,hl,_=>by
   rw[Nv,htog l hl];constructor
   .rintro⟨M,h1,h2⟩
    exact⟨M,h1,h2,fun _ h=>by cases h⟩
   .rintro⟨M,h1,h2,_⟩
    exact⟨M,h1,h2⟩
 | cs::r,l,hl,hcs=>by
   have ih:=fun c (hc:c∈cs)=>PY htog r (l++c) (fun x hx=>(Dm.1 hx).elim (hl x) (hcs cs (.head _) c hc x)) (fun d hd=>hcs d (.tail _ hd))
   rw[Nv,A4,GF];constructor
   .rintro⟨_,c,hc,h⟩
    obtain⟨M,h1,h2,h3⟩:=(ih c hc).1 h;refine⟨M,h1,fun x hx=>h2 x (NL _ hx),fun d hd=>?_⟩;rcases FR.1 hd with rfl|hd
    .exact⟨c,hc,fun x hx=>h2 x (MH _ hx)⟩
    .exact h3 d hd
   .rintro⟨M,h1,h2,h3⟩
    obtain⟨c,hc,h4⟩:=h3 cs (.head _);refine⟨(htog l hl).2 ⟨M,h1,h2⟩,c,hc,(ih c hc).2 ⟨M,h1,fun x hx=>(Dm.1 hx).elim (h2 x) (h4 x),fun d hd=>h3 d (.tail _ hd)⟩⟩
def qM (fs:List (Fact×Bool)):List (List (List Fact)):=fs.map fun x=>BO x.1 (!x.2)
def ae (fs:List (Fact×Bool)):List (List (List Fact)):=fs.map fun x=>CC x.1 (!x.2)
def iE {w:AG} {tog:List Fact->Bool} {OK:(Int->I3)->Prop} (htog: ∀l,(∀x∈l,C6 w x)->(tog l=true↔ ∃M,OK M/\ ∀x∈l,Em w M x)) {fs:List (Fact×Bool)} (hn: ∀x∈fs,BM w x.1=true) :
    Nv tog (qM fs) []=true↔ ∃M,OK M/\ ∀x∈fs,Sl w M x.1=x.2:=by
 rw[PY htog (qM fs) [] (fun _ h=>by cases h) (fun cs hcs=>by
  obtain⟨x,hx,rfl⟩:=H8.1 hcs
  exact Da x.1 (hn x hx) _)]
 constructor
 .rintro⟨M,h1,_,h3⟩
  exact⟨M,h1,fun x hx=>by simpa using(EF x.1 (hn x hx) (!x.2)).1 (h3 _ (H8.2 ⟨x,hx,rfl⟩))⟩
 .rintro⟨M,h1,h2⟩
  refine⟨M,h1,(fun _ h=>by cases h),fun cs hcs=>?_⟩;obtain⟨x,hx,rfl⟩:=H8.1 hcs;exact(EF x.1 (hn x hx) (!x.2)).2 (by simpa using h2 x hx)
def iD {w:AG} {tog:List Fact->Bool} {OK:(Int->I3)->Prop} (htog: ∀l,(∀x∈l,C6 w x)->(tog l=true↔ ∃M,OK M/\ ∀x∈l,Em w M x)) {fs:List (Fact×Bool)} (hn: ∀x∈fs,BM w x.1=true) :
    Nv tog (ae fs) []=true↔ ∃M,OK M/\ ∀x∈fs,Sl w M x.1=x.2:=by
 rw[PY htog (ae fs) [] (fun _ h=>by cases h) (fun cs hcs=>by
  obtain⟨x,hx,rfl⟩:=H8.1 hcs
  exact Nn x.1 (hn x hx) _)]
 constructor
 .rintro⟨M,h1,_,h3⟩
  exact⟨M,h1,fun x hx=>by simpa using(Qa x.1 (hn x hx) (!x.2)).1 (h3 _ (H8.2 ⟨x,hx,rfl⟩))⟩
 .rintro⟨M,h1,h2⟩
  refine⟨M,h1,(fun _ h=>by cases h),fun cs hcs=>?_⟩;obtain⟨x,hx,rfl⟩:=H8.1 hcs;exact(Qa x.1 (hn x hx) (!x.2)).2 (by simpa using h2 x hx)
def GW (E:List Bool->Bool):Nat->List Bool->List (List Bool)
 | 0,pre=>if E pre then [pre]else []
 | k+1,pre=>if E pre then GW E k (pre++[false])++GW E k (pre++[true])else []
def H3 {E E':List Bool->Bool} (h: ∀l,E l=E' l): ∀(k:Nat) (pre:List Bool),GW E k pre=GW E' k pre
 | 0,pre=>by rw[GW,GW,h]
 | k+1,pre=>by rw[GW,GW,h,H3 h k,H3 h k]
def Vx {E:List Bool->Bool}: ∀(k:Nat) (pre l:List Bool),l∈GW E k pre->l.length=pre.length+k/\pre <+: l/\E l=true
 | 0,pre,l,h=>by
   rw[GW]at h;split at h
   .rename_i he
    rw[MG]at h;subst h;exact⟨rfl,List.prefix_refl _,he⟩
   .cases h
 | k + 1,pre,l,h=>by
   rw[GW]at h;split at h
   .rcases Dm.1 h with h|h
    all_goals
     obtain⟨h1,h2,h3⟩:=Vx k _ l h;rw[RG,List.length_singleton]at h1;exact⟨by omega,(List.prefix_append _ _).trans h2,h3⟩
   .cases h
def Vw {E:List Bool->Bool} (hE: ∀a b,E (a++b)=true->E a=true): ∀(k:Nat) (pre l:List Bool),l.length=k->E (pre++l)=true->pre++l∈GW E k pre
 | 0,pre,l,hl,h=>by
   obtain rfl:=W7.1 hl;rw[Fj]at h ⊢;rw[GW,if_pos h];exact .head _
 | k+1,pre,[],hl,_=>by cases hl
 | k+1,pre,b::l,hl,h=>by
   rw[GW,if_pos (hE _ _ h)];have e:pre++b::l=pre++[b]++l:=by simp
   rw[e]at h ⊢;have:=Vw hE k (pre++[b]) l (by simpa using hl) h;cases b
   .exact NL _ this
   .exact MH _ this
def Um (tog:List Fact->Bool) (fs:List Fact) (bs:List Bool):Bool:=Nv tog (qM (fs.zip bs)) []
def Cq (tog:List Fact->Bool) (fs:List Fact) (bs:List Bool):Bool:=Nv tog (ae (fs.zip bs)) []
def HN {w:AG} {tog:List Fact->Bool} {OK:(Int->I3)->Prop} (htog: ∀l,(∀x∈l,C6 w x)->(tog l=true↔ ∃M,OK M/\ ∀x∈l,Em w M x)) {fs:List Fact} (hn: ∀f∈fs,BM w f=true) (bs:List Bool) :
    Um tog fs bs=true↔ ∃M,OK M/\ ∀x∈fs.zip bs,Sl w M x.1=x.2:=iE htog fun x hx=>hn x.1 (List.of_mem_zip hx).1
def Ja {w:AG} {tog:List Fact->Bool} {OK:(Int->I3)->Prop} (htog: ∀l,(∀x∈l,C6 w x)->(tog l=true↔ ∃M,OK M/\ ∀x∈l,Em w M x)) {fs:List Fact} (hn: ∀f∈fs,BM w f=true) (bs:List Bool) :
    Cq tog fs bs=true↔ ∃M,OK M/\ ∀x∈fs.zip bs,Sl w M x.1=x.2:=iD htog fun x hx=>hn x.1 (List.of_mem_zip hx).1
def lC {fs:List Fact} {a b:List Bool} {x:Fact×Bool} (h:x∈fs.zip a):x∈fs.zip (a++b):=by
 induction fs generalizing a with
 | nil=>cases h
 | cons f r ih=>
   cases a with
   | nil=>cases h
   | cons c a=>
     rw[List.zip_cons_cons]at h;rw[List.cons_append,List.zip_cons_cons];rcases FR.1 h with rfl|h
     .exact .head _
     .exact .tail _ (ih h)
def jo {w:AG} {tog:List Fact->Bool} {OK:(Int->I3)->Prop} (htog: ∀l,(∀x∈l,C6 w x)->(tog l=true↔ ∃M,OK M/\ ∀x∈l,Em w M x)) {fs:List Fact} (hn: ∀f∈fs,BM w f=true) (a b:List Bool) (h:Um tog fs (a++b)=true):Um tog fs a=true:=by
 obtain⟨M,h1,h2⟩:=(HN htog hn _).1 h;exact(HN htog hn _).2 ⟨M,h1,fun x hx=>h2 x (lC hx)⟩
def ET (ms:List Int) (bs:List Bool):List Int:=((ms.zip bs).filter fun x=>x.2).map fun x=>x.1
def U0 {w:AG} (hw:Nr w) {cs:List Int} (hcs: ∀c∈cs,1<=c/\c<3+(w.parents.length:Int)): ∀l,(∀x∈l,C6 w x)->(Og w cs l=true↔ ∃M,ku w cs M/\ ∀x∈l,Em w M x):=fun l hl=>by
 rw[<-qX hw hcs fun x hx=>Fc (hl x hx)];exact Ir hw fun x hx=>Fc (hl x hx)
def ib {w:AG} {cs:List Int} {M:Int->I3} (h:ku w cs M):ku w [] M:=fun a=>⟨(h a).1,fun h0 h1=>by
 obtain⟨c,k0,_⟩:=(h a).2 h0 h1
 exact⟨c,k0,by rw[Hi,decide_eq_true (by simpa using h0)];rfl⟩⟩
def mG {n:Int}: ∀c∈([]:List Int),1<=c/\c<n:=fun _ h=>by cases h
def jn {w:AG} (hw:Nr w) {fs:List Fact} (hn: ∀f∈fs,BM w f=true) {n:Nat} (hn3:n<=3) (bs:List Bool) (h:Um (Og w []) fs bs=true): ∃cs:List Int,cs.length=n/\(∀c∈cs,1<=c/\c<3+(w.parents.length:Int))/\Um (Og w cs) fs bs=true:=by
 obtain⟨M,h1,h2⟩:=(HN (U0 hw mG) hn bs).1 h;have hc:=fun a=>XW (M a) (h1 a).1
 have hcs: ∀c∈(BT n).map fun a=>((Classical.choose (hc a):Nat):Int),1<=c/\c<3+(w.parents.length:Int):=fun c hm=>by
  obtain⟨a,_,rfl⟩:=H8.1 hm;have:=Classical.choose_spec (hc a);omega
 refine⟨(BT n).map fun a=>((Classical.choose (hc a):Nat):Int),by rw[C4,Hy],hcs,(HN (U0 hw hcs) hn bs).2 ⟨M,fun a=>⟨(h1 a).1,fun h0 h3=>⟨Classical.choose (hc a),(Classical.choose_spec (hc a)).1,?_⟩⟩,h2⟩⟩;rw[Hi,Ek,CT,Cy,C4,Hy];rcases Int.lt_or_le a (n:Int)with hlt|hge
 .right
  have e:(BT n)[a.toNat]? =some a:=by
   rw[BT,Np,List.getElem?_range (by omega),aE];exact congrArg some (by simp;omega)
  rw[Dh,Np,e];rfl
 .exact .inl hge
structure Gro (w w':AG) (ps:List Int):Prop where
 par:w'.parents=w.parents++[ps]
 own:w'.owner=w.owner
section
variable {w w':AG} {ps:List Int}
def Gro.B2 (h:Gro w w' ps) (s:Int):B2 w' s=B2 w s:=by rw[Gl.B2,Gl.B2,h.own]
end
end Go.Gl
namespace Go.Gl
open Go.Proofs
attribute [local irreducible] Ao Ai AY AO AJ AX AN AP AI AW AK AL Ak Au Sat AT Ar Aa W
def kK (p:Prog) (l:List Int) (kd:Bool) (x:Int):Bool:=BX p x&&((Bv p x).gen==(Bv p (l.getD 0 0)).gen&&(!kd||KM p x (l.getD 0 0)))
def FV (p:Prog) (l:List Int) (kd:Bool):Bool:=l.all (kK p l kd)&&decide l.Nodup
def bc {p:Prog} {l:List Int} {kd:Bool} {i:Nat} {x:Int} (hx:l[i]? =some x) (h:kK p l kd x=false):FV p l kd=false:=by
 rw[FV,Bool.and_eq_false_iff];left;rw[<-Bool.not_eq_true,DR];intro h2;rw[h2 x (Dn hx)]at h;cases h
def bb {p:Prog} {l:List Int} {kd:Bool} {i k:Nat} {x:Int} (hx:l[i]? =some x) (hk:l[k]? =some x) (h:k<i):FV p l kd=false:=by
 rw[FV,Bool.and_eq_false_iff];right;rw[decide_eq_false_iff_not];intro h2;have hi:=(Je.1 hx)
 have hj:=(Je.1 hk)
 have:=(List.nodup_iff_pairwise_ne.1 h2)
 rw[List.pairwise_iff_getElem]at this;exact this k i hj.1 hi.1 h (by rw[hj.2,hi.2])
def X9 {l:List Int} {i:Nat} {x:Int} (hx:l[i]? =some x) (h:(l.take i).Nodup) (hn: ∀k y,k<i->l[k]? =some y->y≠x):(l.take (i+1)).Nodup:=by
 rw[An hx,List.nodup_append];refine⟨h,by simp,fun a ha b hb=>?_⟩;rw[MG.1 hb];obtain⟨k,hk⟩:=List.getElem?_of_mem ha;rw[List.getElem?_take]at hk;split at hk
 .exact hn k a (by assumption) hk
 .cases hk
def Pc: ∀(n:Nat) (l:List Int),l.Nodup->(∀x∈l,0<=x/\x<(n:Int))->l.length<=n
 | 0,l,_,h=>by
   cases l with
   | nil=>simp
   | cons x r=>have:=h x (.head _);omega
 | n + 1,l,hn,h=>by
   have h1:=Pc n (l.erase (n:Int)) (hn.erase _) fun x hx=>by
    have hm:=(List.Nodup.mem_erase_iff hn).1 hx;have:=h x hm.2;have:=hm.1;omega
   have h2:=List.length_erase (a:=(n:Int)) (l:=l);split at h2<;>omega
end Go.Gl
namespace Go.Gl
open Go.Proofs
end Go.Gl
namespace Go.Gl
open Go.Proofs
attribute [local irreducible] Ao Ai AY AO AJ AX AN AP AI AW AK AL Ak Au Sat AT Ar Aa W
def mK {p:Prog} (h:(BZ p).isSome=true) {x:N6} (hx:x∈p.methods):(1<=x.kind/\x.kind<=4)/\EC (AM p) x.fact=true/\BM (AM p) x.fact=true/\Il x.fact<=p.Ch.getD x.gen.toNat 0:=by
 have:=(EE h).2 x hx;simp only[XB,A4,CT]at this;have hf:=this.2.2.2.2.1;simp only[EC,A4,CT]at hf;exact⟨⟨this.1,this.2.1⟩,this.2.2.2.2.1,hf.2.2,this.2.2.2.2.2⟩
structure Pl where
 ar:List Int
 dK:Bool
 be:List Int
 pr:List Int
 prt:Bool
 af:List Int
abbrev plV (x:Pl) (g h:Bool):List V:=[.l (iL x.ar) g,.b x.dK,.l (iL x.be) g,.l (iL x.pr) g,.b x.prt,.l (iL x.af) h]
def Dj (p:Prog) (l:List Int) (k:Int):List Int:=l.filter fun m=>(Bv p m).kind==k
def vE:Pl:=⟨[],false,[],[],false,[]⟩
def wN (A:Int->Int->Bool) (p:Prog) (l:List Int):Pl:=
 ⟨(C0 A (Dj p l 4).length (Dj p l 4)).1,(C0 A (Dj p l 4).length (Dj p l 4)).2,GY A (Dj p l 2).length (Jl (Dj p l 2)),(C0 A (Dj p l 1).length (Dj p l 1)).1,(C0 A (Dj p l 1).length (Dj p l 1)).2,(GY A (Dj p l 3).length (Jl (Dj p l 3))).reverse⟩
def K2 (A:Int->Int->Bool) (p:Prog) (l:List Int):Pl×Bool:=if(Dj p l 1).isEmpty then(vE,false)else(wN A p l,true)
def pS (g:FuncId) (fi ca:List V) (q:Ob->Bool):Prop:= ∀v,Pure zP g (fi++[.a (eOb v)]++ca) (.b (q v))
def pS.use {g:FuncId} {fi ca:List V} {q:Ob->Bool} (h:pS g fi ca q) {v:Ob} {Z:AE} {k kp:V->AE->Prop} (hk:k (.b (q v)) Z):Ak zP (.f (.func g) fi ca) [.a (eOb v)] Z (qk k kp):=Ay ((h v).use hk)
def dS (p:Prog) (gen:Int) (k:Nat):List Int:=(BT k).filter fun m=>(Bv p m).gen==gen
def Dv (p:Prog) (gen:Int):List Int:=dS p gen p.methods.length
def jQ (p:Prog) (gen:Int) (k:Nat):dS p gen (k+1)=if(Bv p (k:Int)).gen==gen then dS p gen k++[(k:Int)]else dS p gen k:=by
 rw[dS,Wa,List.filter_append];cases hp:(Bv p (k:Int)).gen==gen<;>simp[dS,hp]
def my (p:Prog) (gen:Int) (k:Nat):(dS p gen k).length<=k:=by
 have:=W9 (fun m=>(Bv p m).gen==gen) (BT k)
 rwa [Hy]at this
def Ze (p:Prog) (gen:Int) (m:Int):(Dv p gen).contains m=(BX p m&&(Bv p m).gen==gen):=by
 rw[Gr,List.contains_iff_mem,Dv,dS,Kv,Ck,A4,BX];simp only[A4,CT]
def mL {p:Prog} {k:Nat} {x:N6} (hx:p.methods[k]? =some x):Bv p (k:Int)=x:=by
 have hlt:=(Je.1 hx).1;have:=Cx (p:=p) (m:=k) (by simp[BX];omega);rw[Hc,hx]at this;exact(Option.some.inj this).symm
def dZ (p:Prog) (gen:Int) (l:List Int) (i:Nat):Bool:=BX p (l.getD i 0)&&((Bv p (l.getD i 0)).gen==gen&& !(decide (0<i)&&decide (l.getD (i - 1) 0≥l.getD i 0)))
def Qv (p:Prog) (gen:Int) (l:List Int):Bool:=(List.range l.length).all (dZ p gen l)
def lR {p:Prog} {gen:Int} {l:List Int} (h: ∀i,i<l.length->dZ p gen l i=true):Qv p gen l=true:=by
 rw[Qv,DR];exact fun i hi=>h i (List.mem_range.1 hi)
def ZA {p:Prog} {gen:Int} {l:List Int} (h:Qv p gen l=true): ∀i (hi:i+1<l.length),l[i]<l[i+1]:=fun i hi=>by
 rw[Qv,DR]at h;have:=h (i+1) (List.mem_range.2 hi);simp only[dZ,A4,Bool.not_eq_true',Bool.and_eq_false_iff,decide_eq_false_iff_not,Nat.add_sub_cancel,Dh,Di hi,Di (show i<l.length by omega),Option.getD_some]at this;omega
def VX {p:Prog} {gen:Int} {l:List Int} (h:Qv p gen l=true): ∀x∈l,BX p x=true/\(Bv p x).gen=gen:=fun x hx=>by
 rw[Qv,DR]at h;obtain⟨i,hi,rfl⟩:=List.mem_iff_getElem.1 hx;have:=h i (List.mem_range.2 hi);simp only[dZ,A4,Dh,Di hi,Option.getD_some,Cy]at this;exact⟨this.1,this.2.1⟩
def Ro {p:Prog} {gen:Int} {l:List Int} (h:Qv p gen l=true):FV p l false=true:=by
 have hm:=VX h;rw[FV,A4,DR,CT];refine⟨fun x hx=>?_,?_⟩
 .have h0:l.getD 0 0∈l:=by
   cases l with
   | nil=>cases hx
   | cons y r=>exact List.mem_cons_self ..
  rw[kK,(hm x hx).1,(hm x hx).2,(hm _ h0).2];simp
 .have hq: ∀(i d:Nat) (hd:i+d+1<l.length),l[i]<l[i+d+1]:=fun i d=>by
   induction d with
   | zero=>exact fun hd=>ZA h i hd
   | succ d ih=>exact fun hd=>Int.lt_trans (ih (by omega)) (ZA h (i+d+1) hd)
  have hp:List.Pairwise (· < ·) l:=List.pairwise_iff_getElem.2 fun i j hi hj hij=>by
   obtain⟨d,rfl⟩: ∃d,j=i+d+1:=⟨j - i - 1,by omega⟩
   exact hq i d hj
  exact hp.imp fun h e=>by omega
def iN {p:Prog} {gen:Int} {l:List Int} (h:Qv p gen l=true):l.length<=p.methods.length:=by
 have h1:=Ro h;rw[FV,A4,CT]at h1;refine Pc p.methods.length l h1.2 fun x hx=>?_
 have:=(VX h x hx).1;simp only[BX,A4,CT]at this;omega
def Dw (p:Prog) (gen:Int):Bool:=(BZ p).isSome&&XK p gen
def yA (x:Pl×Bool):Int:=if x.2 then(if x.1.ar.isEmpty&&(x.1.dK||x.1.pr.isEmpty)then 3 else if x.1.dK||x.1.prt then 2 else 1)else 4
def kI (p:Prog) (l:List Int):Int:=yA (K2 (Aw p) p l)
end Go.Gl
namespace Go.Gl
open Go.Proofs
def Ma (p:Prog) (gen:Int):List Fact:=(Dv p gen).map fun m=>(Bv p m).fact
def G1 (p:Prog) (gen:Int) (tog:List Fact->Bool):List (List Int×Int):=(GW (Um tog (Ma p gen)) (Dv p gen).length []).map fun bs=>(ET (Dv p gen) bs,kI p (ET (Dv p gen) bs))
end Go.Gl
namespace Go.Gl
open Go.Proofs
attribute [local irreducible] Ao Ai AY AO AJ AX AN AP AI AW AK AL Ak Au Sat AT Ar Aa W
def mP (l:List Int) (f kd:Bool):Pure zP 170 [.pn,.l (iL l) f,.b kd] (.b false):=by
 have c1:=rf l f;refine Xj kZ ?_;have hs:=Sn;exact zW
def iS {M:List Int} {x:Int} (h:M.contains x=false):Gu M x=M++[x]:=by
 rw[Gu,if_neg (by rw[h];decide)]
def rR (p : Prog) (L:Nat) (l:List Int) (f kd:Bool) (hl:l.length<=1000):Pure zP 170 [Sh p L,.l (iL l) f,.b kd] (.b (FV p l kd)):=by
 refine Pure.fit (by kernel_rfl) fun hf=>?_
 have hM:=Mx;have c1:=wj p L l f;cases hm:l.all (BX p)<;>rw[hm]at c1
 .have hb:FV p l kd=false:=by
   rw[<-Bool.not_eq_true];intro h;rw[FV,A4,DR]at h;rw[<-Bool.not_eq_true,DR]at hm;refine hm fun x hx=>?_
   have:=h.1 x hx;simp only[kK,A4]at this;exact this.1
  refine Xj kZ ?_;have hs:=Sn
  conv=>whnf
  repeat'((first|clear U K|apply st|(apply zk;intro K U)|refine zY ?_|refine zC ?_|fail)<;>conv=>whnf)
  all_goals exact AS (by rw[hb])
 rw[DR]at hm;refine Xj kZ ?_;have hs:=Sn
 conv=>whnf
 repeat'((first|clear U K|apply st|(apply zk;intro K U)|refine zY ?_|refine zC ?_|refine zo fun nn hnn Z hs=>?_|fail)<;>conv=>whnf)
 clear c1;replace hs:Sat Z [.map nn (Sj [])]:=hs;refine Du l.length (fun i (_:Unit)=>[(17,eI (Bj i))]) (fun i _=>[.map nn (Sj (l.take i))]) (fun i _=>(∀k y,k<i->l[k]? =some y->kK p l kd y=true)/\(l.take i).Nodup) () rfl ⟨fun k y h=>by omega,by simp⟩ hs ?_;clear hs;rintro i - Z hi ⟨ho,hn⟩ hs;rcases BJ l hi with⟨x,hx,hlt⟩|hie
 .have hci : Bj i=i:=Av (by omega)
  obtain⟨z,hz⟩: ∃z,l[0]? =some z:=⟨_,Di (by omega)⟩
  have hz0:=E4 hz;have hmx:=hm x (Dn hx);have hmz:=hm z (Dn hz);have hbad:=fun h=>bc (p:=p) (kd:=kd) hx h
  rw[kK,hz0]at hbad;have hxP:=Cx hmx;have hzP:=Cx hmz;have c2:=oG p L x z hmx hmz;have hxr:=hmx;have hzr:=hmz;simp only[BX,A4,CT]at hxr hzr;cases hcon:(l.take i).contains x
  .have hne : ∀k y,k<i->l[k]? =some y->y≠x:=fun k y h h2 e=>by
    rw[<-Bool.not_eq_true,List.contains_iff_mem]at hcon;exact hcon (Dn (i:=k) (by rw[List.getElem?_take,if_pos h,h2,e]))
   have hnd:=X9 hx hn hne;have hput:=iS hcon;rw[<-An hx]at hput;by_cases hg:(Bv p x).gen=(Bv p z).gen
   .have hoxF:(!kd||KM p x z)=true->kK p l kd x=true:=fun h=>by rw[kK,hz0,hmx,hg,h];simp
    cases hal:KM p x z<;>rw[hal]at c2 hoxF<;>cases kd
    all_goals
     conv=>whnf
     repeat'((first|clear U K|apply st|(apply zk;intro K U)|refine zY ?_|refine c2.use ?_|(refine GO hs 0 rfl rfl (HI _) ?_;rw[Lj,hcon])|(refine GN hs 0 rfl rfl (HI _) fun Z hs=>?_)|(refine zb (fun hc=>?_) (fun hc=>?_)<;>try exact⟨⟩)|fail)<;>conv=>whnf)
    all_goals first
     | exact AS (by rw[hbad (by simp[hal,hg])])
     | (exfalso;simp[hg]at hc;done)
     | (have hox:=hoxF rfl
        refine⟨hlt,(),rfl,⟨fun k' y' h h2=>?_,hnd⟩,?_⟩
        .rcases Nat.lt_or_ge k' i with h'|h'
         .exact ho k' y' h' h2
         .rw[show k'=i by omega,hx]at h2
          rw[<-Option.some.inj h2];exact hox
        .replace hs:Sat Z [.map nn (Cp (eI x) (.b true) (Sj (l.take i)))]:=hs
         rw[ZX,hput]at hs
         exact hs)
   .conv=>whnf
    repeat'((first|clear U K|apply st|(apply zk;intro K U)|refine zY ?_|(refine GO hs 0 rfl rfl (HI _) ?_;rw[Lj,hcon])|(refine zb (fun hc=>?_) (fun hc=>?_)<;>try exact⟨⟩)|fail)<;>conv=>whnf)
    all_goals first
     | exact AS (by rw[hbad (by simp[hg])])
     | (exfalso;have q:(Bv p x).gen=(Bv p z).gen:=(by assumption);exact hg q)
     | (exfalso;simp[hg]at hc;done)
  .obtain⟨k,hk⟩:=List.getElem?_of_mem (List.contains_iff_mem.1 hcon)
   rw[List.getElem?_take]at hk;split at hk
   .conv=>whnf
    repeat'((first|clear U K|apply st|(apply zk;intro K U)|refine zY ?_|(refine GO hs 0 rfl rfl (HI _) ?_;rw[Lj,hcon])|fail)<;>conv=>whnf)
    all_goals exact AS (by rw[bb hx hk (by assumption)])
   .cases hk
 .refine zz ?_;(repeat clear U K);repeat intro K U
  have hall:FV p l kd=true:=by
   rw[FV,A4,DR];refine⟨fun y hy=>?_,decide_eq_true (by rw[hie,List.take_length]at hn;exact hn)⟩;obtain⟨k,hk⟩:=List.getElem?_of_mem hy;exact ho k y (by rw[hie];exact(Je.1 hk).1) hk
  exact AS (by rw[hall])
end Go.Gl
namespace Go.Gl
open Go.Proofs
def uX {Z:AE} {l:List At} {i:Nat} {v:V} {sz:Nat} {es:List (List V)} (hs:Sat Z l) (hi:l[i]? =some (.own v sz es)) (he: ∀e∈es,e.length=sz) {K:V->AE->Prop} (hk: ∀v' Z',Sat Z' (l.set i (.own v' sz es))->((CQ v').isSome=true\/(v'= .l es true/\v= .l es true))->K v' Z'):AN Z sz v none (some (.i .i64 (es.length:Int))) (some (.i .i64 (es.length:Int))) K:=by
 rcases hs.get hi with⟨rfl,_⟩|⟨n,cap,rfl,hn⟩
 .refine⟨he,?_⟩
  simp only[Nt];refine⟨Int.le_refl _,Int.natCast_nonneg _,Int.le_refl _,trivial,?_⟩
  have hset:l.set i (.own (.l es true) sz es)=l:=by
   refine List.ext_getElem? fun j=>?_
   by_cases hj:i=j
   .subst hj
    rw[List.getElem?_set_self (Je.1 hi).1,hi]
   .rw[List.getElem?_set_ne hj]
  have:=hk (.l es true) Z (by rw[hset];exact hs) (.inr ⟨rfl,rfl⟩);simpa using this
 .unfold AN
  simp only[Nt];refine⟨Int.le_refl _,Int.natCast_nonneg _,Int.le_refl _,trivial,trivial,trivial,?_⟩;rw[hn];refine⟨rfl,rfl,rfl,.inr (hk _ _ ?_ (.inl rfl))⟩;refine hs.change hi (fun b hb ha=>FC hb fun m hm=>?_) (fun b hb ha m hm=>?_) (.inr ⟨n,es.length,rfl,Cw _ _ _⟩)
  .rw[CW]
   intro e;subst e;exact ha m rfl hm
  .cases hm
   exact ha _ rfl
attribute [local irreducible] Ao Ai AY AO AJ AX AN AP AI AW AK AL Ak Au Sat AT Ar Aa W
def nq (xs:List Int) (v:V) (hl:xs.length<=As) (hv:(CQ v).isSome=true\/(v= .l [] true/\xs= [])):BK zP 262 [v] [.own v 1 (iL xs)] fun r post=> ∃v',r= .ret v'/\post= [.own v' 1 (iL xs)]/\((CQ v').isSome=true\/(v'= .l [] true/\xs= [])):=by
 intro Z hs;have hg:=ED Dt xs;refine fo kZ ?_;refine zz ?_;(repeat clear U K);repeat intro K U
 refine uX (i:=0) hs rfl hg.1 fun v' Z hs hv'=>?_
 refine zz ?_;(repeat clear U K);repeat intro K U
 refine A0 hs (List.Sublist.refl _) (.refl _) fun Z' hs'=>⟨_,⟨v',rfl,rfl,?_⟩,hs'⟩
 rcases hv' with h|⟨h1,h2⟩
 .exact .inl h
 .rcases hv with h|⟨h3,h4⟩
  .rw[h2]at h;cases h
  .subst h4
   exact .inr ⟨h1,rfl⟩
def U1 (xs ys:List Int) (k:Nat):Prop:=ys.length=xs.length/\ ∀t,t<xs.length->ys[t]? =if t<k\/xs.length - k<=t then xs[xs.length - 1 - t]? else xs[t]?
def ri (xs:List Int):U1 xs xs 0:=⟨rfl,fun t ht=>by rw[if_neg (by omega)]⟩
def jM {xs ys:List Int} {k:Nat} (h:U1 xs ys k) (hk:xs.length<=2*k+1):ys=xs.reverse:=by
 refine List.ext_getElem? fun t=>?_
 rcases Nat.lt_or_ge t xs.length with ht|ht
 .rw[h.2 t ht,List.getElem?_reverse ht]
  split
  .rfl
  .congr 1;omega
 .rw[List.getElem?_eq_none (by rw[h.1];exact ht),List.getElem?_eq_none (by rw[List.length_reverse];exact ht)]
def bu {xs ys:List Int} {k:Nat} {a b:Int} (h:U1 xs ys k) (hk:2*k+1<xs.length) (ha:ys[k]? =some a) (hb:ys[xs.length - 1 - k]? =some b):U1 xs ((ys.set k b).set (xs.length - 1 - k) a) (k+1):=by
 have h1:=h.2 k (by omega);have h2:=h.2 (xs.length - 1 - k) (by omega);rw[if_neg (by omega),ha]at h1;rw[if_neg (by omega),hb]at h2;refine⟨by rw[List.length_set,List.length_set];exact h.1,fun t ht=>?_⟩;have hl:=h.1;by_cases e1:t=xs.length - 1 - k
 .subst e1
  rw[List.getElem?_set_self (by rw[List.length_set];omega),if_pos (by omega),show xs.length - 1 - (xs.length - 1 - k)=k by omega,h1]
 .rw[List.getElem?_set_ne (fun e=>e1 e.symm)]
  by_cases e2:t=k
  .subst e2
   rw[List.getElem?_set_self (by omega),if_pos (by omega),h2]
  .rw[List.getElem?_set_ne (fun e=>e2 e.symm),h.2 t ht]
   by_cases e3:t<k\/xs.length - k<=t
   .rw[if_pos e3,if_pos (by omega)]
   .rw[if_neg e3,if_neg (by omega)]
end Go.Gl
namespace Go.Gl
open Go.Proofs
attribute [local irreducible] Ao Ai AY AO AJ AX AN AP AI AW AK AL Ak Au Sat AT Ar Aa W
def bI (xs:List Int) (v:V) (hl:xs.length<=1000) (hv:(CQ v).isSome=true\/(v= .l [] true/\xs= [])):BK zP 220 [v] [.own v 1 (iL xs)] fun r post=>r= .ret (.t [])/\post= [.own v 1 (iL xs.reverse)]:=by
 intro Z hs;have hM:=Mx;have e0:((iL xs).length:Int)=xs.length:=by simp
 have hw0:IntKind.i64.wrap (((iL xs).length:Int) - 1)=(xs.length:Int) - 1:=by rw[e0,wrap64 (by omega) (by omega)]
 refine tN kZ ?_;refine zz ?_;(repeat clear U K);repeat intro K U
 refine Ft (fun(x:Int×Int×List Int)=>(x.2.1+1).toNat) (fun x=>[(2,eI x.1),(3,eI x.2.1)]) (fun x=>[.own v 1 (iL x.2.2)]) (fun x=> ∃k:Nat,x.1=k/\x.2.1=(xs.length:Int) - 1 - k/\2*k<=xs.length+1/\U1 xs x.2.2 k) (0,IntKind.i64.wrap (((iL xs).length:Int) - 1),xs) rfl ⟨0,rfl,by rw[hw0];simp,by omega,ri xs⟩ hs ?_;clear hs;rintro⟨i,j,ys⟩ Z ⟨k,hi,hj,hk,hh⟩ hs;dsimp only at hi hj hh hs;dsimp only;have hyl:=hh.1;by_cases hij:i<j
 .have hsv:(CQ v).isSome=true:=by
   rcases hv with h|⟨h1,h2⟩
   .exact h
   .rw[h2]at hj;simp at hj;omega
  have hwi:IntKind.i64.wrap (i+1)=i+1:=wrap64 (by omega) (by omega);have hwj:IntKind.i64.wrap (j - 1)=j - 1:=wrap64 (by omega) (by omega);obtain⟨a,ha⟩: ∃a,ys[i.toNat]? =some a:=⟨_,Di (by omega)⟩
  obtain⟨b,hb⟩: ∃b,ys[j.toNat]? =some b:=⟨_,Di (by omega)⟩
  conv=>whnf
  repeat'((first|clear U K|apply st|(apply zk;intro K U)|refine zY ?_|refine zs fun Z hs=>?_|refine oset (fun Z hs=>?_) (h1:=by rw[List.length_set];omega)|(refine zb (fun hc=>?_) (fun hc=>?_)<;>try exact⟨⟩)|fail)<;>conv=>whnf)
  have hik:i.toNat=k:=by omega
  have hjk:j.toNat=xs.length - 1 - k:=by omega
  refine⟨(IntKind.i64.wrap (i+1),IntKind.i64.wrap (j - 1),(ys.set i.toNat b).set j.toNat a),by dsimp only;rw[hwj];omega,rfl,⟨k+1,by dsimp only;rw[hwi];omega,by dsimp only;rw[hwj];omega,by omega,?_⟩,hs⟩;dsimp only;rw[hik]at ha ⊢;rw[hjk]at hb ⊢;exact bu hh (by omega) ha hb
 .have he:=jM hh (by omega)
  conv=>whnf
  repeat'((first|clear U K|apply st|(apply zk;intro K U)|refine zY ?_|(refine zb (fun hc=>?_) (fun hc=>?_)<;>try exact⟨⟩)|fail)<;>conv=>whnf)
  subst he;exact A0 hs (List.Sublist.refl _) (.refl _) fun Z' hs'=>⟨_,⟨rfl,rfl⟩,hs'⟩
def Yf (p:Prog) (L:Nat) (l:List Int) (f:Bool) (hok:ES p) (hgw:Cn (AM p)) (hfm: ∀x∈p.methods,EC (AM p) x.fact=true) (hl:TE p l) (hnd:l.Nodup) (M:List (Int×Int)) :
    BK zP 219 [Sh p L,.l (iL l) f] [.map L (J4 p M)] fun r post=> ∃v M',r= .ret v/\post= [.own v 1 (iL (GY (Aw p) l.length (l.mergeSort Gq))),.map L (J4 p M')]/\((CQ v).isSome=true\/(v= .l [] true/\GY (Aw p) l.length (l.mergeSort Gq)= [])):=by
 intro Z hs;have hM:=Mx;have h16:=hl.many;have hml:(l.mergeSort Gq).length=l.length:=List.length_mergeSort _;have c1:=Re l f;have c2:=Ri l f (by omega);refine ft kZ ?_
 conv=>whnf
 repeat'((first|clear U K|apply st|(apply zk;intro K U)|refine zY ?_|refine zs fun Z hs=>?_|refine zC ?_|refine zo fun nn hnn Z hs=>?_|fail)<;>conv=>whnf)
 clear c1 c2 hnn
 refine Ft (fun(x:List Int×Bool×V×List Int×List (Int×Int))=>x.1.length) (fun x=>[(5,x.2.2.1)]) (fun x=>[.box nn [.l (iL x.1) x.2.1],.own x.2.2.1 1 (iL x.2.2.2.1),.map L (J4 p x.2.2.2.2)])
  (fun x=>(∀y∈x.1,BX p y=true)/\x.1.Nodup/\x.2.2.2.1.length+x.1.length<=16/\GY (Aw p) l.length (l.mergeSort Gq)=x.2.2.2.1++GY (Aw p) x.1.length x.1/\((CQ x.2.2.1).isSome=true\/(x.2.2.1= .l [] true/\x.2.2.2.1= []))) (l.mergeSort Gq,false,.l [] true,[],M) rfl ⟨fun y hy=>hl.K3 y (List.mem_mergeSort.1 hy),(List.mergeSort_perm l Gq).symm.nodup hnd,by simpa[hml]using h16,by simp[hml],.inr ⟨rfl,rfl⟩⟩ ((DN hs 1).perm (.swap _ _ _)) ?_
 clear hs;rintro⟨l',f',v,out,M⟩ Z ⟨hme,hn,hlen,hm,hv⟩ hs;dsimp only at hme hn hlen hm hv hs;dsimp only;have hll:out.length<As/\(out.length+1)*8<=140737488355328:=by omega
 by_cases hz:l'.length=0
 .rw[hz]at hm
  simp only[GY,Fj]at hm
  conv=>whnf
  repeat'((first|clear U K|apply st|(apply zk;intro K U)|refine zY ?_|(refine zb (fun hc=>?_) (fun hc=>?_)<;>try exact⟨⟩)|fail)<;>conv=>whnf)
  refine(nq out v (by omega) hv).use (rest:=[_,_]) (hs.perm (.swap _ _ _)) ?_;clear hs;rintro r post Z ⟨v',rfl,rfl,hv'⟩ hs;refine zz ?_;(repeat clear U K);repeat intro K U
  rw[hm];exact A0 hs (.cons₂ _ (NJ _ _)) (.refl _) fun Z' hs'=>⟨_,⟨v',M,rfl,rfl,hv'⟩,hs'⟩
 .obtain⟨n,hnn⟩: ∃n,l'.length=n+1:=⟨l'.length - 1,by omega⟩
  have hne:l'≠[]:=fun e=>hz (by rw[e];rfl)
  obtain⟨i,hi⟩:=Rz hok hne hme;have hil:i<l'.length:=by simpa using List.mem_of_find?_eq_some hi
  obtain⟨x,hx⟩: ∃x,l'[i]? =some x:=⟨_,Di hil⟩
  rw[hnn,GY,hi,Option.getD_some,E4 hx]at hm;have c3:=Mp l' f' x (by omega);rw[Fh hn hx]at c3;have hel:=List.length_eraseIdx_of_lt hil
  conv=>whnf
  repeat'((first|clear U K|apply st|(apply zk;intro K U)|refine zY ?_|(refine zb (fun hc=>?_) (fun hc=>?_)<;>try exact⟨⟩)|fail)<;>conv=>whnf)
  refine(H7 265 [] [.p nn 0,.rp [Sh p L]] (fun M=>[.box nn [.l (iL l') f'],.map L (J4 p M)]) _ _ (Y7 p L nn l' f' hok hgw hfm hme) l' f' M (Gc fun y hy _=>hme y hy)).use (rest:=[.own v 1 (iL out)]) (hs.perm (.cons _ (.swap _ _ _))) ?_;clear hs;rintro r post Z ⟨rfl,rfl⟩ hs;rw[Zm,hi];generalize (Bd _ l' 0 M).2=M2 at hs;dsimp only
  conv=>whnf
  repeat'((first|clear U K|apply st|(apply zk;intro K U)|refine zY ?_|refine zs fun Z hs=>?_|refine aq fun v Z hs hsl=>?_|refine zC ?_|fail)<;>conv=>whnf)
  refine⟨(l'.eraseIdx i,true,v,out++[x],M2),by dsimp only;omega,rfl,⟨fun y hy=>hme y (List.mem_of_mem_eraseIdx hy),hn.sublist (List.eraseIdx_sublist _ _),by simp;omega,?_,.inl hsl⟩,hs.perm (.cons _ (.swap _ _ _))⟩;dsimp only;rw[hm,hel,show l'.length - 1=n by omega];simp
end Go.Gl
namespace Go.Gl
open Go.Proofs
structure Yr (p:Prog) (l:List Int):Prop where
 K3: ∀x∈l,BX p x=true
 gen: ∀x∈l,∀y∈l,(Bv p x).gen=(Bv p y).gen
 nodup:l.Nodup
 many:l.length<=16
def LF {p:Prog} {l:List Int} {k x:Int} (h:x∈Dj p l k):x∈l/\(Bv p x).kind=k:=by
 have:=Kv.1 h;exact⟨this.1,by simpa using this.2⟩
def mA {p:Prog} {l:List Int} {k:Int}:(Dj p l k).length<=l.length:=W9 _ _
def Yr.of {p:Prog} {l:List Int} (h:Yr p l) (k:Int):TE p (Dj p l k)/\(Dj p l k).Nodup:=by
 refine⟨⟨fun x hx=>h.K3 x (LF hx).1,fun x hx y hy=>?_,Nat.le_trans mA h.many⟩,h.nodup.sublist (List.filter_sublist ..)⟩;rw[KM,h.gen x (LF hx).1 y (LF hy).1,(LF hx).2,(LF hy).2];simp
def aP.sub {T:List (List Bool)} {l l':List Int} (h:aP T l) (hs: ∀x∈l',x∈l) (hl:l'.length<=l.length):aP T l':=⟨h.len,h.sq,fun x hx=>h.ins x (hs x hx),Nat.le_trans hl h.many⟩
attribute [local irreducible] Ao Ai AY AO AJ AX AN AP AI AW AK AL Ak Au Sat AT Ar Aa W
end Go.Gl
