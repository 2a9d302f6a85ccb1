import Derived.Test.YtijbpgdmpejgoaaGreatQ8
import Derived.Test.YtijbpgdmpejgoaaGreatQ11
set_option linter.all false
set_option linter.unusedVariables false
set_option linter.unusedSimpArgs false
namespace Go.Gl
variable {P:Program} {σ:AH} {env:Env}
class Sq (AD:Prop) (G':outParam Prop):Prop where
 h:G'→AD
theorem st {AD G':Prop} [i:Sq AD G'] (h:G'):AD:=i.h h
theorem sq {l:List Nat} {a b:AK} {Q:Ag→Env→AH→Prop} (h: ∀K:Env→AH→Prop,(∀env σ,(pk l env fun E=>W P b Q E σ)→K env σ)→W P a (Ag.andThen K Q) env σ):W P (.seq l a b) Q env σ:=Ar h
class Sti (AD:Prop) (G':outParam Prop):Prop where
 h:G'→AD
theorem si {AD G':Prop} [i:Sti AD G'] (h:G'):AD:=i.h h
instance {ops:List AW} {Q:Ag→Env→AH→Prop}:Sti (W P (.Am ops) Q env σ) (∀(I:Env→AH→Prop) (C:Env→V→AH→Prop),(∀env σ,Q .normal env σ→I env σ)→(∀env v σ,Q (.By v) env σ→C env v σ)→WT P ops I C env σ):=⟨AX⟩
instance {l:List Nat} {ops:List Cg} {Q:Ag→Env→AH→Prop}:Sti (W P (.A9 l ops) Q env σ) (∀(I:Env→AH→Prop) (C:V→AH→Prop),(∀env σ,(pk l env fun E=>Q .normal E σ)→I env σ)→(∀v σ,(∀σ',Sub σ σ'→Q (.By v) [] σ')→C v σ)→WD P ops I C env σ):=⟨JL⟩
instance {c:B1} {a b:AK} {Q:Ag→Env→AH→Prop}:Sq (W P (.cond c a b) Q env σ) (match ev env c with
 | some (.b t)=>(t=true→W P a Q env σ)∧(t=false→W P b Q env σ)
 | _=>False):=⟨Bm⟩
instance {id:Nat} {a:AK} {Q:Ag→Env→AH→Prop}:Sq (W P (.block id a) Q env σ) (W P a (Ag.inBlock id Q) env σ):=⟨BT⟩
instance {l:List Nat} {a:AK} {Q:Ag→Env→AH→Prop}:Sq (W P (.loop l a) Q env σ) (pk l env fun E=>Be l a (W P a) Q E σ):=⟨Cs⟩
instance {id:Nat} {Q:Ag→Env→AH→Prop}:Sq (W P (.exit id) Q env σ) (Q (.exit id) env σ):=⟨Ct⟩
instance {Q:Ag→Env→AH→Prop}:Sq (W P .ret Q env σ) (Q .ret env σ):=⟨DI⟩
instance {Q:Ag→Env→AH→Prop}:Sq (W P .skip Q env σ) (Q .normal env σ):=⟨Bt⟩
instance {a:AK} {Q:Ag→Env→AH→Prop}:Sq (W P (.scope a) Q env σ) (W P a Q env σ):=⟨HT⟩
instance {l:List Nat} {g:B1} {ps:List Nat} {a b:AK} {Q:Ag→Env→AH→Prop}:Sq (W P (.C8 l g ps a b) Q env σ) (match ev env g with
 | some (.f (.func gf) [] cap)=>pk l env fun E=> ∀L,σ L=none→Bj P gf (.f (.yield L) [] []::cap) (BI σ L (.loop .ready E (CQ P ps a b))) (KI L Q env)
 | _=>False):=⟨HU⟩
instance {A B:Prop}:Sq ((true=true→A)∧(true=false→B)) A:=⟨GF⟩
instance {A B:Prop}:Sq ((false=true→A)∧(false=false→B)) B:=⟨Hs⟩
instance {A B:Prop}:Sq ((false=false→A)∧(false=true→B)) A:=⟨Gm⟩
instance {A B:Prop}:Sq ((true=false→A)∧(true=true→B)) B:=⟨Hz⟩
instance {A B:Prop} {b:Bool}:Sq ((b=true→A)∧(b= !true→B)) ((b=true→A)∧(b=false→B)):=⟨id⟩
instance {A B:Prop} {b:Bool}:Sq ((b=false→A)∧(b= !false→B)) ((b=false→A)∧(b=true→B)):=⟨id⟩
instance {agg:Option Nat} {cs:List V} {K:V→Prop}:Sq (A7 σ agg (.rp cs) K) (cut agg cs 0 K):=⟨fun h=>h⟩
instance {es:List (List V)} {f:Bool} {K:V→Prop}:Sq (B8 (.l es f) K) (K (.i .i64 es.length)):=⟨Dx⟩
theorem kc {K A:Env→AH→Prop} (h:A env σ) (hk: ∀env σ,A env σ→K env σ:=by assumption):K env σ:=hk _ _ h
theorem kp {K A:Env→V→AH→Prop} {v:V} (h:A env v σ) (hk: ∀env v σ,A env v σ→K env v σ:=by assumption):K env v σ:=hk _ _ _ h
theorem rk {x:AW} {r:List AW} {A:Prop} (h1:HK P x env σ) (h2:Ea P r env σ∧A):Ea P (x::r) env σ∧A:=⟨⟨h1,h2.1⟩,h2.2⟩
theorem dr {A:Prop} (h:A):Ea P [] env σ∧A:=⟨trivial,h⟩
class BP (b v:Bool) (p:outParam Prop):Prop where
 h:b=v→p
theorem bp {b v:Bool} {p:Prop} [i:BP b v p] (h:b=v):p:=i.h h
instance (priority:=low) {b v:Bool}:BP b v (b=v):=⟨id⟩
instance (priority:=mid) {p:Prop} [Decidable p]:BP (decide p) true p:=⟨of_decide_eq_true⟩
instance (priority:=mid) {p:Prop} [Decidable p]:BP (decide p) false (¬p):=⟨of_decide_eq_false⟩
instance {a b:Int}:BP (decide (a<b)) false (b≤a):=⟨fun h=>Int.not_lt.1 (of_decide_eq_false h)⟩
instance {a b:Int}:BP (decide (a≤b)) false (b<a):=⟨fun h=>Int.not_le.1 (of_decide_eq_false h)⟩
instance {a b:Int}:BP (a==b) true (a=b):=⟨fun h=>by simpa using h⟩
instance {a b:Int}:BP (a==b) false (a≠b):=⟨fun h=>by simpa using h⟩
instance {a b:Int}:BP (a != b) true (a≠b):=⟨fun h=>by simpa using h⟩
instance {a b:Int}:BP (a != b) false (a=b):=⟨fun h=>by simpa using h⟩
instance {b:Bool} {p:Prop} [i:BP b false p]:BP (!b) true p:=⟨fun h=>i.h (by simpa using h)⟩
instance {b:Bool} {p:Prop} [i:BP b true p]:BP (!b) false p:=⟨fun h=>i.h (by simpa using h)⟩
instance {b x v:Bool} {p:Prop} [i:BP b v p]:BP (bif false then x else b) v p:=⟨i.h⟩
instance {b x v:Bool} {p:Prop} [i:BP b v p]:BP (bif true then b else x) v p:=⟨i.h⟩
theorem fc {α:Type} {enc:α→List V} {xs:List α} {k:Nat} {A B:Prop} (h1: ∀x,xs[k]? =some x→k<xs.length→decide (Bw k<((xs.map enc).length:Nat))=true→A) (h2:k=xs.length→decide (Bw k<((xs.map enc).length:Nat))=false→B) (hk:k≤xs.length:=by assumption) (hm:xs.length≤Ak:=by first|assumption|omega|simp[Ak]<;>omega) :
 (decide (Bw k<((xs.map enc).length:Nat))=true→A)∧(decide (Bw k<((xs.map enc).length:Nat))=false→B):=
 ⟨fun h=>(GD (enc:=enc) (A:=A) (B:=True) hk hm (fun x hx hlt=>h1 x hx hlt h) fun _=>trivial).1 h,fun h=>(GD (enc:=enc) (A:=True) (B:=B) hk hm (fun _ _ _=>trivial) fun he=>h2 he h).2 h⟩
theorem ix {α:Type} {enc:α→List V} {xs:List α} {f:Bool} {sz:Nat} {K:V→Prop} {ki:IntKind} {k:Nat} {x:α} (h:K (.rp (enc x))) (hx:xs[k]? =some x:=by assumption) (hm:xs.length≤Ak:=by first|assumption|omega|simp[Ak]<;>omega) (hs:(enc x).length=sz:=by first|rfl|simp) :
 Al sz none (.l (xs.map enc) f) (.i ki (Bw k)) K:=Im hx hm hs h
theorem iq {α:Type} {enc:α→List V} {xs:List α} {f:Bool} {sz:Nat} {K:V→Prop} {ki:IntKind} {j:Int} (h: ∀x,xs[j.toNat]? =some x→K (.rp (enc x))) (h0:0≤j:=by omega) (h1:j<xs.length:=by omega) (hs: ∀x,(enc x).length=sz:=by intro x;first|rfl|simp|(rw[Bp];rfl)) :
 Al sz none (.l (xs.map enc) f) (.i ki j) K:=by
 have hlt:j.toNat<xs.length:=by omega
 exact S6 j.toNat (E4 hlt) (by omega) (hs _) (h _ (E4 hlt))
theorem sk1 {α:Type} {enc:α→List V} {xs:List α} {f:Bool} {sz:Nat} {ki:IntKind} {k:Nat} {K:V→AH→Prop} (h:K (.l ((xs.take k).map enc) (f&&decide ((k:Int)=((xs.map enc).length:Nat)))) σ) (hl:k≤xs.length:=by first|assumption|omega) (hm:xs.length≤Ak:=by first|assumption|omega) (hs: ∀x,(enc x).length=sz:=by intro x;first|rfl|simp|(rw[Bp];rfl)) :
 Ao σ sz (.l (xs.map enc) f) none (some (.i ki (Bw k))) none K:=by
 rw[AU (by omega)];refine⟨fun e he=>?_,?_⟩
 ·obtain⟨x,_,rfl⟩:=Nv.1 he
  exact hs x
 ·simp only[Pb,B2]
  refine⟨by omega,by omega,by omega,?_⟩;rw[Int.toNat_natCast];simpa[List.map_take]using h
theorem Q2 {xs:List Fact} {f:Bool} {K:V→Prop} {ki:IntKind} {k:Nat} {x:Fact} (h:K (.rp (xF x))) (hx:xs[k]? =some x:=by assumption) (hm:xs.length≤Ak:=by first|assumption|omega):Al 6 none (.l (xs.map Ge) f) (.i ki (Bw k)) K:=by
 refine Im hx hm (by rw[Bp];rfl) ?_;rw[Bp];exact h
theorem Q8 {a0:At} {l:List At}:(a0::l)[0]? =some a0:=rfl
theorem Q7 {a0 a1:At} {l:List At}:(a0::a1::l)[1]? =some a1:=rfl
theorem Q6 {a0 a1 a2:At} {l:List At}:(a0::a1::a2::l)[2]? =some a2:=rfl
theorem Q5 {a0 a1 a2 a3:At} {l:List At}:(a0::a1::a2::a3::l)[3]? =some a3:=rfl
theorem Q4 {a0 a1 a2 a3 a4:At} {l:List At}:(a0::a1::a2::a3::a4::l)[4]? =some a4:=rfl
theorem Q3 {a0 a1 a2 a3 a4 a5:At} {l:List At}:(a0::a1::a2::a3::a4::a5::l)[5]? =some a5:=rfl
theorem ld {l:List At} {i n off:Nat} {agg:Option Nat} {vs:List V} {K:V→Prop} (hk:cut agg vs off K) (h:Sat σ l:=by assumption)
 (hi:l[i]? =some (.box n vs):=by first|exact Q8|exact Q7|exact Q6|exact Q5|exact Q4|exact Q3):A7 σ agg (.p n off) K:=Wg h i hi hk
theorem s1 {l:List At} {i n off:Nat} {vs:List V} {x:V} {K:AH→Prop} (hk: ∀σ',Sat σ' (l.set i (.box n (vs.set off x)))→K σ') (h:Sat σ l:=by assumption)
 (hi:l[i]? =some (.box n vs):=by first|exact Q8|exact Q7|exact Q6|exact Q5|exact Q4|exact Q3)
 (h1:Cb x=true:=by first|rfl|exact Ie (by assumption) 0 rfl|exact Ie (by assumption) 1 rfl|exact Ie (by assumption) 2 rfl|exact Ie (by assumption) 3 rfl|simp) (ho:off+1≤vs.length:=by exact Nat.le_of_ble_eq_true rfl):Aq σ 1 (.p n off) x K:=
 K2 h i hi h1 ho hk
theorem sn {l:List At} {i n off sz:Nat} {vs vc:List V} {x:V} {K:AH→Prop} (hk: ∀σ',Sat σ' (l.set i (.box n (putAt vs off vc)))→K σ') (h:Sat σ l:=by assumption)
 (hi:l[i]? =some (.box n vs):=by first|exact Q8|exact Q7|exact Q6|exact Q5|exact Q4|exact Q3)
 (hc:cellsOf x=some vc:=by rfl) (hl:vc.length=sz:=by rfl) (h1:vc.all Cb=true:=by first|rfl|simp) (ho:off+sz≤vs.length:=by exact Nat.le_of_ble_eq_true rfl):Aq σ sz (.p n off) x K:=
 OM h i hi hc hl h1 ho hk
theorem L6:F9 (fun f:Fact=>Ge f) 6:=fun f=>by
 simp only[Bp];refine⟨rfl,fun v hv=>?_⟩;simp only[IF,List.not_mem_nil,or_false]at hv;rcases hv with rfl|rfl|rfl|rfl|rfl|rfl<;>rfl
theorem No:F9 (fun l:List Fact=>[V.l (facts l) false]) 1:=fun x=>⟨rfl,fun v hv=>by simp at hv;subst hv;rfl⟩
theorem al {l:List At} {o:O} {n:Nat} {K:Prop} {σ':AH} (e:BI σ n o=σ') (hk:Sat σ' (l++[.obj n o])→K) (hn:σ n=none:=by assumption) (h:Sat σ l:=by assumption):K:=hk (e ▸ Zk h hn)
theorem oi {l:List At} {i:Nat} {v:V} {sz:Nat} {es:List (List V)} {ki:IntKind} {j:Int} {K:V→Prop} (hk:K (GA v sz j.toNat)) (h:Sat σ l:=by assumption)
 (hi:l[i]? =some (.own v sz es):=by first|exact Q8|exact Q7|exact Q6|exact Q5|exact Q4|exact Q3) (h0:0≤j:=by omega) (h1:j<es.length:=by first|omega|(simp only[B2]at *;omega)):Al sz none v (.i ki j) K:=
 dX h i j.toNat hi (by omega) (by omega) hk
theorem oc {l:List At} {i:Nat} {v:V} {sz k:Nat} {es:List (List V)} {ki:IntKind} {K:V→Prop} (hk:K (GA v sz k)) (h:Sat σ l:=by assumption)
 (hi:l[i]? =some (.own v sz es):=by first|exact Q8|exact Q7|exact Q6|exact Q5|exact Q4|exact Q3) (h1:k<es.length:=by first|omega|(simp only[B2]at *;omega)) (hm:k≤Ak:=by first|omega|(simp only[Ak];omega)):Al sz none v (.i ki (Bw k)) K:=
 dX h i k hi (AU (by omega)) h1 hk
theorem ol {α:Type} {enc:α→List V} {xs:List α} {l:List At} {i:Nat} {v:V} {sz k:Nat} {agg:Option Nat} {K:V→Prop} (hk: ∀x,xs[k]? =some x→cut agg (enc x) 0 K) (h:Sat σ l:=by assumption)
 (hi:l[i]? =some (.own v sz (xs.map enc)):=by first|exact Q8|exact Q7|exact Q6|exact Q5|exact Q4|exact Q3) (h1:k<xs.length:=by first|omega|(simp only[B2]at *;omega)):A7 σ agg (GA v sz k) K:=
 Hv h i hi (by rw[Pu,E4 h1];rfl) (hk _ (E4 h1))
theorem oset {α:Type} {enc:α→List V} {xs:List α} {y:α} {l:List At} {i:Nat} {v x:V} {sz k:Nat} {vc:List V} {K:AH→Prop} (hk: ∀σ',Sat σ' (l.set i (.own v sz ((xs.set k y).map enc)))→K σ') (h:Sat σ l:=by assumption)
 (hi:l[i]? =some (.own v sz (xs.map enc)):=by first|exact Q8|exact Q7|exact Q6|exact Q5|exact Q4|exact Q3) (hc:cellsOf x=some vc:=by rfl) (he:vc=enc y:=by rfl) (hg:F9 enc sz:=by first|exact DC|exact Dg|exact SH|exact L6|exact No)
 (hv:(EW v).isSome=true:=by assumption) (h1:k<xs.length:=by first|omega|(simp only[B2]at *;omega)):Aq σ sz (GA v sz k) x K:=by
 subst he;refine LR h i hi (by rw[Pu,E4 h1];rfl) hc (hg y).1 (IU.2 fun v hv=>(hg y).2 v hv) (hg _).1 hv fun σ' hs=>hk σ' ?_
 rw[List.map_set];exact hs
theorem GM {b sz:Nat} {v:V} {e:List V} {f:Bool} {K:V→AH→Prop} (h:Aa b σ sz v (.l [e] f) fun v' σ'=>(EW v').isSome=true→K v' σ'):Aa b σ sz v (.l [e] f) K:=by
 obtain⟨h1,h2,h3⟩:=h;refine⟨h1,h2,?_⟩;cases v with
 | l es full=>exact⟨h3.1,h3.2.1,fun e=>(by cases e),fun e=>⟨(h3.2.2.2 e).1,fun n cap hn hc=>(h3.2.2.2 e).2 n cap hn hc rfl⟩⟩
 | sl n len cap=>
   simp only at h3 ⊢;split at h3
   ·exact⟨h3.1,h3.2.1,h3.2.2.1,h3.2.2.2.1,fun n' cap' hn hc=>h3.2.2.2.2 n' cap' hn hc rfl⟩
   ·exact h3.elim
 | _=>exact h3.elim
theorem aq {l:List At} {i:Nat} {α:Type} {enc:α→List V} {sz:Nat} {xs:List α} {x:α} {v:V} {f:Bool} {e:List V} {K:V→AH→Prop} (hk: ∀v' σ',Sat σ' (l.set i (.own v' sz ((xs++[x]).map enc)))→(EW v').isSome=true→K v' σ') (h:Sat σ l:=by assumption)
 (hi:l[i]? =some (.own v sz (xs.map enc)):=by first|exact Q8|exact Q7|exact Q6|exact Q5|exact Q4|exact Q3)
 (he:e=enc x:=by rfl) (hg:F9 enc sz:=by first|exact DC|exact Dg|exact SH|exact L6|exact No)
 {b:Nat} (hl:xs.length<Ak∧(xs.length+1)*b≤140737488355328:=by first|assumption|omega|(simp only[Sl,B2,NW,List.length_nil,PZ,zqZ,List.length_replicate,Ak]at *;omega)):Aa b σ sz v (.l [e] f) K:=
 GM (Fs h i hi hl hg hk he)
end Go.Gl
namespace Go.Gl
open Go.Proofs
attribute [local irreducible] Bj Bf Ba Al Aa BS Ao Aq Ac BO Ah Ap Bz CA Sat A7 B8 Be W
theorem TG {w:AP} (h:E3 (.a (BQ w))):w.parents.length≤Ak∧(∀l∈w.parents,l.length≤Ak)∧w.owner.length≤Ak:=by
 simp only[BQ,G0,Dm,Gz,I2,B2]at h;exact⟨h.1.1,fun l hl=>(h.1.2 l hl).1.1,h.2.1.1⟩
theorem Ks {xs:List Int} {g:Bool} (h:E3 (.l (iL xs) g)):xs.length≤Ak:=by
 simp only[Gz,B2]at h;exact h.1
theorem Jp {f:Fact} (h:E3 (.a (xF f))):f.kids.length≤Ak∧f.path.length≤Ak∧ ∀k∈f.kids,E3 (.a (xF k)):=by
 simp only[G0,Dm,Gz,I2,B2]at h;exact⟨h.2.2.2.2.2.1.1,h.2.2.1.1,fun k hk=>by have:=h.2.2.2.2.2.1.2 k hk;rw[Bp]at this;exact this⟩
def Ph (w:AP) (c:Int):Bool:=decide (0≤c)&&decide (c<3+w.parents.length)
theorem cz (w:AP) (c:Int):Pure Tryz.prog 157 [.a (BQ w),eI c] (.b (Ph w c)):=by
 refine Pure.fit (by kernel_rfl) fun hf=>?_
 have⟨h1,h2,h3⟩:=TG hf.1;have hM:=Mx;refine wh nb ?_
 conv=>whnf
 repeat'((first|refine st ?_|(refine sq ?_;intro K U)|(refine si ?_;intro A B Y Z)|(refine Y _ _ ?_;clear Z B Y A)|(refine U _ _ ?_;clear U K)|refine⟨rfl,?_⟩|(constructor<;>intro hc<;>(try rw[hc])<;>(replace hc:=bp hc))|fail)<;>conv=>whnf)
 ·exact AM (by rw[B2,wrap64 (by omega) (by omega)];simp[Ph,hc])
 ·exact AM (by simp[Ph,hc];intros;omega)
def Iq (w:AP) (s:Int):Bool:=decide (0≤s)&&decide (s<w.owner.length)
def FU (w:AP) (p:List Int):Bool:=p.all (Iq w)&&decide (p.length≤2)
theorem ez (w:AP) (p:List Int) (g:Bool):Pure Tryz.prog 158 [.a (BQ w),.l (iL p) g] (.b (FU w p)):=by
 refine Pure.fit (by kernel_rfl) fun hf=>?_
 have⟨h1,h2,h3⟩:=TG hf.1;have h4:=Ks hf.2.1;have hM:=Mx;refine wg nb ?_
 conv=>whnf
 repeat'((first|refine st ?_|(refine sq ?_;intro K U)|(refine si ?_;intro A B Y Z)|(refine Y _ _ ?_;clear Z B Y A)|(refine U _ _ ?_;clear U K)|fail)<;>conv=>whnf)
 refine C5 p.length (fun k (_:Unit)=>[(9,eI (Bw k))]) (fun _ _=>[]) (fun k _=>p.all (Iq w)=(p.drop k).all (Iq w)) () rfl rfl Sat.nil ?_;rintro k - σ hk hn hs
 conv=>whnf
 repeat'((first|refine st ?_|(refine sq ?_;intro K U)|(refine si ?_;intro A B Y Z)|(refine Y _ _ ?_;clear Z B Y A)|(refine U _ _ ?_;clear U K)|refine⟨rfl,?_⟩|refine ix ?_|(refine fc (fun x hx hlt hc=>?_) (fun hk hc=>?_)<;>(try rw[hc])<;>clear hc)|(constructor<;>intro hc<;>(try rw[hc])<;>(replace hc:=bp hc)<;>(try simp(disch:=omega) only[B2,wrap64,AU]at hc))|clear U K)<;>conv=>whnf)
 ·exact AM (by rw[FU,hn,drop_cons hx];simp[Iq,hc];intros;omega)
 ·exact⟨hlt,(),rfl,by rw[hn,drop_cons hx];simp[Iq, *],hs⟩
 ·exact AM (by rw[FU,hn,drop_cons hx];simp[Iq,hc];intros;omega)
 ·exact AM (by rw[FU,hn,Ax hk];simp;omega)
def CS (f:Fact):Bool:=f.op==2||f.op==3||f.op==4
theorem XG (f:Fact):Pure Tryz.prog 129 [.a (xF f)] (.b (CS f)):=by
 refine xH nb ?_
 conv=>whnf
 repeat'((first|refine st ?_|(refine sq ?_;intro K U)|(refine si ?_;intro A B Y Z)|(refine Y _ _ ?_;clear Z B Y A)|(refine U _ _ ?_;clear U K)|refine⟨rfl,?_⟩|(constructor<;>intro hc<;>(try rw[hc])<;>(replace hc:=bp hc))|fail)<;>conv=>whnf)
 all_goals exact AM (by simp[CS, *])
def Dq:List (Int→Int)→Int→Int→Int
 | [],n,_=>n
 | k::r,n,most=>if n≤most then Dq r (n+k (most - n)) most else n
def Ck (f:Fact):Int→Int:=f.IZ fun _ l most=>Dq l 1 most
theorem JR (f:Fact) (most:Int):Ck f most=Dq (f.kids.map Ck) 1 most:=by
 rw[Ck,Fact.EU];rfl
theorem O9 {most:Int}: ∀(l:List (Int→Int)) (n:Int),(∀g∈l,∀m,0≤m→1≤g m∧g m≤m+1)→1≤n→n≤most+1→1≤Dq l n most∧Dq l n most≤most+1
 | [],n,_,h1,h2=>⟨h1,h2⟩
 | g ::r,n,h,h1,h2=>by
   rw[Dq];split
   ·have:=h g (List.mem_cons_self ..) (most - n) (by omega)
    exact O9 r _ (fun g hg=>h g (List.mem_cons_of_mem _ hg)) (by omega) (by omega)
   ·exact⟨h1,h2⟩
theorem KX (f:Fact): ∀m,0≤m→1≤Ck f m∧Ck f m≤m+1:=by
 induction f using Fact.ind with
 | h f ih=>
   intro m hm;rw[JR];refine O9 _ _ (fun g hg=>?_) (by omega) (by omega);obtain⟨k,hk,rfl⟩:=Nv.1 hg;exact ih k hk
theorem b7 (f:Fact): ∀most:Int,0≤most→most≤1000→Pure Tryz.prog 156 [.a (xF f),eI most] (eI (Ck f most)):=by
 induction f using Fact.ind with
 | h f ih=>
   intro most h0 h1;refine Pure.fit (by kernel_rfl) fun hf=>?_
   have⟨h2,h3,h4⟩:=Jp hf.1;have hM:=Mx;refine wi nb ?_
   conv=>whnf
   repeat'((first|refine st ?_|(refine sq ?_;intro K U)|(refine si ?_;intro A B Y Z)|(refine Y _ _ ?_;clear Z B Y A)|(refine U _ _ ?_;clear U K)|fail)<;>conv=>whnf)
   refine C5 f.kids.length (fun k (n:Int)=>[(5,eI n),(6,eI (Bw k))]) (fun _ _=>[]) (fun k n=>1≤n∧n≤most+1∧Ck f most=Dq ((f.kids.drop k).map Ck) n most) 1 rfl ⟨by omega,by omega,by rw[List.drop_zero];exact JR f most⟩ Sat.nil ?_;rintro k n σ hk ⟨hn1,hn2,hn⟩ hs
   conv=>whnf
   repeat'((first|refine st ?_|(refine sq ?_;intro K U)|(refine si ?_;intro A B Y Z)|(refine Y _ _ ?_;clear Z B Y A)|(refine U _ _ ?_;clear U K)|refine⟨rfl,?_⟩|refine⟨nb,?_⟩|refine Q2 ?_|(refine fc (fun x hx hlt hc=>?_) (fun hk hc=>?_)<;>(try rw[hc])<;>clear hc)|(constructor<;>intro hc<;>(try rw[hc])<;>(replace hc:=bp hc))|clear U K)<;>conv=>whnf)
   ·rw[wrap64 (by omega) (by omega)]
    have hb:=KX x (most - n) (by omega);refine(ih x (DL hx) (most - n) (by omega) (by omega)).use ?_
    conv=>whnf
    repeat'((first|(refine si ?_;intro A B Y Z)|(refine Y _ _ ?_;clear Z B Y A)|(refine U _ _ ?_;clear U K)|refine⟨rfl,?_⟩|clear U K)<;>conv=>whnf)
    rw[wrap64 (by omega) (by omega)];exact⟨hlt,_,rfl,⟨by omega,by omega,by rw[hn,drop_cons hx,List.map_cons,Dq,if_pos hc]⟩,hs⟩
   ·exact AM (by rw[hn,drop_cons hx,List.map_cons,Dq,if_neg (by omega)])
   ·exact AM (by rw[hn,Ax hk];rfl)
theorem cA (f:Fact):Pure Tryz.prog 126 [.a (xF f)] (eI (Ck f 24)):=by
 refine xK nb ?_
 conv=>whnf
 repeat'((first|refine st ?_|(refine sq ?_;intro K U)|(refine si ?_;intro A B Y Z)|(refine Y _ _ ?_;clear Z B Y A)|(refine U _ _ ?_;clear U K)|refine⟨nb,?_⟩|fail)<;>conv=>whnf)
 refine(b7 f 24 (by omega) (by omega)).use ?_
 conv=>whnf
 repeat'((first|refine st ?_|(refine Y _ _ ?_;clear Z B Y A)|(refine U _ _ ?_;clear U K)|fail)<;>conv=>whnf)
 exact AM rfl
def Lr (f:Fact):Nat:=f.IZ fun _ l=>1+l.sum
theorem KE (f:Fact):Lr f=1+(f.kids.map Lr).sum:=Fact.EU _ f
theorem Xd {f k:Fact} (h:k∈f.kids):Lr k<Lr f:=by
 have: ∀l:List Fact,k∈l→Lr k≤(l.map Lr).sum:=fun l=>by
  induction l with
  | nil=>intro h;cases h
  | cons x r ih=>
    intro h;simp only[List.map_cons,List.sum_cons];rcases IF.1 h with rfl|h
    ·omega
    ·have:=ih h;omega
 have:=this _ h;rw[KE f];omega
theorem O8 {most:Int}: ∀(l:List Fact) (n:Int),(∀k∈l,∀m,0≤m→Ck k m≤m→Ck k m=Lr k)→0≤n→Dq (l.map Ck) n most≤most→Dq (l.map Ck) n most=n+(l.map Lr).sum
 | [],n,_,_,_=>by simp[Dq]
 | k :: r, n,h,h0,h1=>by
   simp only[List.map_cons,Dq]at *;split at h1
   ·rename_i hc
    rw[if_pos hc];have hb:=KX k (most - n) (by omega)
    have hge: ∀(l:List Fact) (a:Int),a≤Dq (l.map Ck) a most:=fun l=>by
     induction l with
     | nil=>intro a;exact Int.le_refl _
     | cons y l ih=>
       intro a;simp only[List.map_cons,Dq];split
       ·have:=KX y (most - a) (by omega)
        have:=ih (a+Ck y (most - a));omega
       ·exact Int.le_refl _
    have h2:=hge r (n+Ck k (most - n));have h3:=h k (List.mem_cons_self ..) (most - n) (by omega) (by omega);have h4:=O8 r (n+Ck k (most - n)) (fun k' hk'=>h k' (List.mem_cons_of_mem _ hk')) (by omega) h1;simp only[List.sum_cons];omega
   ·rename_i hc
    omega
theorem KW (f:Fact): ∀m,0≤m→Ck f m≤m→Ck f m=Lr f:=by
 induction f using Fact.ind with
 | h f ih=>
   intro m h0 h1;rw[JR]at *;rw[O8 f.kids 1 ih (by omega) h1,KE];omega
def Jc (a b:Int):Int:=if a<b then b else a
def EL (f:Fact):Int:=f.IZ fun _ l=>l.foldl Jc 0+1
theorem Hd (f:Fact):EL f=(f.kids.map EL).foldl Jc 0+1:=Fact.EU _ f
theorem Jw {m:Int}: ∀(l:List Int) (a:Int),(∀x∈l,x≤m)→a≤m→l.foldl Jc a≤m
 | [],_,_,h=>h
 | x::r,a,h,h'=>by
   refine Jw r _ (fun y hy=>h y (List.mem_cons_of_mem _ hy)) ?_;have:=h x (List.mem_cons_self ..);unfold Jc;split<;>omega
theorem Ju: ∀(l:List Int) (a:Int),a≤l.foldl Jc a
 | [],_=>Int.le_refl _
 | x::r,a=>by
   refine Int.le_trans ?_ (Ju r _);unfold Jc;split<;>omega
theorem WK (f:Fact):1≤EL f∧EL f≤Lr f:=by
 induction f using Fact.ind with
 | h f ih=>
   rw[Hd];have h1:=Ju (f.kids.map EL) 0
   have h2:(f.kids.map EL).foldl Jc 0≤(Lr f:Int) - 1:=by
    refine Jw _ _ (fun x hx=>?_) (by have:=KE f;omega);obtain⟨k,hk,rfl⟩:=Nv.1 hx;have:=(ih k hk).2;have:=Xd hk;omega
   omega
theorem GK {α:Type} {xs:List α} {k:Nat} {x:α} {β:Type} (g:α→β) (h:β→β→β) (a:β) (hx:xs[k]? =some x):((xs.take (k+1)).map g).foldl h a=h (((xs.take k).map g).foldl h a) (g x):=by
 rw[AR hx,List.map_append,List.foldl_append];rfl
theorem cq (f:Fact):Lr f≤Ak→Pure Tryz.prog 127 [.a (xF f)] (eI (EL f)):=by
 induction f using Fact.ind with
 | h f ih=>
   intro hc;refine Pure.fit (by kernel_rfl) fun hf=>?_
   have⟨h2,h3,h4⟩:=Jp hf.1;have hM:=Mx;refine xJ nb ?_
   conv=>whnf
   repeat'((first|refine st ?_|(refine sq ?_;intro K U)|(refine si ?_;intro A B Y Z)|(refine Y _ _ ?_;clear Z B Y A)|(refine U _ _ ?_;clear U K)|fail)<;>conv=>whnf)
   refine C5 f.kids.length (fun k (_:Unit)=>[(3,eI (((f.kids.take k).map EL).foldl Jc 0)),(9,eI (Bw k))]) (fun _ _=>[]) (fun _ _=>True) () rfl trivial Sat.nil ?_;rintro k - σ hk - hs
   conv=>whnf
   repeat'((first|refine st ?_|(refine sq ?_;intro K U)|(refine si ?_;intro A B Y Z)|(refine Y _ _ ?_;clear Z B Y A)|(refine U _ _ ?_;clear U K)|refine⟨rfl,?_⟩|refine⟨nb,?_⟩|refine Q2 ?_|refine ld ?_|refine sn fun σ hs=>?_|(refine fc (fun x hx hlt hc=>?_) (fun hk hc=>?_)<;>(try rw[hc])<;>clear hc)|(intro nn hnn;generalize hg:BI _ nn _=σ;refine al hg fun hs=>?_;clear hg)|clear U K)<;>conv=>whnf)
   ·refine(ih x (DL hx) (by have:=Xd (DL hx);omega)).use ?_
    conv=>whnf
    repeat'((first|(refine si ?_;intro A B Y Z)|(refine Y _ _ ?_;clear Z B Y A)|(refine U _ _ ?_;clear U K)|refine⟨rfl,?_⟩|clear U K)<;>conv=>whnf)
    exact⟨hlt,(),by rw[GK _ _ _ hx];rfl,trivial,Sat.nil⟩
   ·have:=WK f
    rw[Hd]at this;exact AM (by rw[A5 hk,wrap64 (by omega) (by omega),←Hd])
def Gw (f:Fact):Int:=f.IZ fun f l=>l.foldl Jc (if CS f then f.arg+1 else 0)
theorem JP (f:Fact):Gw f=(f.kids.map Gw).foldl Jc (if CS f then f.arg+1 else 0):=Fact.EU _ f
def P3 (f:Fact):Bool:=f.IZ fun f l=>decide (0≤f.arg)&&decide (f.arg<3)&&l.all id
theorem On (f:Fact):P3 f=(decide (0≤f.arg)&&decide (f.arg<3)&&(f.kids.map P3).all id):=Fact.EU _ f
theorem bj (f:Fact):P3 f=true→Pure Tryz.prog 95 [.a (xF f)] (eI (Gw f)):=by
 induction f using Fact.ind with
 | h f ih=>
   intro ha;refine Pure.fit (by kernel_rfl) fun hf=>?_
   have⟨h2,h3,h4⟩:=Jp hf.1;have hM:=Mx;rw[On]at ha;simp only[Bn,D8,List.all_map,IU]at ha;refine zp nb ?_
   conv=>whnf
   repeat'((first|refine st ?_|(refine sq ?_;intro K U)|(refine si ?_;intro A B Y Z)|(refine Y _ _ ?_;clear Z B Y A)|(refine U _ _ ?_;clear U K)|refine⟨nb,?_⟩|fail)<;>conv=>whnf)
   refine(XG f).use ?_
   conv=>whnf
   repeat'((first|refine st ?_|(refine sq ?_;intro K U)|(refine si ?_;intro A B Y Z)|(refine Y _ _ ?_;clear Z B Y A)|(refine U _ _ ?_;clear U K)|refine⟨rfl,?_⟩|(constructor<;>intro hc<;>(try rw[hc])<;>(replace hc:=bp hc))|fail)<;>conv=>whnf)
   ·refine C5 f.kids.length (fun k (_:Unit)=>[(3,eI (((f.kids.take k).map Gw).foldl Jc (if CS f then f.arg+1 else 0))),(14,eI (Bw k))]) (fun _ _=>[]) (fun _ _=>True) () (by rw[wrap64 (by omega) (by omega),if_pos hc];rfl) trivial Sat.nil ?_
    rintro k - σ hk - hs
    conv=>whnf
    repeat'((first|refine st ?_|(refine sq ?_;intro K U)|(refine si ?_;intro A B Y Z)|(refine Y _ _ ?_;clear Z B Y A)|(refine U _ _ ?_;clear U K)|refine⟨rfl,?_⟩|refine⟨nb,?_⟩|refine Q2 ?_|refine ld ?_|refine sn fun σ hs=>?_|(refine fc (fun x hx hlt hc=>?_) (fun hk hc=>?_)<;>(try rw[hc])<;>clear hc)|(intro nn hnn;generalize hg:BI _ nn _=σ;refine al hg fun hs=>?_;clear hg)|clear U K)<;>conv=>whnf)
    ·refine(ih x (DL hx) (ha.2 x (DL hx))).use ?_
     conv=>whnf
     repeat'((first|(refine si ?_;intro A B Y Z)|(refine Y _ _ ?_;clear Z B Y A)|(refine U _ _ ?_;clear U K)|refine⟨rfl,?_⟩|clear U K)<;>conv=>whnf)
     exact⟨hlt,(),by rw[GK _ _ _ hx];rfl,trivial,Sat.nil⟩
    ·exact AM (by rw[A5 hk,←JP])
   ·refine C5 f.kids.length (fun k (_:Unit)=>[(3,eI (((f.kids.take k).map Gw).foldl Jc (if CS f then f.arg+1 else 0))),(14,eI (Bw k))]) (fun _ _=>[]) (fun _ _=>True) () (by rw[if_neg (c:=CS f=true) (by simp[hc])];rfl) trivial Sat.nil ?_
    rintro k - σ hk - hs
    conv=>whnf
    repeat'((first|refine st ?_|(refine sq ?_;intro K U)|(refine si ?_;intro A B Y Z)|(refine Y _ _ ?_;clear Z B Y A)|(refine U _ _ ?_;clear U K)|refine⟨rfl,?_⟩|refine⟨nb,?_⟩|refine Q2 ?_|refine ld ?_|refine sn fun σ hs=>?_|(refine fc (fun x hx hlt hc=>?_) (fun hk hc=>?_)<;>(try rw[hc])<;>clear hc)|(intro nn hnn;generalize hg:BI _ nn _=σ;refine al hg fun hs=>?_;clear hg)|clear U K)<;>conv=>whnf)
    ·refine(ih x (DL hx) (ha.2 x (DL hx))).use ?_
     conv=>whnf
     repeat'((first|(refine si ?_;intro A B Y Z)|(refine Y _ _ ?_;clear Z B Y A)|(refine U _ _ ?_;clear U K)|refine⟨rfl,?_⟩|clear U K)<;>conv=>whnf)
     exact⟨hlt,(),by rw[GK _ _ _ hx];rfl,trivial,Sat.nil⟩
    ·exact AM (by rw[A5 hk,←JP])
def Cl (op:Int):Nat:=if op=5 then 1 else if op=6∨op=7 then 2 else 0
def U3 (w:AP) (f:Fact):Bool:=
 if f.op=2 then f.n==0&&Ph w f.cls else if f.op=3∨f.op=4 then f.cls==0&&(decide (-1000000000≤f.n)&&decide (f.n≤1000000000))else f.op==1||f.op==5||f.op==6||f.op==7
def Da (w:AP) (f:Fact):Bool:=
 U3 w f&&(f.kids.length==Cl f.op&&(decide (0≤f.arg)&&(decide (f.arg<3)&&(FU w f.path&&(CS f||(f.arg==0&&(f.path.length==0&&(f.cls==0&&f.n==0))))))))
def CZ (w:AP) (f:Fact):Bool:=f.IZ fun f l=>Da w f&&l.all id
theorem Df (w:AP) (f:Fact):CZ w f=(Da w f&&f.kids.all (CZ w)):=by rw[CZ,Fact.EU,List.all_map];rfl
theorem Oa {w:AP} {f:Fact} (h:Da w f=false):CZ w f=false:=by rw[Df,h,Bool.false_and]
theorem AAK {f:Fact} (h1:CS f=false) (h2:f.arg=0) (h3:(f.path.length:Int) > 0):true= !(CS f||(f.arg==0&&(f.path.length==0&&(f.cls==0&&f.n==0)))):=by
 have:(f.path.length==0)=false:=by simp;intro e;rw[e]at h3;simp at h3
 rw[this,h1,h2];rfl
theorem fL (w : AP) (f:Fact):Pure Tryz.prog 128 [.a (BQ w),.a (xF f)] (.b (CZ w f)):=by
 induction f using Fact.ind with
 | h f ih=>
   refine Pure.fit (by kernel_rfl) fun hf=>?_
   have⟨h2,h3,h4⟩:=Jp hf.2.1;have⟨w1,w2,w3⟩:=TG hf.1;have hM:=Mx;refine xI nb ?_
   conv=>whnf
   repeat'((first|refine st ?_|(refine sq ?_;intro K U)|(refine si ?_;intro A B Y Z)|(refine Y _ _ ?_;clear Z B Y A)|(refine U _ _ ?_;clear U K)|refine⟨rfl,?_⟩|fail)<;>conv=>whnf)
   have hJ :=P0 U (fun(_:Unit)=>[(5,eI (Cl f.op))]) (fun _=>[]) (fun _=>U3 w f=true) [(2,.rp (BQ w)),(3,.rp (xF f)),(5,eI 0)] (by
    clear U;rintro - σ ho -
    conv=>whnf
    repeat'((first|refine st ?_|(refine sq ?_;intro K U)|(refine si ?_;intro A B Y Z)|refine⟨rfl,?_⟩|fail)<;>conv=>whnf)
    have hJ :=P0 U (fun(b:Bool)=>[(66,.b b)]) (fun _=>[]) (fun b=>b= !(f.kids.length==Cl f.op&&(decide (0≤f.arg)&&(decide (f.arg<3)&&FU w f.path)))) [(2,.rp (BQ w)),(3,.rp (xF f)),(66,.b false)] (by
     clear U;rintro b σ hb -
     conv=>whnf
     repeat'((first|refine st ?_|fail)<;>conv=>whnf)
     have hJ :=P0 U (fun(_:Unit)=>[]) (fun _=>[]) (fun _=>b=false) [(2,.rp (BQ w)),(3,.rp (xF f))] (by
      clear U;rintro - σ hb' -;rw[hb']at hb
      conv=>whnf
      repeat'((first|refine st ?_|(refine sq ?_;intro K U)|(refine si ?_;intro A B Y Z)|refine⟨nb,?_⟩|refine Pure.use (XG _) ?_|fail)<;>conv=>whnf)
      have hJ:=P0 U (fun(b:Bool)=>[(90,.b b)]) (fun _=>[]) (fun b=>b= !(CS f||(f.arg==0&&(f.path.length==0&&(f.cls==0&&f.n==0))))) [(2,.rp (BQ w)),(3,.rp (xF f)),(90,.b false)] (by
       clear U;rintro b σ hb2 -
       conv=>whnf
       repeat'((first|refine st ?_|fail)<;>conv=>whnf)
       have hJ:=P0 U (fun(_:Unit)=>[]) (fun _=>[]) (fun _=>b=false) [(2,.rp (BQ w)),(3,.rp (xF f))] (by
        clear U;rintro - σ hb' -;rw[hb']at hb2
        have hh:Da w f=true:=by
         have hb:(f.kids.length==Cl f.op&&(decide (0≤f.arg)&&(decide (f.arg<3)&&FU w f.path)))=true:=by rw[←Bool.not_eq_false',←hb]
         have hb2:(CS f||(f.arg==0&&(f.path.length==0&&(f.cls==0&&f.n==0))))=true:=by rw[←Bool.not_eq_false',←hb2]
         simp only[Bn]at hb;simp only[Da,ho,hb.1,hb.2,hb2,Bool.and_self]
        conv=>whnf
        repeat'((first|refine st ?_|(refine sq ?_;intro K U)|(refine si ?_;intro A B Y Z)|(refine Y _ _ ?_;clear Z B Y A)|(refine U _ _ ?_;clear U K)|fail)<;>conv=>whnf)
        refine C5 f.kids.length (fun k (_:Unit)=>[(94,eI (Bw k))]) (fun _ _=>[]) (fun k _=>CZ w f=(f.kids.drop k).all (CZ w)) () rfl (by rw[Df,hh];rfl) Sat.nil ?_;rintro k - σ hk hn hs
        conv=>whnf
        repeat'((first|refine st ?_|(refine sq ?_;intro K U)|(refine si ?_;intro A B Y Z)|(refine Y _ _ ?_;clear Z B Y A)|(refine U _ _ ?_;clear U K)|refine⟨rfl,?_⟩|refine⟨nb,?_⟩|refine Q2 ?_|refine ld ?_|refine sn fun σ hs=>?_|(refine fc (fun x hx hlt hc=>?_) (fun hk hc=>?_)<;>(try rw[hc])<;>clear hc)|(intro nn hnn;generalize hg:BI _ nn _=σ;refine al hg fun hs=>?_;clear hg)|clear U K)<;>conv=>whnf)
        ·have hxm:=DL hx
         refine(ih x hxm).use ?_
         conv=>whnf
         repeat'((first|refine st ?_|(refine sq ?_;intro K U)|(refine si ?_;intro A B Y Z)|(refine Y _ _ ?_;clear Z B Y A)|(refine U _ _ ?_;clear U K)|refine⟨rfl,?_⟩|(constructor<;>intro hc<;>(try rw[hc])<;>(replace hc:=bp hc))|clear U K)<;>conv=>whnf)
         ·exact AM (by rw[hn,drop_cons hx];simp[hc])
         ·exact⟨hlt,(),rfl,by rw[hn,drop_cons hx];simp[hc],Sat.nil⟩
        ·exact AM (by rw[hn,Ax hk];rfl))
       clear U
       conv=>whnf
       repeat'((first|refine st ?_|(refine sq ?_;intro K U)|(refine si ?_;intro A B Y Z)|(refine Y _ _ ?_;clear Z B Y A)|(refine U _ _ ?_;clear U K)|(constructor<;>intro hc<;>(try rw[hc])<;>(replace hc:=bp hc))|fail)<;>conv=>whnf)
       ·have hx:(CS f||(f.arg==0&&(f.path.length==0&&(f.cls==0&&f.n==0))))=false:=by rw[←Bool.not_eq_true',←hb2,hc]
        exact AM (by rw[Oa];simp only[Da,hx,Bool.and_false])
       ·exact hJ () _ _ rfl hc Sat.nil)
      clear U;clear hb
      conv=>whnf
      repeat'((first|refine st ?_|(refine Y _ _ ?_;clear Z B Y A)|refine⟨rfl,?_⟩|(constructor<;>intro hc<;>(try rw[hc])<;>(replace hc:=bp hc)<;>(try simp(disch:=omega) only[B2,wrap64,AU]at hc))|fail)<;>conv=>whnf)
      ·have hp:f.path.length=0:=by omega
       exact hJ _ _ _ rfl (by rw[hp];simp[*,bne]) Sat.nil
      ·exact hJ true _ _ rfl (by simp[*]) Sat.nil
      ·exact hJ true _ _ rfl (AAK (by assumption) (by assumption) hc) Sat.nil
      ·exact hJ true _ _ rfl (by simp[*]) Sat.nil
      ·exact hJ false _ _ rfl (by simp[*]) Sat.nil)
     clear U
     conv=>whnf
     repeat'((first|refine st ?_|(refine sq ?_;intro K U)|(refine si ?_;intro A B Y Z)|(refine Y _ _ ?_;clear Z B Y A)|(refine U _ _ ?_;clear U K)|(constructor<;>intro hc<;>(try rw[hc])<;>(replace hc:=bp hc))|fail)<;>conv=>whnf)
     ·have hx:(f.kids.length==Cl f.op&&(decide (0≤f.arg)&&(decide (f.arg<3)&&FU w f.path)))=false:=by rw[←Bool.not_eq_true',←hb,hc]
      exact AM (by rw[Oa];simp only[Da];simp only[Bool.and_eq_false_iff]at hx ⊢;rcases hx with h|h|h|h<;>simp[h])
     ·exact hJ () _ _ rfl hc Sat.nil)
    clear U
    conv=>whnf
    repeat'((first|refine st ?_|(refine Y _ _ ?_;clear Z B Y A)|refine⟨rfl,?_⟩|refine⟨nb,?_⟩|refine Pure.use (ez _ _ _) ?_|(constructor<;>intro hc<;>(try rw[hc])<;>(replace hc:=bp hc)<;>(try simp(disch:=omega) only[B2,wrap64,AU]at hc))|fail)<;>conv=>whnf)
    all_goals exact hJ _ _ _ rfl (by simp[*]<;>omega) Sat.nil)
   clear U
   conv=>whnf
   repeat'((first|refine st ?_|(refine sq ?_;intro K U)|(refine si ?_;intro A B Y Z)|(refine Y _ _ ?_;clear Z B Y A)|(refine U _ _ ?_;clear U K)|refine⟨rfl,?_⟩|refine⟨nb,?_⟩|refine Pure.use (cz _ _) ?_|(constructor<;>intro hc<;>(try rw[hc])<;>(replace hc:=bp hc))|fail)<;>conv=>whnf)
   all_goals first
    | exact AM (by rw[Oa];simp only[Da,U3];simp[*]<;>omega)
    | exact hJ () _ _ (by simp[Cl, *];rfl) (by simp[U3, *]<;>omega) Sat.nil
def RP (n:Int):Bool:=decide (-1000000000≤n)&&decide (n≤1000000000)
theorem lZ (n:Int):Pure Tryz.prog 125 [eI n] (.b (RP n)):=by
 refine xL nb ?_
 conv=>whnf
 repeat'((first|refine st ?_|(refine sq ?_;intro K U)|(refine si ?_;intro A B Y Z)|(refine Y _ _ ?_;clear Z B Y A)|(refine U _ _ ?_;clear U K)|refine⟨rfl,?_⟩|(constructor<;>intro hc<;>(try rw[hc])<;>(replace hc:=bp hc))|fail)<;>conv=>whnf)
 all_goals exact AM (by simp[RP, *]<;>omega)
def Jl (k:Int):Bool:=k==1||k==4
theorem s4 (k:Int):Pure Tryz.prog 97 [eI k] (.b (Jl k)):=by
 refine zo nb ?_
 conv=>whnf
 repeat'((first|refine st ?_|(refine sq ?_;intro K U)|(refine si ?_;intro A B Y Z)|(refine Y _ _ ?_;clear Z B Y A)|(refine U _ _ ?_;clear U K)|refine⟨rfl,?_⟩|(constructor<;>intro hc<;>(try rw[hc])<;>(replace hc:=bp hc))|fail)<;>conv=>whnf)
 all_goals exact AM (by simp[Jl, *])
theorem Gb {p:Prog} (h:E3 (.a (Br p))):p.AO.length≤Ak∧p.EA.length≤Ak∧p.methods.length≤Ak∧p.nodes.length≤Ak:=by
 simp only[Br,G0,Dm,Gz,B2]at h;exact⟨h.1.1,h.2.2.1.1,h.2.2.2.1.1,h.2.2.2.2.1.1⟩
def Ir (p:Prog) (x:Node):Int:=
 if x.op=1∨x.op=2∨x.op=3∨x.op=6∨x.op=18 then 0 else
 if x.op=4∨x.op=8∨x.op=17 then 1 else
 if x.op=7∨x.op=9∨x.op=11∨x.op=12∨x.op=13∨x.op=14∨x.op=15∨x.op=16 then 2 else
 if x.op=10 then 3 else
 if x.op=5∧0≤x.n∧x.n<p.EA.length then p.EA.getD x.n.toNat 0 else -1
theorem fb (p:Prog) (x:Node):Pure Tryz.prog 130 [.a (Br p),.a (It x)] (eI (Ir p x)):=by
 refine Pure.fit (by kernel_rfl) fun hf=>?_
 have⟨p1,p2,p3,p4⟩:=Gb hf.1;have hM:=Mx;refine xG nb ?_
 conv=>whnf
 repeat'((first|refine st ?_|(refine sq ?_;intro K U)|(refine si ?_;intro A B Y Z)|(refine Y _ _ ?_;clear Z B Y A)|(refine U _ _ ?_;clear U K)|refine⟨rfl,?_⟩|refine iq fun x hx=>?_|(constructor<;>intro hc<;>(try rw[hc])<;>(replace hc:=bp hc)<;>(try simp(disch:=omega) only[B2,wrap64,AU]at hc))|clear U K)<;>conv=>whnf)
 all_goals first
  | (refine AM ?_;simp[Ir, *];done)
  | (refine AM ?_;simp[Ir, *];intros;omega)
  | (have hd:=(List.getElem?_eq_some_iff.1 hx).2;refine AM ?_;simp[Ir, *];done)
def Lv (p:Prog) (x:Node) (size:Int):Bool:=
 if x.op=1 then RP x.n else if x.op=3 then decide (0≤x.n)&&decide (x.n<size)else if x.op=4∨x.op=7 then decide (0≤x.n)&&decide (x.n<p.AN)else
 if x.op=5 then decide (0≤x.n)&&decide (x.n<p.EA.length)else if x.op=6∨x.op=8 then decide (3≤x.n)&&decide (x.n<3+p.AO.length)else x.n==0
theorem YW (p:Prog) (x:Node) (size:Int):Pure Tryz.prog 131 [.a (Br p),.a (It x),eI size] (.b (Lv p x size)):=by
 refine Pure.fit (by kernel_rfl) fun hf=>?_
 have⟨p1,p2,p3,p4⟩:=Gb hf.1;have hM:=Mx;refine xE nb ?_
 conv=>whnf
 repeat'((first|refine st ?_|(refine sq ?_;intro K U)|(refine si ?_;intro A B Y Z)|(refine Y _ _ ?_;clear Z B Y A)|(refine U _ _ ?_;clear U K)|refine⟨rfl,?_⟩|refine Pure.use (lZ _) ?_|(constructor<;>intro hc<;>(try rw[hc])<;>(replace hc:=bp hc))|clear U K)<;>conv=>whnf)
 all_goals first
  | (refine AM ?_;simp[Lv, *];done)
  | (refine AM ?_;rw[B2,wrap64 (by omega) (by omega)];simp[Lv, *];done)
  | (refine AM ?_;simp[Lv, *];intros;omega)
def S5 (ps:List (List Int)) (a b:Int):Bool:=a==b||(b==0||(decide (3≤a)&&Je ps a.toNat b.toNat))
theorem dE (w:AP) (a b:Int) (hl:w.parents.length≤1000) (ho:ordered w.parents) (ha:0≤a) (ha':a<3+w.parents.length) (hb:0≤b) (hb':b<3+w.parents.length):Pure Tryz.prog 120 [.a (BQ w),eI a,eI b] (.b (S5 w.parents a b)):=by
 refine Pure.fit (by kernel_rfl) fun hf=>?_
 have⟨w1,w2,w3⟩:=TG hf.1;have hM:=Mx;refine xP nb ?_
 conv=>whnf
 repeat'((first|refine st ?_|(refine sq ?_;intro K U)|(refine si ?_;intro A B Y Z)|(refine Y _ _ ?_;clear Z B Y A)|(refine U _ _ ?_;clear U K)|refine⟨rfl,?_⟩|refine⟨nb,?_⟩|(constructor<;>intro hc<;>(try rw[hc])<;>(replace hc:=bp hc))|clear U K)<;>conv=>whnf)
 ·exact AM (by simp[S5,hc])
 ·exact AM (by simp[S5, *];omega)
 ·have hc':0≤a:=ha
  obtain⟨a,rfl⟩: ∃n:Nat,a=n:=⟨a.toNat,by omega⟩
  refine(zL w a ⟨hl,w2,w3⟩ ho (by omega)).use ?_;have hul:=Kz w.parents (3+w.parents.length) a (a - 2)
  conv=>whnf
  repeat'((first|refine st ?_|(refine sq ?_;intro K U)|(refine si ?_;intro A B Y Z)|(refine Y _ _ ?_;clear Z B Y A)|(refine U _ _ ?_;clear U K)|refine iq fun x hx=>?_|fail)<;>conv=>whnf)
  refine AM ?_;have hu:=Wo ho (n:=3+w.parents.length) (c:=a) (by omega) b.toNat;rw[E9,hx]at hu;simp at hu;have e1:((a:Int)==b)=false:=by simpa using ‹(a:Int)≠b›
  have e2:(b==0)=false:=by simpa using ‹b≠0›
  simp[S5,e1,e2,hc,hu]
 ·exact AM (by simp[S5,hc])
structure lC (w:AP):Prop where
 len:w.parents.length≤60
 ord:ordered w.parents
 own: ∀c∈w.owner,(3:Int)≤c∧c<3+w.parents.length
 olen:w.owner.length≤40
def D9 (w:AP) (s:Int):Int:=w.owner.getD s.toNat 0
def hasB (w:AP) (c s:Int):Bool:=decide (3≤c)&&S5 w.parents c (D9 w s)
theorem tW (w:AP) (c s:Int) (hw:lC w) (hc0:0≤c) (hc1:c<3+w.parents.length) (hs0:0≤s) (hs1:s<w.owner.length):Pure Tryz.prog 122 [.a (BQ w),eI c,eI s] (.b (hasB w c s)):=by
 refine Pure.fit (by kernel_rfl) fun hf=>?_
 have⟨w1,w2,w3⟩:=TG hf.1;have hM:=Mx;have hl:=hw.len;refine xO nb ?_
 conv=>whnf
 repeat'((first|refine st ?_|(refine sq ?_;intro K U)|(refine si ?_;intro A B Y Z)|(refine Y _ _ ?_;clear Z B Y A)|(refine U _ _ ?_;clear U K)|refine dr ?_|refine⟨rfl,?_⟩|refine⟨nb,?_⟩|refine iq fun x hx=>?_|(constructor<;>intro hc<;>(try rw[hc])<;>(replace hc:=bp hc))|fail)<;>conv=>whnf)
 ·have:=hw.own x (DL hx)
  refine(dE w c x (by omega) hw.ord hc0 hc1 (by omega) (by omega)).use ?_
  conv=>whnf
  repeat'((first|refine st ?_|(refine Y _ _ ?_;clear Z B Y A)|(refine U _ _ ?_;clear U K)|refine dr ?_|fail)<;>conv=>whnf)
  exact AM (by simp[hasB,D9,hx,hc])
 ·exact AM (by simp[hasB];omega)
theorem fg (xs:List Int) (f:Bool) (x:Int):Pure Tryz.prog 154 [.l (iL xs) f,eI x] (.b (xs.contains x)):=Pure.fit (by kernel_rfl) fun hf=>ae xs f x (Ks hf.1)
def Ev (w:AP) (f:Fact):Bool:=decide (Ck f 24≤24)&&(decide (EL f≤12)&&CZ w f)
theorem cV (w:AP) (f:Fact):Pure Tryz.prog 94 [.a (BQ w),.a (xF f)] (.b (Ev w f)):=by
 refine zq nb ?_
 conv=>whnf
 repeat'((first|refine st ?_|(refine sq ?_;intro K U)|(refine si ?_;intro A B Y Z)|(refine Y _ _ ?_;clear Z B Y A)|(refine U _ _ ?_;clear U K)|refine⟨rfl,?_⟩|refine⟨nb,?_⟩|refine Pure.use (cA _) ?_|(constructor<;>intro hc<;>(try rw[hc])<;>(replace hc:=bp hc))|fail)<;>conv=>whnf)
 ·have:=KW f 24 (by omega) hc
  refine(cq f (by simp only[Ak];omega)).use ?_
  conv=>whnf
  repeat'((first|refine st ?_|(refine Y _ _ ?_;clear Z B Y A)|(refine U _ _ ?_;clear U K)|refine⟨rfl,?_⟩|refine⟨nb,?_⟩|refine Pure.use (fL _ _) ?_|(constructor<;>intro hc<;>(try rw[hc])<;>(replace hc:=bp hc))|fail)<;>conv=>whnf)
  ·exact AM (by simp[Ev,hc,‹Ck f 24≤24›])
  ·exact AM (by simp[Ev, *];intros;omega)
 ·exact AM (by simp[Ev];intros;omega)
def rl (i:Nat) (pre:List Int) (c:Int):Bool:=decide (3≤c)&&(decide (c<3+i)&& !pre.contains c)
def Ly (i:Nat):List Int→List Int→Bool
 | _,[]=>true
 | pre,c::r=>rl i pre c&&Ly i (pre++[c]) r
def II:Nat→List (List Int)→Bool
 | _,[]=>true
 | i,l::r=>decide (l.length≤3)&&(Ly i [] l&&II (i+1) r)
def Dz (g:List (List Int)):Bool:=decide (g.length≤16)&&II 0 g
theorem Rj {ls:List (List Int)} {g:Bool} (h:E3 (.l (El ls) g)):ls.length≤Ak∧ ∀l∈ls,l.length≤Ak:=by
 simp only[Gz,B2,I2,Dm]at h;exact⟨h.1,fun l hl=>(h.2 l hl).1.1⟩
theorem fl (g:List (List Int)) (f:Bool):Pure Tryz.prog 123 [.l (El g) f] (.b (Dz g)):=by
 refine Pure.fit (by kernel_rfl) fun hf=>?_
 have⟨g1,g2⟩:=Rj hf.1;have hM:=Mx;refine xN nb ?_
 conv=>whnf
 repeat'((first|refine st ?_|(refine sq ?_;intro K U)|(refine si ?_;intro A B Y Z)|(refine Y _ _ ?_;clear Z B Y A)|(refine U _ _ ?_;clear U K)|refine⟨rfl,?_⟩|(constructor<;>intro hc<;>(try rw[hc])<;>(replace hc:=bp hc)<;>(try simp(disch:=omega) only[B2,wrap64,AU]at hc))|clear U K)<;>conv=>whnf)
 ·exact AM (by simp[Dz];intros;omega)
 ·refine C5 g.length (fun k (_:Unit)=>[(3,eI (Bw k))]) (fun _ _=>[]) (fun k _=>Dz g=II k (g.drop k)) () rfl (by simp[Dz];omega) Sat.nil ?_
  rintro k - σ hk hn hs
  conv=>whnf
  repeat'((first|refine st ?_|(refine sq ?_;intro K U)|(refine si ?_;intro A B Y Z)|(refine Y _ _ ?_;clear Z B Y A)|(refine U _ _ ?_;clear U K)|refine⟨rfl,?_⟩|refine ix ?_|(refine fc (fun x hx hlt hc=>?_) (fun hk hc=>?_)<;>(try rw[hc])<;>clear hc)|(constructor<;>intro hc<;>(try rw[hc])<;>(replace hc:=bp hc)<;>(try simp(disch:=omega) only[B2,wrap64,AU]at hc))|clear U K)<;>conv=>whnf)
  ·exact AM (by rw[hn,drop_cons hx,II];simp;intros;omega)
  ·revert x
   rintro l hl hl3;have hll:=g2 l (DL hl);have hn':Dz g=(Ly k [] l&&II (k+1) (g.drop (k+1))):=by rw[hn,drop_cons hl,II];simp;intros;omega
   refine C5 l.length (fun j (_:Unit)=>[(4,eI (Bw j))]) (fun _ _=>[]) (fun j _=>Dz g=(Ly k (l.take j) (l.drop j)&&II (k+1) (g.drop (k+1)))) () rfl (by rw[hn'];rfl) Sat.nil ?_;rintro j - σ hj hm hs
   conv=>whnf
   repeat'((first|refine st ?_|(refine sq ?_;intro K U)|(refine si ?_;intro A B Y Z)|(refine Y _ _ ?_;clear Z B Y A)|(refine U _ _ ?_;clear U K)|refine dr ?_|refine⟨rfl,?_⟩|refine ix ?_|refine sk1 ?_|(refine fc (fun x hx hlt hc=>?_) (fun hk hc=>?_)<;>(try rw[hc])<;>clear hc)|refine Pure.use (fg _ _ _) ?_|(constructor<;>intro hc<;>(try rw[hc])<;>(replace hc:=bp hc)<;>(try simp(disch:=omega) only[B2,wrap64,AU]at hc))|clear U K)<;>conv=>whnf)
   ·exact AM (by rw[hm,drop_cons hx,Ly,rl,hc];simp)
   ·refine⟨hlt,(),rfl,?_,Sat.nil⟩
    rw[hm,drop_cons hx,Ly,rl,hc,AR hx];simp[*]
   ·exact AM (by rw[hm,drop_cons hx,Ly,rl];simp;intros;omega)
   ·exact AM (by rw[hm,drop_cons hx,Ly,rl];simp;intros;omega)
   ·refine⟨by assumption,(),rfl,?_,Sat.nil⟩
    rw[hm,Ax hk,Ly,Bool.true_and]
  ·exact AM (by rw[hn,Ax hk];rfl)
def Ki:Int→List Int→Bool
 | _,[]=>true
 | n,s::r=>s==n&&Ki (n+1) r
def C0:Int→List Pc→Bool
 | _,[]=>true
 | n,c::r=>decide (c.AN.length≤4)&&(decide (c.parents.length≤3)&&(Ki n c.AN&&C0 (n+c.AN.length) r))
def EK (w:AP) (c n:Int):List (Int×Int)→List (Int×Int)→Bool
 | _,[]=>true
 | pre,x::r=>decide (0≤x.1)&&(decide (x.1<n)&&(hasB w c x.1&&(RP x.2&&(pre.all (fun y=>y.1 != x.1)&&EK w c n (pre++[x]) r))))
def dh (g:List (List Int)) (c:Int):Bool:= !((CM g).getD c.toNat []).isEmpty
def GB (w:AP) (n:Int):Nat→List Pc→Bool
 | _,[]=>true
 | i,c::r=>dh w.parents ((i:Int)+3)&&(EK w ((i:Int)+3) n [] c.inits&&GB w n (i+1) r)
def BC (p:Prog):Bool:=decide (p.AO.length≤10)&&(C0 0 p.AO&&((B3 p.AO:Int)==p.AN&&(Dz (A4 p)&&GB (Ae p) (B3 p.AO) 0 p.AO)))
theorem zl {c:Pc} (h:Hm (S1 c)):c.parents.length≤Ak∧c.AN.length≤Ak∧c.inits.length≤Ak:=by
 simp only[S1,Dm,Gz,B2]at h;exact⟨h.1.1,h.2.1.1,h.2.2.1.1⟩
theorem Mq {p:Prog} (h:E3 (.a (Br p))):sE p:=by
 refine⟨(Gb h).1,fun c hc=>?_⟩;simp only[Br,G0,Dm,Gz,I2]at h;exact zl (h.1.2 c hc)
theorem cR (p:Prog) (hk0:p.AO.length≤1000):Pure Tryz.prog 91 [.a (Br p)] (.l (El (A4 p)) false):=Pure.fit (by kernel_rfl) fun hf=>XL p (Mq hf.1) hk0
theorem FF: ∀(cs:List Pc) (n:Int),C0 n cs=true→B3 cs≤4*cs.length∧ ∀c∈cs,c.parents.length≤3∧c.AN.length≤4
 | [],_,_=>⟨Nat.le_refl _,fun _ h=>by cases h⟩
 | c::r,n,h=>by
   simp only[C0,Bn,D8]at h;have⟨h1,h2⟩:=FF r _ h.2.2.2;refine⟨by simp only[B3,List.map_cons,List.sum_cons,NW]at *;omega,fun d hd=>?_⟩;rcases IF.1 hd with rfl|hd
   ·exact⟨h.2.1,h.1⟩
   ·exact h2 d hd
theorem Qm {i:Nat}: ∀(r pre:List Int),Ly i pre r=true→pre.Nodup→(pre++r).Nodup∧ ∀c∈r,(3:Int)≤c∧c<3+(i:Int)
 | [],pre,_,h=>⟨by simpa using h,fun _ h=>by cases h⟩
 | c::r,pre,h,hn=>by
   simp only[Ly,rl,Bn,D8,Bool.not_eq_true']at h;have hc:c∉pre:=by simpa using h.1.2.2
   obtain⟨h1,h2⟩:=Qm r (pre++[c]) h.2 (List.nodup_append.2 ⟨hn,by simp,fun a ha b hb=>by simp at hb;subst hb;exact fun e=>hc (e ▸ ha)⟩);refine⟨by simpa using h1,fun d hd=>?_⟩;rcases IF.1 hd with rfl|hd
   ·exact⟨h.1.1,h.1.2.1⟩
   ·exact h2 d hd
theorem O3: ∀(g:List (List Int)) (k:Nat),II k g=true→ ∀(i:Nat) (l:List Int),g[i]? =some l→l.length≤3∧l.Nodup∧ ∀c∈l,(3:Int)≤c∧c<3+((k+i:Nat):Int)
 | [],_,_,_,_,h=>by cases h
 | l ::r,k,h,i,l',hi=>by
   simp only[II,Bn,D8]at h;cases i with
   | zero=>
     simp at hi;subst hi;obtain⟨h1,h2⟩:=Qm l [] h.2.1 .nil;exact⟨h.1,by simpa using h1,by simpa using h2⟩
   | succ i=>
     simp at hi;have:=O3 r (k+1) h.2.2 i l' hi;rw[show k+(i+1)=k+1+i by omega];exact this
theorem D4 {g:List (List Int)} (h:Dz g=true):IK g:=by
 simp only[Dz,Bn,D8]at h;refine⟨h.1,fun i l hi=>?_⟩;have:=O3 g 0 h.2 i l hi;simpa using this
theorem JS {g:List (List Int)} (h:IK g):ordered g:=by
 intro c p hp;unfold par at hp;split at hp
 ·cases hp
 ·rename_i h3
  rw[E9]at hp;cases hq:g[c - 3]? with
  | none=>rw[hq]at hp;cases hp
  | some l=>
    rw[hq]at hp;have:=(h.2 _ _ hq).2.2 p hp;omega
theorem Fx {i:Nat} {cs:List Pc} {c:Int} (h:c∈BY i cs):(3:Int)+i≤c∧c<3+i+cs.length:=by
 induction cs generalizing i with
 | nil=>cases h
 | cons d r ih=>
   simp only[BY,Fo,List.mem_replicate]at h;simp only[NW];rcases h with⟨_,rfl⟩|h
   ·omega
   ·have:=ih h;omega
theorem Ov {p:Prog} (h1:p.AO.length≤10) (h2:C0 0 p.AO=true) (h3:Dz (A4 p)=true):lC (Ae p):=by
 have hl:(Ae p).parents.length=p.AO.length:=by simp[Ae,A4]
 refine⟨by omega,JS (D4 h3),fun c hc=>?_,?_⟩
 ·have:=Fx hc
  rw[hl];omega
 ·have:=(FF _ _ h2).1
  simp only[Ae,Cn];omega
theorem ZC (p : Prog):Pure Tryz.prog 93 [.a (Br p)] (.b (BC p)):=by
 refine Pure.fit (by kernel_rfl) fun hf=>?_
 have F:=Mq hf.1;have hcl:=F.1;have hM:=Mx;refine zr nb ?_
 conv=>whnf
 repeat'((first|refine st ?_|(refine sq ?_;intro K U)|(refine si ?_;intro A B Y Z)|(refine Y _ _ ?_;clear Z B Y A)|(refine U _ _ ?_;clear U K)|refine⟨rfl,?_⟩|(constructor<;>intro hc<;>(try rw[hc])<;>(replace hc:=bp hc)<;>(try simp(disch:=omega) only[B2,wrap64,AU]at hc))|clear U K)<;>conv=>whnf)
 ·exact AM (by simp[BC];intros;omega)
 have h10:p.AO.length≤10:=by omega
 refine C5 p.AO.length (fun k (n:Int)=>[(3,eI n),(4,eI (Bw k))]) (fun _ _=>[]) (fun k n=>C0 0 p.AO=C0 n (p.AO.drop k)∧0≤n∧n+B3 (p.AO.drop k)=B3 p.AO∧n≤4*k) 0 rfl (by simp) Sat.nil ?_;rintro k n σ hk ⟨hn,hn0,hn1,hn2⟩ hs
 conv=>whnf
 repeat'((first|refine st ?_|(refine sq ?_;intro K U)|(refine si ?_;intro A B Y Z)|(refine Y _ _ ?_;clear Z B Y A)|(refine U _ _ ?_;clear U K)|refine⟨rfl,?_⟩|refine⟨nb,?_⟩|refine ix ?_|(refine fc (fun x hx hlt hc=>?_) (fun hk hc=>?_)<;>(try rw[hc])<;>clear hc)|refine Pure.use (cR _ (by omega)) ?_|refine Pure.use (fl _ _) ?_|(constructor<;>intro hc<;>(try rw[hc])<;>(replace hc:=bp hc)<;>(try simp(disch:=omega) only[B2,wrap64,AU]at hc))|clear U K)<;>conv=>whnf)
 ·exact AM (by simp only[BC];rw[hn,drop_cons hx,C0];simp;intros;omega)
 ·have hms:n+(x.AN.length:Int)+B3 (p.AO.drop (k+1))=B3 p.AO:=by
   rw[drop_cons hx]at hn1;simp only[B3,List.map_cons,List.sum_cons]at hn1 ⊢;omega
  have hsl:=(F.2 x (DL hx)).2.1
  have hn':C0 0 p.AO=(Ki n x.AN&&C0 (n+x.AN.length) (p.AO.drop (k+1))):=by
   have a1:x.AN.length≤4:=by omega
   have a2:x.parents.length≤3:=by omega
   rw[hn,drop_cons hx,C0];simp only[a1,a2,decide_true,Bool.true_and]
  revert x
  rintro c hx hcs h3 hms hsl hn';refine C5 c.AN.length (fun j (m:Int)=>[(3,eI m),(6,eI (Bw j))]) (fun _ _=>[]) (fun j m=>C0 0 p.AO=(Ki m (c.AN.drop j)&&C0 (n+c.AN.length) (p.AO.drop (k+1)))∧m=n+j) n rfl ⟨hn',by simp⟩ Sat.nil ?_;rintro j m σ hj ⟨hm,he⟩ hs
  conv=>whnf
  repeat'((first|refine st ?_|(refine sq ?_;intro K U)|(refine si ?_;intro A B Y Z)|(refine Y _ _ ?_;clear Z B Y A)|(refine U _ _ ?_;clear U K)|refine⟨rfl,?_⟩|refine ix ?_|(refine fc (fun x hx hlt hc=>?_) (fun hk hc=>?_)<;>(try rw[hc])<;>clear hc)|(constructor<;>intro hc<;>(try rw[hc])<;>(replace hc:=bp hc))|clear U K)<;>conv=>whnf)
  ·exact AM (by simp only[BC];rw[hm,drop_cons (by assumption),Ki];simp[hc])
  ·refine⟨hlt,_,rfl,⟨?_,?_⟩,hs⟩
   ·rw[hm,drop_cons (by assumption),Ki,wrap64 (by omega) (by omega)];simp[hc]
   ·rw[wrap64 (by omega) (by omega)];omega
  ·refine⟨by assumption,m,rfl,⟨?_,by omega,by omega,by omega⟩,hs⟩
   rw[hm,Ax (by assumption),Ki,Bool.true_and,he];congr 1;omega
 ·exact AM (by simp only[BC];rw[hn,drop_cons hx,C0];simp;intros;omega)
 ·have hne:n=B3 p.AO:=by rw[Ax hk]at hn1;simpa[B3]using hn1
  exact AM (by simp only[BC];rw[hc];simp)
 ·have hne:n=B3 p.AO:=by rw[Ax hk]at hn1;simpa[B3]using hn1
  have hsb:C0 0 p.AO=true:=by rw[hn,Ax hk];rfl
  have hms:=(FF _ _ hsb).1;have hok:=Ov h10 hsb hc
  have hcb:BC p=GB (Ae p) n 0 p.AO:=by
   simp only[BC,hsb,hc,←hne];simp[*]
  refine(Rw p F (by omega) (by omega)).use ?_
  conv=>whnf
  repeat'((first|refine st ?_|(refine sq ?_;intro K U)|(refine si ?_;intro A B Y Z)|(refine Y _ _ ?_;clear Z B Y A)|(refine U _ _ ?_;clear U K)|refine sn fun σ hs=>?_|(intro nn hnn;generalize hg:BI _ nn _=σ;refine al hg fun hs=>?_;clear hg)|fail)<;>conv=>whnf)
  refine C5 p.AO.length (fun k (_:Unit)=>[(9,eI (Bw k))]) (fun _ _=>[.box nn (BQ (Ae p))]) (fun k _=>BC p=GB (Ae p) n k (p.AO.drop k)) () rfl (by rw[hcb];rfl) hs ?_;rintro k - σ hk hn hs
  conv=>whnf
  repeat'((first|refine st ?_|(refine sq ?_;intro K U)|(refine si ?_;intro A B Y Z)|(refine Y _ _ ?_;clear Z B Y A)|(refine U _ _ ?_;clear U K)|refine⟨rfl,?_⟩|(refine fc (fun x hx hlt hc=>?_) (fun hk hc=>?_)<;>(try rw[hc])<;>clear hc)|clear U K)<;>conv=>whnf)
  ·have e3 : IntKind.i64.wrap (Bw k+3)=(k:Int)+3:=by rw[AU (by omega),wrap64 (by omega) (by omega)]
   rw[e3];have hgl:(A4 p).length=p.AO.length:=by simp[A4]
   refine(tJ (A4 p) false ((k:Int)+3) (D4 hc) (by omega) (by omega)).use ?_
   conv=>whnf
   repeat'((first|refine st ?_|(refine sq ?_;intro K U)|(refine si ?_;intro A B Y Z)|(refine Y _ _ ?_;clear Z B Y A)|(refine U _ _ ?_;clear U K)|refine ix ?_|(constructor<;>intro hc<;>(try rw[hc])<;>(replace hc:=bp hc))|clear U K)<;>conv=>whnf)
   ·have hlb:dh (Ae p).parents ((k:Int)+3)=false:=by
     show(!((CM (A4 p)).getD ((k:Int)+3).toNat []).isEmpty)=false;rw[hc];rfl
    exact AM (by rw[hn,drop_cons hx,GB,hlb];rfl)
   ·have hil:=(F.2 x (DL hx)).2.2
    have hn':BC p=(EK (Ae p) ((k:Int)+3) n [] x.inits&&GB (Ae p) n (k+1) (p.AO.drop (k+1))):=by
     have hlb:dh (Ae p).parents ((k:Int)+3)=true:=by
      show(!((CM (A4 p)).getD ((k:Int)+3).toNat []).isEmpty)=true;rw[hc];rfl
     rw[hn,drop_cons hx,GB,hlb];rfl
    revert x
    rintro c hx hil hn';refine C5 c.inits.length (fun j (_:Unit)=>[(14,eI (Bw j))]) (fun _ _=>[.box nn (BQ (Ae p))]) (fun j _=>BC p=(EK (Ae p) ((k:Int)+3) n (c.inits.take j) (c.inits.drop j)&&GB (Ae p) n (k+1) (p.AO.drop (k+1)))) () rfl (by rw[hn'];rfl) hs ?_;rintro j - σ hj hm hs
    conv=>whnf
    repeat'((first|refine st ?_|(refine sq ?_;intro K U)|(refine si ?_;intro A B Y Z)|(refine Y _ _ ?_;clear Z B Y A)|(refine U _ _ ?_;clear U K)|refine dr ?_|refine⟨rfl,?_⟩|refine⟨nb,?_⟩|refine ix ?_|refine ld ?_|(refine fc (fun x hx hlt hc=>?_) (fun hk hc=>?_)<;>(try rw[hc])<;>clear hc)|(constructor<;>intro hc<;>(try rw[hc])<;>(replace hc:=bp hc))|clear U K)<;>conv=>whnf)
    ·refine(tW (Ae p) ((k:Int)+3) x.1 hok (by omega) (by rw[show(Ae p).parents=A4 p from rfl];omega) (by omega) (by rw[show(Ae p).owner=BY 0 p.AO from rfl,Cn];omega)).use ?_
     conv=>whnf
     repeat'((first|refine st ?_|(refine sq ?_;intro K U)|(refine si ?_;intro A B Y Z)|(refine Y _ _ ?_;clear Z B Y A)|(refine U _ _ ?_;clear U K)|refine dr ?_|refine ix ?_|refine Pure.use (lZ _) ?_|(constructor<;>intro hc<;>(try rw[hc])<;>(replace hc:=bp hc))|clear U K)<;>conv=>whnf)
     ·exact AM (by rw[hm,drop_cons hx,EK];simp[*])
     ·have hm':BC p=((c.inits.take j).all (fun y=>y.1 != x.1)&&(EK (Ae p) ((k:Int)+3) n (c.inits.take (j+1)) (c.inits.drop (j+1))&&GB (Ae p) n (k+1) (p.AO.drop (k+1)))):=by
       have b1:decide (0≤x.1)=true:=decide_eq_true (by assumption);have b2:decide (x.1<n)=true:=decide_eq_true (by assumption);rw[hm,drop_cons hx,EK,AR hx,b1,b2,‹hasB _ _ _=true›,hc];simp only[Bool.true_and,Bool.and_assoc]
      revert x
      rintro x hxj hx0 hx1 hhb hbt hm';refine C5 j (fun i (_:Unit)=>[(15,eI (Bw i))]) (fun _ _=>[.box nn (BQ (Ae p))]) (fun i _=>BC p=(((c.inits.take j).drop i).all (fun y=>y.1 != x.1)&&(EK (Ae p) ((k:Int)+3) n (c.inits.take (j+1)) (c.inits.drop (j+1))&&GB (Ae p) n (k+1) (p.AO.drop (k+1))))) () rfl (by rw[hm'];rfl) hs ?_;rintro i - σ hi hl hs;rcases Nat.lt_or_ge i j with hij|hij
      ·obtain⟨y,hy⟩: ∃y,c.inits[i]? =some y:=⟨_,E4 (by omega)⟩
       have hy':(c.inits.take j)[i]? =some y:=by rw[List.getElem?_take,if_pos hij,hy]
       conv=>whnf
       repeat'((first|refine st ?_|(refine sq ?_;intro K U)|(refine si ?_;intro A B Y Z)|(refine Y _ _ ?_;clear Z B Y A)|(refine U _ _ ?_;clear U K)|refine dr ?_|refine⟨rfl,?_⟩|refine ix ?_|(constructor<;>intro hc<;>(try rw[hc])<;>(replace hc:=bp hc)<;>(try simp(disch:=omega) only[B2,wrap64,AU]at hc)<;>try(exfalso;omega))|clear U K)<;>conv=>whnf)
       ·exact AM (by rw[hl,drop_cons hy',List.all_cons,hc];simp)
       ·refine⟨hij,(),rfl,?_,hs⟩
        have hc':(y.1 != x.1)=true:=by simpa using hc
        rw[hl,drop_cons hy',List.all_cons,hc',Bool.true_and]
      ·conv=>whnf
       repeat'((first|refine st ?_|(refine sq ?_;intro K U)|(refine si ?_;intro A B Y Z)|(refine Y _ _ ?_;clear Z B Y A)|(refine U _ _ ?_;clear U K)|refine⟨rfl,?_⟩|(constructor<;>intro hc<;>(try rw[hc])<;>(replace hc:=bp hc)<;>(try simp(disch:=omega) only[B2,wrap64,AU]at hc)<;>try(exfalso;omega))|clear U K)<;>conv=>whnf)
       refine⟨by assumption,(),rfl,?_,hs⟩;rw[hl,List.drop_of_length_le (by rw[PZ];omega),List.all_nil,Bool.true_and]
     ·exact AM (by rw[hm,drop_cons hx,EK];simp[*])
    ·exact AM (by rw[hm,drop_cons hx,EK];simp;intros;omega)
    ·exact AM (by rw[hm,drop_cons hx,EK];simp;intros;omega)
    ·refine⟨by assumption,(),rfl,?_,hs⟩
     rw[hm,Ax hk,EK,Bool.true_and]
  ·exact AM (by rw[hn,Ax hk];rfl)
 ·have hne:n=B3 p.AO:=by rw[Ax hk]at hn1;simpa[B3]using hn1
  exact AM (by simp only[BC];rw[←hne];simp[hc])
end Go.Gl
