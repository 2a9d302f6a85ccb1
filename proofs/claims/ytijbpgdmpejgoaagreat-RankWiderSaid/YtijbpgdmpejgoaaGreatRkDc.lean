/-
  The statement RankWiderSaid: the order of methods, their chains and their plans stay what they are when a class is added behind all others, with any parents that leave it a linear order, and a slot of its own; so does what applies to arguments. No conditions: whatever the input, the call returns true and what it was handed reads as it did.
-/
import Derived.HandedShaped
import Derived.Test.YtijbpgdmpejgoaaGreatW15
import Derived.Test.YtijbpgdmpejgoaaGreatW18
set_option linter.all false
set_option linter.defProp false
noncomputable section
namespace Go.Proofs.YtijbpgdmpejgoaaGreat
open Go.Gl Go.ChangeShapes Go.WideShapes Go.ChangeAt Go.RowKit
namespace rankWider
def six {cs:Array Value} (h:cs.toList.length=6): ∃c0 c1 c2 c3 c4 c5,cs= #[c0,c1,c2,c3,c4,c5]:=by
 obtain⟨l⟩:=cs
 match l,h with
 | [c0,c1,c2,c3,c4,c5],_=>exact⟨_,_,_,_,_,_,rfl⟩
set_option maxRecDepth 50000 in
set_option maxHeartbeats 8000000 in
def walkLong (c0 c1 c2 c3 c4 c5 v1 v3:Value) (g:Int) (a:Option Addr) (len cap:Nat) (w:World) (h:3<(len:Int)) (b:Bool)
    (ha: ∀w',Below w.heap.size w w'→Calls Tryz.prog 24 #[.agg #[c0,c1,c2,c3,c4,c5],v1,.int .i64 g,v3] w' fun e w''=>e= .returned (.bool b)∧Below w'.heap.size w' w'')
    (hk: ∀w',Calls Tryz.prog 14 #[] w' fun e w''=>e= .returned (.bool true)∧Below w'.heap.size w' w'') :
    Calls Tryz.prog 7 #[.agg #[c0,c1,c2,c3,c4,c5],v1,.int .i64 g,v3,.slice a len cap] w fun e w'=>e= .returned (.bool true)∧Below w.heap.size w w':=by
 have hal:Below w.heap.size w (w.alloc (.cells #[c0,c1,c2,c3,c4,c5] 27)):=Below.alloc (Below.refl _ _) (IE _) _;cases b
 all_goals
  go_enter Tryz.func7,Tryz.ntmps7
  go_wp2_with first|(go_at_call 24;refine(ha _ hal).mono ?_;rintro e w1 ⟨rfl,hb⟩)|(go_at_call 14;refine(hk _).mono ?_;rintro e w2 ⟨rfl,hb2⟩)
  all_goals
   go_ret
   exact⟨rfl,(hal.trans (hb.mono hal.size)).trans (hb2.mono (Nat.le_trans hal.size hb.size))⟩
def works (w:World):Calls Tryz.prog 14 #[] w fun e w'=>e= .returned (.bool true)∧Below w.heap.size w w':=by
 refine Calls.mono (Nx WQ (cs:= #[]) ⟨rfl,trivial⟩) fun e w' ⟨⟨c,h1,h2⟩,h3⟩=>⟨?_,Ny h3⟩
 have h2:c= .bool true:=h2;rw[h1,h2]
theorem walk (w:World) (cs:Array Value) (p:Prog) (hp:cs.toList.length=(BN p).length∧BZ (HE w) (fun i=>cs.toList[i]?) 0 (BN p)) (v1:Value) (l1:List Ob) (h1:AY (HE w) (.l (l1.map FY) false) v1) (g2:Int) (h2:(Lit.int .i64 g2).wf=true) (v3:Value) (l3:List (Int×Int)) (h3:AY (HE w) (.l (pP l3) false) v3)
 (a:Option Addr) (len cap:Nat) (h4:len≤Ac→ ∃l:List Int,AY (HE w) (.l (l.map fun u=>[V.i .u8 u]) false) (.slice a len cap)) :
 Calls Tryz.prog 7 #[.agg cs,v1,.int .i64 g2,v3,.slice a len cap] w fun e w'=>e= .returned (.bool true)∧Below w.heap.size w w':=by
 by_cases hl:len≤Ac
 ·obtain⟨l,hv⟩:=h4 hl
  refine Calls.mono (Nx (Up p l1 false g2 l3 false l false WQ) (cs:= #[.agg cs,v1,.int .i64 g2,v3,.slice a len cap]) ⟨rfl,⟨_,rfl,fb hp⟩,⟨_,rfl,h1⟩,⟨_,rfl,nI h2⟩,⟨_,rfl,h3⟩,⟨_,rfl,hv⟩,trivial⟩) fun e w' ⟨⟨c,h1,h2⟩,h3⟩=>⟨?_,Ny h3⟩
  have h2:c= .bool true:=h2;rw[h1,h2]
 ·have hv:=fb hp
  obtain⟨c0,c1,c2,c3,c4,c5,rfl⟩:=six (hp.1.trans rfl);refine walkLong c0 c1 c2 c3 c4 c5 v1 v3 g2 a len cap w (by unfold Ac at hl;omega) (B3 p l1 g2 l3) (fun w' hb=>?_) works;have hle:=X5 hb;refine Calls.mono (Nx (Wx p l1 false g2 l3 false) (cs:= #[.agg #[c0,c1,c2,c3,c4,c5],v1,.int .i64 g2,v3]) ⟨rfl,⟨_,rfl,AY.mono hle _ _ hv⟩,⟨_,rfl,AY.mono hle _ _ h1⟩,⟨_,rfl,nI h2⟩,⟨_,rfl,AY.mono hle _ _ h3⟩,trivial⟩) fun e w'' ⟨⟨c,h1,h2⟩,h3⟩=>⟨?_,Ny h3⟩
  have h2:c= .bool (B3 p l1 g2 l3):=h2;rw[h1,h2]
set_option maxRecDepth 100000 in
theorem lifted (os:Os) (started:os.Started) (H:Type) (enc:TypeId×Value→H) :
 ReturnsInHanded {} Tryz.checked os 7 .any (Rows.rankWiderSpec.pre6 enc Tryz.prog Tryz.f7 Rows.rankWiderRow.domain false) (Rows.rankWiderSpec.post enc Tryz.prog Tryz.f7 false true false false):=by
 refine returnsInHanded_of_change_shaped (C:=Tryz.checked) own started (by kernel_rfl) Tryz.func7
  (ChangeSpec.witness6 (enc:=enc) (C:=Tryz.checked) false ⟨#[],#[.agg #[.slice none 0 0,.int .i64 0,.slice none 0 0,.slice none 0 0,.slice none 0 0,.int .i64 0],.slice none 0 0,.int .i64 0,.slice none 0 0,.slice none 0 0],[]⟩ 8 (by kernel_rfl) (by kernel_rfl) (by kernel_rfl) (by kernel_rfl)) ?_
 intro W base args ds gs before hval0 hW hcnd hwt _ _;have hval: ∀(j:Nat) t v,Tryz.f7.params[j]? =some t→args[j]? =some v→Value.okWide Tryz.prog W .any base t v:=hval0;have hW':=hW;obtain⟨p,q,hA0,hV,rfl,hfz,hnd⟩:=hW;have Y:DataW.TrodAll enc Tryz.prog W 0 (fun _=>true) true Tryz.f7.params.toList args.toList ds p:=hA0;rw[Tryz.params7]at Y hval;have hwt2:(DataW.weightsEach Tryz.prog (Tryz.f7.params.toList++Rows.rankWiderSpec.plain.varTypes Tryz.prog) (ds++gs)).all (· ≤reachBytes)=true:=hwt;rw[Tryz.params7]at hwt2;obtain⟨v0,vs0,d0,ds0,p0,q0,ha0,rfl,rfl,h0,r0⟩:=trodAll_cons Y;obtain⟨v1,vs1,d1,ds1,p1,q1,ha1,rfl,rfl,h1,r1⟩:=trodAll_cons r0;obtain⟨v2,vs2,d2,ds2,p2,q2,ha2,rfl,rfl,h2,r2⟩:=trodAll_cons r1;obtain⟨v3,vs3,d3,ds3,p3,q3,ha3,rfl,rfl,h3,r3⟩:=trodAll_cons r2;obtain⟨v4,vs4,d4,ds4,p4,q4,ha4,rfl,rfl,h4,r4⟩:=trodAll_cons r3;obtain⟨rfl,rfl,rfl⟩:=trodAll_nil r4;subst ha4;subst ha3;subst ha2;subst ha1;obtain rfl:args= #[v0,v1,v2,v3,v4]:=by cases args;simp_all
 obtain⟨rfl,rfl⟩:=trodVars_none hV
 have hw0: ∀x∈d0.weights Tryz.prog 27,x≤reachBytes:=fun x hx=>by
  have:=EL.1 hwt2 x (Mt _ hx);simpa using this
 have hw1: ∀x∈d1.weights Tryz.prog 41,x≤reachBytes:=fun x hx=>by
  have:=EL.1 hwt2 x (LA _ (Mt _ hx));simpa using this
 have hw3: ∀x∈d3.weights Tryz.prog 42,x≤reachBytes:=fun x hx=>by
  have:=EL.1 hwt2 x (LA _ (LA _ (LA _ (Mt _ hx))));simpa using this
 have hw4: ∀x∈d4.weights Tryz.prog 51,x≤reachBytes:=fun x hx=>by
  have:=EL.1 hwt2 x (LA _ (LA _ (LA _ (LA _ (Mt _ hx)))));simpa using this
 have g0:=hval 0 27 v0 rfl rfl;simp only[Value.okWide,Tryz.underlying27]at g0;obtain⟨cs,rfl,hsz,-⟩:=g0;obtain⟨g2,rfl⟩:=okWide_int Tryz.underlying3 (hval 2 3 v2 rfl rfl);obtain⟨a4,n4,m4,rfl⟩:=okWide_slice Tryz.underlying51 (hval 4 51 v4 rfl rfl);have k0:=h0;have k1:=h1;have k2:=h2;have k3:=h3;have k4:=h4;have lt0: ∀x∈p0,x.block<W.heap.size:=by obtain⟨m,hm⟩:=k0;exact DataW.trod_lt m _ _ _ hm
 have lt1: ∀x∈p1,x.block<W.heap.size:=by obtain⟨m,hm⟩:=k1;exact DataW.trod_lt m _ _ _ hm
 have lt2: ∀x∈p2,x.block<W.heap.size:=by obtain⟨m,hm⟩:=k2;exact DataW.trod_lt m _ _ _ hm
 have lt3: ∀x∈p3,x.block<W.heap.size:=by obtain⟨m,hm⟩:=k3;exact DataW.trod_lt m _ _ _ hm
 have lt4: ∀x∈p4,x.block<W.heap.size:=by obtain⟨m,hm⟩:=k4;exact DataW.trod_lt m _ _ _ hm
 obtain⟨f0,hf0⟩:=h0;obtain⟨f1,hf1⟩:=h1;obtain⟨f2,hf2⟩:=h2;obtain⟨f3,hf3⟩:=h3;obtain⟨f4,hf4⟩:=h4;obtain⟨p,hp⟩:=iP f0 _ _ _ hf0 hw0;obtain⟨l1,-,hl1⟩:=ni f1 _ _ _ hf1 hw1
 have hv1:AY (HE W) (.l (l1.map FY) false) v1:=by
  obtain⟨⟨c,hc,hr⟩,-⟩:=hl1;have g1:=hval 1 41 v1 rfl rfl;simp only[Value.okWide,Tryz.underlying41]at g1;cases v1 with
  | agg vs=>exact absurd g1 (by simp[Cell.okWide,Cell.ok,Tryz.underlying41])
  | _=>
    simp only[Value.cells,List.getElem?_toArray,cb,Hp]at hc;subst hc;exact hr
 obtain⟨m2,e2,-,hm2⟩:=DataW.trod_int Tryz.underlying3 hf2;obtain rfl:g2=m2:=by simpa[Value.cells]using e2
 obtain⟨l3,-,hl3⟩:=ZU f3 _ _ _ hf3 hw3
 have hv3:AY (HE W) (.l (pP l3) false) v3:=by
  obtain⟨⟨c,hc,hr⟩,-⟩:=hl3;have g3:=hval 3 42 v3 rfl rfl;simp only[Value.okWide,Tryz.underlying42]at g3;cases v3 with
  | agg vs=>exact absurd g3 (by simp[Cell.okWide,Cell.ok,Tryz.underlying42])
  | _=>
    simp only[Value.cells,List.getElem?_toArray,cb,Hp]at hc;subst hc;exact hr
 have hl4:n4≤Ac→ ∃l:List Int,AY (HE W) (.l (l.map fun u=>[V.i .u8 u]) false) (.slice a4 n4 m4):=fun hM=>by
  cases f4 with
  | zero=>simp[DataW.trod]at hf4
  | succ f=>exact Xd (sz:=1) Tryz.underlying51 (by kernel_rfl) (by decide) (fun _=>rfl) (ng Tryz.underlying5 f) hf4 hw4 hM
 clear hA0 hval0;refine(walk W cs p hp v1 l1 hv1 g2 hm2 v3 l3 hv3 a4 n4 m4 hl4).mono fun e W' ⟨he,bel⟩=>?_
 subst he;exact⟨_,rfl,_,_,_,[],_,[],hW',trodAll_mk1 (shut_bool Tryz.underlying4 _),(trodAll_cons_mk (Below.trod laidOut (by kernel_rfl) (of_decide_eq_true (by kernel_rfl)) k0 bel lt0) (trodAll_cons_mk (Below.trod laidOut (by kernel_rfl) (of_decide_eq_true (by kernel_rfl)) k1 bel lt1) (trodAll_cons_mk (Below.trod laidOut (by kernel_rfl) (of_decide_eq_true (by kernel_rfl)) k2 bel lt2) (trodAll_cons_mk (Below.trod laidOut (by kernel_rfl) (of_decide_eq_true (by kernel_rfl)) k3 bel lt3) (trodAll_cons_mk (Below.trod laidOut (by kernel_rfl) (of_decide_eq_true (by kernel_rfl)) k4 bel lt4) trodAll_mk0))))),rfl,bel.frame _,fun h=>by cases h⟩
set_option maxRecDepth 100000 in
set_option maxHeartbeats 4000000 in
theorem facts:joinedFacts Tryz.prog 7 Tryz.f7 Rows.rankWiderSpec Rows.rankWiderRow=true:=by
 unfold joinedFacts;refine Ef (Ef (Ef (Ef (Ef (Ef (Ef (Ef (Ef (Ef (Ef (Ef (Ef (Ef (Ef (Ef (Ef (Ef (Ef (Ef (Ef (Ef (Ef (Ef (Ef (Ef (Ef (Ef (Ef (Ef ?_ ?_) ?_) ?_) ?_) ?_) ?_) ?_) ?_) ?_) ?_) ?_) ?_) ?_) ?_) ?_) ?_) ?_) ?_) ?_) ?_) ?_) ?_) ?_) ?_) ?_) ?_) ?_) ?_) ?_) ?_
 all_goals(as_aux_lemma=>kernel_rfl)
theorem over:Rows.rankWiderRow.holds Tryz.pinned (OpenSpec.ofChange Rows.rankWiderSpec):=
 OpenClaim.holds_of_wide 7 Tryz.f7 rfl rfl rfl rfl rfl rfl rfl ⟨rfl,rfl,rfl,rfl,rfl⟩ rfl rfl rfl rfl rfl (by kernel_rfl) Tryz.func7 facts
  (of_decide_eq_true (by kernel_rfl)) (by unfold Func.isWrapper;first|(rw[if_pos (by decide +kernel)];kernel_rfl)|(rw[if_neg (by decide +kernel)];exact⟨rfl,rfl⟩))
  (fun os started H enc _=>lifted os started H enc)
theorem proved:Rows.RankWiderSaid:=
 over
#print axioms proved
end rankWider
end Go.Proofs.YtijbpgdmpejgoaaGreat
