/-
  The statement RankPlansSaid: the plan of any methods, or the error, is as the reference says. No conditions: whatever the input, the call returns true and what it was handed reads as it did.
-/
import Derived.HandedShaped
import Derived.Test.YtijbpgdmpejgoaaGreatV17
import Derived.Test.YtijbpgdmpejgoaaGreatV19
import Derived.Test.YtijbpgdmpejgoaaGreatV20
set_option linter.all false
noncomputable section
namespace Go.Proofs.YtijbpgdmpejgoaaGreat
open Go.Gl Go.ChangeShapes Go.WideShapes Go.ChangeAt Go.RowKit
namespace rankPlans
theorem walk (w:World) (cs:Array Value) (p:Prog) (hp:cs.toList.length=(BK p).length∧Be (HE w) (fun i=>cs.toList[i]?) 0 (BK p)) (v1:Value) (l1:List Int) (h1:Ae (HE w) (.l (iL l1) false) v1):Calls Tryz.prog 11 #[.agg cs,v1] w fun e w'=>e= .returned (.bool true)∧Below w.heap.size w w':=by
 refine Calls.mono (Tf (Tv p l1 false Ws) (cs:= #[.agg cs,v1]) ⟨rfl,⟨_,rfl,gI hp⟩,⟨_,rfl,h1⟩,trivial⟩) fun e w' ⟨⟨c,h1,h2⟩,h3⟩=>⟨?_,Tg h3⟩
 have h2:c= .bool true:=h2;rw[h1,h2]
set_option maxRecDepth 100000 in
theorem lifted (os:Os) (started:os.Started) (H:Type) (enc:TypeId×Value→H) :
 ReturnsInHanded {} Tryz.checked os 11 .any (Rows.rankPlansSpec.pre6 enc Tryz.prog Tryz.f11 Rows.rankPlansRow.domain false) (Rows.rankPlansSpec.post enc Tryz.prog Tryz.f11 false true false false):=by
 refine returnsInHanded_of_change_shaped (C:=Tryz.checked) own started (by kernel_rfl) Tryz.func11
  (ChangeSpec.witness6 (enc:=enc) (C:=Tryz.checked) false ⟨#[],#[.agg #[.slice none 0 0,.int .i64 0,.slice none 0 0,.slice none 0 0,.slice none 0 0,.int .i64 0],.slice none 0 0],[]⟩ 8 (by kernel_rfl) (by kernel_rfl) (by kernel_rfl) (by kernel_rfl)) ?_
 intro W base args ds gs before hval0 hW hcnd hwt _ _;have hval: ∀(j:Nat) t v,Tryz.f11.params[j]? =some t→args[j]? =some v→Value.okWide Tryz.prog W .any base t v:=hval0;have hW':=hW;obtain⟨p,q,hA0,hV,rfl,hfz,hnd⟩:=hW;have Y:DataW.TrodAll enc Tryz.prog W 0 (fun _=>true) true Tryz.f11.params.toList args.toList ds p:=hA0;rw[Tryz.params11]at Y hval;have hwt2:(DataW.weightsEach Tryz.prog (Tryz.f11.params.toList++Rows.rankPlansSpec.plain.varTypes Tryz.prog) (ds++gs)).all (· ≤reachBytes)=true:=hwt;rw[Tryz.params11]at hwt2;obtain⟨v0,vs0,d0,ds0,p0,q0,ha0,rfl,rfl,h0,r0⟩:=trodAll_cons Y;obtain⟨v1,vs1,d1,ds1,p1,q1,ha1,rfl,rfl,h1,r1⟩:=trodAll_cons r0;obtain⟨rfl,rfl,rfl⟩:=trodAll_nil r1;subst ha1;obtain rfl:args= #[v0,v1]:=by cases args;simp_all
 obtain⟨rfl,rfl⟩:=trodVars_none hV
 have hw0: ∀x∈d0.weights Tryz.prog 27,x≤reachBytes:=fun x hx=>by
  have:=Em.1 hwt2 x (PU _ hx);simpa using this
 have hw1: ∀x∈d1.weights Tryz.prog 23,x≤reachBytes:=fun x hx=>by
  have:=Em.1 hwt2 x (PX _ (PU _ hx));simpa using this
 have g0:=hval 0 27 v0 rfl rfl;simp only[Value.okWide,Tryz.underlying27]at g0;obtain⟨cs,rfl,hsz,-⟩:=g0;have k0:=h0;have k1:=h1;have lt0: ∀x∈p0,x.block<W.heap.size:=by obtain⟨m,hm⟩:=k0;exact DataW.trod_lt m _ _ _ hm
 have lt1: ∀x∈p1,x.block<W.heap.size:=by obtain⟨m,hm⟩:=k1;exact DataW.trod_lt m _ _ _ hm
 obtain⟨f0,hf0⟩:=h0;obtain⟨f1,hf1⟩:=h1;obtain⟨p,hp⟩:=Zp f0 _ _ _ hf0 hw0;obtain⟨l1,-,hl1⟩:=Np f1 _ _ _ hf1 hw1
 have hv1:Ae (HE W) (.l (iL l1) false) v1:=by
  obtain⟨⟨c,hc,hr⟩,-⟩:=hl1;have g1:=hval 1 23 v1 rfl rfl;simp only[Value.okWide,Tryz.underlying23]at g1;cases v1 with
  | agg vs=>exact absurd g1 (by simp[Cell.okWide,Cell.ok,Tryz.underlying23])
  | _=>
    simp only[Value.cells,List.getElem?_toArray,dQ,IT]at hc;subst hc;exact hr
 clear hA0 hval0;refine(walk W cs p hp v1 l1 hv1).mono fun e W' ⟨he,bel⟩=>?_
 subst he;exact⟨_,rfl,_,_,_,[],_,[],hW',trodAll_mk1 (shut_bool Tryz.underlying4 _),(trodAll_cons_mk (Below.trod laidOut (by kernel_rfl) (of_decide_eq_true (by kernel_rfl)) k0 bel lt0) (trodAll_cons_mk (Below.trod laidOut (by kernel_rfl) (of_decide_eq_true (by kernel_rfl)) k1 bel lt1) trodAll_mk0)),rfl,bel.frame _,fun h=>by cases h⟩
set_option maxRecDepth 100000 in
set_option maxHeartbeats 4000000 in
theorem facts:joinedFacts Tryz.prog 11 Tryz.f11 Rows.rankPlansSpec Rows.rankPlansRow=true:=by
 unfold joinedFacts;refine B5 (B5 (B5 (B5 (B5 (B5 (B5 (B5 (B5 (B5 (B5 (B5 (B5 (B5 (B5 (B5 (B5 (B5 (B5 (B5 (B5 (B5 (B5 (B5 (B5 (B5 (B5 (B5 (B5 (B5 ?_ ?_) ?_) ?_) ?_) ?_) ?_) ?_) ?_) ?_) ?_) ?_) ?_) ?_) ?_) ?_) ?_) ?_) ?_) ?_) ?_) ?_) ?_) ?_) ?_) ?_) ?_) ?_) ?_) ?_) ?_
 all_goals(as_aux_lemma=>kernel_rfl)
theorem over:Rows.rankPlansRow.holds Tryz.pinned (OpenSpec.ofChange Rows.rankPlansSpec):=
 OpenClaim.holds_of_wide 11 Tryz.f11 rfl rfl rfl rfl rfl rfl rfl ⟨rfl,rfl,rfl,rfl,rfl⟩ rfl rfl rfl rfl rfl (by kernel_rfl) Tryz.func11 facts
  (of_decide_eq_true (by kernel_rfl)) (by unfold Func.isWrapper;first|(rw[if_pos (by decide +kernel)];kernel_rfl)|(rw[if_neg (by decide +kernel)];exact⟨rfl,rfl⟩))
  (fun os started H enc _=>lifted os started H enc)
theorem proved:Rows.RankPlansSaid:=
 over
#print axioms proved
end rankPlans
end Go.Proofs.YtijbpgdmpejgoaaGreat
