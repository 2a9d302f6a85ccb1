/-
  The statement GapMissingsSaid: what any function is missing, made short, or the error, is as the reference says. No conditions: whatever the input, the call returns true and what it was handed reads as it did.
-/
import Derived.HandedShaped
import Derived.Test.YtegbmnmnaijioaaGreatB13
import Derived.Test.YtegbmnmnaijioaaGreatB15
import Derived.Test.YtegbmnmnaijioaaGreatB19
set_option linter.all false
set_option linter.defProp false
noncomputable section
namespace Go.Proofs.YtegbmnmnaijioaaGreat
open Go.Gl Go.ChangeShapes Go.WideShapes Go.ChangeAt Go.RowKit
namespace gapMissings
theorem walk (w:World) (cs:Array Value) (g:uW) (hp:cs.toList.length=(V5 g).length∧BZ (HE w) (fun i=>cs.toList[i]?) 0 (V5 g)):Calls Tryz.prog 7 #[.agg cs] w fun e w'=>e= .returned (.bool true)∧Below w.heap.size w w':=by
 refine Calls.mono (fk (TK g (fun f h1 h2=>fj h1 h2) known) (cs:= #[.agg cs]) ⟨rfl,⟨_,rfl,uz hp⟩,trivial⟩) fun e w' ⟨⟨c,h1,h2⟩,h3⟩=>⟨?_,fm h3⟩
 have h2:c= .bool true:=h2;rw[h1,h2]
set_option maxRecDepth 100000 in
theorem lifted (os:Os) (started:os.Started) (H:Type) (enc:TypeId×Value→H) :
 ReturnsInHanded {} Tryz.checked os 7 .any (Rows.gapMissingsSpec.pre6 enc Tryz.prog Tryz.f7 Rows.gapMissingsRow.domain false) (Rows.gapMissingsSpec.post enc Tryz.prog Tryz.f7 false true false false):=by
 refine returnsInHanded_of_change_shaped (C:=Tryz.checked) own started (by kernel_rfl) Tryz.func7
  (ChangeSpec.witness6 (enc:=enc) (C:=Tryz.checked) false ⟨#[],#[.agg #[.slice none 0 0,.int .i64 0,.slice none 0 0,.slice none 0 0,.slice none 0 0,.int .i64 0,.int .i64 0,.slice none 0 0,.slice none 0 0,.int .i64 0]],[]⟩ 8 (by kernel_rfl) (by kernel_rfl) (by kernel_rfl) (by kernel_rfl)) ?_
 intro W base args ds gs before hval0 hW hcnd hwt _ _;have hval: ∀(j:Nat) t v,Tryz.f7.params[j]? =some t→args[j]? =some v→Value.okWide Tryz.prog W .any base t v:=hval0;have hW':=hW;obtain⟨p,q,hA0,hV,rfl,hfz,hnd⟩:=hW;have Y:DataW.TrodAll enc Tryz.prog W 0 (fun _=>true) true Tryz.f7.params.toList args.toList ds p:=hA0;rw[Tryz.params7]at Y hval;have hwt2:(DataW.weightsEach Tryz.prog (Tryz.f7.params.toList++Rows.gapMissingsSpec.plain.varTypes Tryz.prog) (ds++gs)).all (· ≤reachBytes)=true:=hwt;rw[Tryz.params7]at hwt2;obtain⟨v0,vs0,d0,ds0,p0,q0,ha0,rfl,rfl,h0,r0⟩:=trodAll_cons Y;obtain⟨rfl,rfl,rfl⟩:=trodAll_nil r0;obtain rfl:args= #[v0]:=by cases args;simp_all
 obtain⟨rfl,rfl⟩:=trodVars_none hV
 have hw0: ∀x∈d0.weights Tryz.prog 30,x≤reachBytes:=fun x hx=>by
  have:=GP.1 hwt2 x (TV _ hx);simpa using this
 have g0:=hval 0 30 v0 rfl rfl;simp only[Value.okWide,Tryz.underlying30]at g0;obtain⟨cs,rfl,hsz,-⟩:=g0;have k0:=h0;have lt0: ∀x∈p0,x.block<W.heap.size:=by obtain⟨m,hm⟩:=k0;exact DataW.trod_lt m _ _ _ hm
 obtain⟨f0,hf0⟩:=h0;obtain⟨g,hp⟩:=tD f0 _ _ _ hf0 hw0;clear hA0 hval0;refine(walk W cs g hp).mono fun e W' ⟨he,bel⟩=>?_
 subst he;exact⟨_,rfl,_,_,_,[],_,[],hW',trodAll_mk1 (shut_bool Tryz.underlying4 _),(trodAll_cons_mk (Below.trod laidOut (by kernel_rfl) (of_decide_eq_true (by kernel_rfl)) k0 bel lt0) trodAll_mk0),rfl,bel.frame _,fun h=>by cases h⟩
set_option maxRecDepth 100000 in
set_option maxHeartbeats 4000000 in
theorem facts:joinedFacts Tryz.prog 7 Tryz.f7 Rows.gapMissingsSpec Rows.gapMissingsRow=true:=by
 unfold joinedFacts;refine Ea (Ea (Ea (Ea (Ea (Ea (Ea (Ea (Ea (Ea (Ea (Ea (Ea (Ea (Ea (Ea (Ea (Ea (Ea (Ea (Ea (Ea (Ea (Ea (Ea (Ea (Ea (Ea (Ea (Ea ?_ ?_) ?_) ?_) ?_) ?_) ?_) ?_) ?_) ?_) ?_) ?_) ?_) ?_) ?_) ?_) ?_) ?_) ?_) ?_) ?_) ?_) ?_) ?_) ?_) ?_) ?_) ?_) ?_) ?_) ?_
 all_goals(as_aux_lemma=>kernel_rfl)
theorem over:Rows.gapMissingsRow.holds Tryz.pinned (OpenSpec.ofChange Rows.gapMissingsSpec):=
 OpenClaim.holds_of_wide 7 Tryz.f7 rfl rfl rfl rfl rfl rfl rfl ⟨rfl,rfl,rfl,rfl,rfl⟩ rfl rfl rfl rfl rfl (by kernel_rfl) Tryz.func7 facts
  (of_decide_eq_true (by kernel_rfl)) (by unfold Func.isWrapper;first|(rw[if_pos (by decide +kernel)];kernel_rfl)|(rw[if_neg (by decide +kernel)];exact⟨rfl,rfl⟩))
  (fun os started H enc _=>lifted os started H enc)
theorem proved:Rows.GapMissingsSaid:=
 over
#print axioms proved
end gapMissings
end Go.Proofs.YtegbmnmnaijioaaGreat
