/-
  The statement GapLeastsSaid: the least classes for which calls have a state, and whether all are fine, are as stated. No conditions: whatever the input, the call returns true and what it was handed reads as it did.
-/
import Derived.HandedShaped
import Derived.Test.YtnidfcmdimehdaaGreatU22
import Derived.Test.YtnidfcmdimehdaaGreatU40
import Derived.Test.YtnidfcmdimehdaaGreatU44
set_option linter.all false
set_option linter.defProp false
set_option maxHeartbeats 8000000
noncomputable section
namespace Go.Proofs.YtnidfcmdimehdaaGreat
open Go.Gl Go.ChangeShapes Go.WideShapes Go.ChangeAt Go.RowKit
namespace gapLeasts
theorem walk (w:World) (cs:Array Value) (g:Giv) (hp:cs.toList.length=(Xu g).length/\BU (HE w) (fun i=>cs.toList[i]?) 0 (Xu g)):Calls Tryz.prog 4 #[.agg cs] w fun e w'=>e= .returned (.bool true)/\Below w.heap.size w w':=by
 refine Calls.mono (kS (Yx g nK) (cs:= #[.agg cs]) ⟨rfl,⟨_,rfl,vGiv hp⟩,trivial⟩) fun e w' ⟨⟨c,h1,h2⟩,h3⟩=>⟨?_,kT h3⟩
 have h2:c= .bool true:=h2;rw[h1,h2]
set_option maxRecDepth 100000 in
theorem lifted (os:Os) (started:os.Started) (H:Type) (enc:TypeId×Value->H) :
 ReturnsInHanded {} Tryz.checked os 4 .any (Rows.gapLeastsSpec.pre6 enc Tryz.prog Tryz.f4 Rows.gapLeastsRow.domain false) (Rows.gapLeastsSpec.post enc Tryz.prog Tryz.f4 false true false false):=by
 refine returnsInHanded_of_change_shaped (C:=Tryz.checked) own started (by kernel_rfl) Tryz.func4
  (ChangeSpec.witness6 (enc:=enc) (C:=Tryz.checked) false ⟨#[],#[.agg #[.slice none 0 0,.int .i64 0,.slice none 0 0,.slice none 0 0,.slice none 0 0,.int .i64 0,.int .i64 0,.slice none 0 0,.slice none 0 0,.int .i64 0]],[]⟩ 8 (by kernel_rfl) (by kernel_rfl) (by kernel_rfl) (by kernel_rfl)) ?_
 intro W base args ds gs before hval0 hW hcnd hwt _ _;have hval: ∀(j:Nat) t v,Tryz.f4.params[j]? =some t->args[j]? =some v->Value.okWide Tryz.prog W .any base t v:=hval0;have hW':=hW;obtain⟨p,q,hA0,hV,rfl,hfz,hnd⟩:=hW;have hA:DataW.TrodAll enc Tryz.prog W 0 (fun _=>true) true Tryz.f4.params.toList args.toList ds p:=hA0;rw[Tryz.params4]at hA hval;have hwt2:(DataW.weightsEach Tryz.prog (Tryz.f4.params.toList++Rows.gapLeastsSpec.plain.varTypes Tryz.prog) (ds++gs)).all (· <=reachBytes)=true:=hwt;rw[Tryz.params4]at hwt2;obtain⟨v0,vs0,d0,ds0,p0,q0,ha0,rfl,rfl,h0,r0⟩:=trodAll_cons hA;obtain⟨rfl,rfl,rfl⟩:=trodAll_nil r0;obtain rfl:args= #[v0]:=by cases args;simp_all
 obtain⟨rfl,rfl⟩:=trodVars_none hV
 have hw0: ∀x∈d0.weights Tryz.prog 48,x<=reachBytes:=fun x hx=>by
  have:=DT.1 hwt2 x (NK _ hx);simpa using this
 have g0:=hval 0 48 v0 rfl rfl;simp only[Value.okWide,Tryz.underlying48]at g0;obtain⟨cs,rfl,hsz,-⟩:=g0;have k0:=h0;have lt0: ∀x∈p0,x.block<W.heap.size:=by obtain⟨m,hm⟩:=k0;exact DataW.trod_lt m _ _ _ hm
 obtain⟨f0,hf0⟩:=h0;obtain⟨g,hp⟩:=yK f0 _ _ _ hf0 hw0;clear hA0 hval0;refine(walk W cs g hp).mono fun e W' ⟨he,bel⟩=>?_
 subst he;exact⟨_,rfl,_,_,_,[],_,[],hW',trodAll_mk1 (shut_bool Tryz.underlying4 _),(trodAll_cons_mk (Below.trod laidOut (by kernel_rfl) (of_decide_eq_true (by kernel_rfl)) k0 bel lt0) trodAll_mk0),rfl,bel.frame _,fun h=>by cases h⟩
set_option maxRecDepth 100000 in
theorem facts:joinedFacts Tryz.prog 4 Tryz.f4 Rows.gapLeastsSpec Rows.gapLeastsRow=true:=by
 unfold joinedFacts;refine FA (FA (FA (FA (FA (FA (FA (FA (FA (FA (FA (FA (FA (FA (FA (FA (FA (FA (FA (FA (FA (FA (FA (FA (FA (FA (FA (FA (FA (FA ?_ ?_) ?_) ?_) ?_) ?_) ?_) ?_) ?_) ?_) ?_) ?_) ?_) ?_) ?_) ?_) ?_) ?_) ?_) ?_) ?_) ?_) ?_) ?_) ?_) ?_) ?_) ?_) ?_) ?_) ?_
 all_goals(as_aux_lemma=>kernel_rfl)
theorem over:Rows.gapLeastsRow.holds Tryz.pinned (OpenSpec.ofChange Rows.gapLeastsSpec):=
 OpenClaim.holds_of_wide 4 Tryz.f4 rfl rfl rfl rfl rfl rfl rfl ⟨rfl,rfl,rfl,rfl,rfl⟩ rfl rfl rfl rfl rfl (by kernel_rfl) Tryz.func4 facts
  (of_decide_eq_true (by kernel_rfl)) (by unfold Func.isWrapper;first|(rw[if_pos (by decide +kernel)];kernel_rfl)|(rw[if_neg (by decide +kernel)];exact⟨rfl,rfl⟩))
  (fun os started H enc _=>lifted os started H enc)
theorem proved:Rows.GapLeastsSaid:=
 over
#print axioms proved
end gapLeasts
end Go.Proofs.YtnidfcmdimehdaaGreat
