/-
  The statement GapRealSaid: a set is told just if there is a bigger world with arguments to which just its methods apply. No conditions: whatever the input, the call returns true and what it was handed reads as it did.
-/
import Derived.HandedShaped
import Derived.Test.YtinppljblkpedaaGreatU21
import Derived.Test.YtinppljblkpedaaGreatU41
import Derived.Test.YtinppljblkpedaaGreatU44
set_option linter.all false
set_option linter.defProp false
set_option maxHeartbeats 8000000
noncomputable section
namespace Go.Proofs.YtinppljblkpedaaGreat
open Go.Gl Go.ChangeShapes Go.WideShapes Go.ChangeAt Go.RowKit
namespace gapReal
theorem walk (w:World) (cs:Array Value) (p:Prog) (hp:cs.toList.length=(BF p).length/\BX (HE w) (fun i=>cs.toList[i]?) 0 (BF p)) (g1:Int) (h1:(Lit.int .i64 g1).wf=true) (g2:Int) (h2:(Lit.int .u8 g2).wf=true):Calls Tryz.prog 3 #[.agg cs,.int .i64 g1,.int .u8 g2] w fun e w'=>e= .returned (.bool true)/\Below w.heap.size w w':=by
 refine Calls.mono (mI (eJ p g1 g2 o0) (cs:= #[.agg cs,.int .i64 g1,.int .u8 g2]) ⟨rfl,⟨_,rfl,y8 hp⟩,⟨_,rfl,vInt h1⟩,⟨_,rfl,vU8 h2⟩,trivial⟩) fun e w' ⟨⟨c,h1,h2⟩,h3⟩=>⟨?_,mJ h3⟩
 have h2:c= .bool true:=h2;rw[h1,h2]
set_option maxRecDepth 100000 in
theorem lifted (os:Os) (started:os.Started) (H:Type) (enc:TypeId×Value->H) :
 ReturnsInHanded {} Tryz.checked os 3 .any (Rows.gapRealSpec.pre6 enc Tryz.prog Tryz.f3 Rows.gapRealRow.domain false) (Rows.gapRealSpec.post enc Tryz.prog Tryz.f3 false true false false):=by
 refine returnsInHanded_of_change_shaped (C:=Tryz.checked) own started (by kernel_rfl) Tryz.func3
  (ChangeSpec.witness6 (enc:=enc) (C:=Tryz.checked) false ⟨#[],#[.agg #[.slice none 0 0,.int .i64 0,.slice none 0 0,.slice none 0 0,.slice none 0 0,.int .i64 0],.int .i64 0,.int .u8 0],[]⟩ 8 (by kernel_rfl) (by kernel_rfl) (by kernel_rfl) (by kernel_rfl)) ?_
 intro W base args ds gs before hval0 hW hcnd hwt _ _;have hval: ∀(j:Nat) t v,Tryz.f3.params[j]? =some t->args[j]? =some v->Value.okWide Tryz.prog W .any base t v:=hval0;have hW':=hW;obtain⟨p,q,hA0,hV,rfl,hfz,hnd⟩:=hW;have hA:DataW.TrodAll enc Tryz.prog W 0 (fun _=>true) true Tryz.f3.params.toList args.toList ds p:=hA0;rw[Tryz.params3]at hA hval;have hwt2:(DataW.weightsEach Tryz.prog (Tryz.f3.params.toList++Rows.gapRealSpec.plain.varTypes Tryz.prog) (ds++gs)).all (· <=reachBytes)=true:=hwt;rw[Tryz.params3]at hwt2;obtain⟨v0,vs0,d0,ds0,p0,q0,ha0,rfl,rfl,h0,r0⟩:=trodAll_cons hA;obtain⟨v1,vs1,d1,ds1,p1,q1,ha1,rfl,rfl,h1,r1⟩:=trodAll_cons r0;obtain⟨v2,vs2,d2,ds2,p2,q2,ha2,rfl,rfl,h2,r2⟩:=trodAll_cons r1;obtain⟨rfl,rfl,rfl⟩:=trodAll_nil r2;subst ha2;subst ha1;obtain rfl:args= #[v0,v1,v2]:=by cases args;simp_all
 obtain⟨rfl,rfl⟩:=trodVars_none hV
 have hw0: ∀x∈d0.weights Tryz.prog 27,x<=reachBytes:=fun x hx=>by
  have:=Cu.1 hwt2 x (NS _ hx);simpa using this
 have g0:=hval 0 27 v0 rfl rfl;simp only[Value.okWide,Tryz.underlying27]at g0;obtain⟨cs,rfl,hsz,-⟩:=g0;obtain⟨g1,rfl⟩:=okWide_int Tryz.underlying3 (hval 1 3 v1 rfl rfl);obtain⟨g2,rfl⟩:=okWide_int Tryz.underlying5 (hval 2 5 v2 rfl rfl);have k0:=h0;have k1:=h1;have k2:=h2;have lt0: ∀x∈p0,x.block<W.heap.size:=by obtain⟨m,hm⟩:=k0;exact DataW.trod_lt m _ _ _ hm
 have lt1: ∀x∈p1,x.block<W.heap.size:=by obtain⟨m,hm⟩:=k1;exact DataW.trod_lt m _ _ _ hm
 have lt2: ∀x∈p2,x.block<W.heap.size:=by obtain⟨m,hm⟩:=k2;exact DataW.trod_lt m _ _ _ hm
 obtain⟨f0,hf0⟩:=h0;obtain⟨f1,hf1⟩:=h1;obtain⟨f2,hf2⟩:=h2;obtain⟨p,hp⟩:=sx f0 _ _ _ hf0 hw0;obtain⟨m1,e1,-,hm1⟩:=DataW.trod_int Tryz.underlying3 hf1;obtain rfl:g1=m1:=by simpa[Value.cells]using e1
 obtain⟨m2,e2,-,hm2⟩:=DataW.trod_int Tryz.underlying5 hf2;obtain rfl:g2=m2:=by simpa[Value.cells]using e2
 clear hA0 hval0;refine(walk W cs p hp g1 hm1 g2 hm2).mono fun e W' ⟨he,bel⟩=>?_
 subst he;exact⟨_,rfl,_,_,_,[],_,[],hW',trodAll_mk1 (shut_bool Tryz.underlying4 _),(trodAll_cons_mk (Below.trod laidOut (by kernel_rfl) (of_decide_eq_true (by kernel_rfl)) k0 bel lt0) (trodAll_cons_mk (Below.trod laidOut (by kernel_rfl) (of_decide_eq_true (by kernel_rfl)) k1 bel lt1) (trodAll_cons_mk (Below.trod laidOut (by kernel_rfl) (of_decide_eq_true (by kernel_rfl)) k2 bel lt2) trodAll_mk0))),rfl,bel.frame _,fun h=>by cases h⟩
set_option maxRecDepth 100000 in
theorem facts:joinedFacts Tryz.prog 3 Tryz.f3 Rows.gapRealSpec Rows.gapRealRow=true:=by
 unfold joinedFacts;refine E2 (E2 (E2 (E2 (E2 (E2 (E2 (E2 (E2 (E2 (E2 (E2 (E2 (E2 (E2 (E2 (E2 (E2 (E2 (E2 (E2 (E2 (E2 (E2 (E2 (E2 (E2 (E2 (E2 (E2 ?_ ?_) ?_) ?_) ?_) ?_) ?_) ?_) ?_) ?_) ?_) ?_) ?_) ?_) ?_) ?_) ?_) ?_) ?_) ?_) ?_) ?_) ?_) ?_) ?_) ?_) ?_) ?_) ?_) ?_) ?_
 all_goals(as_aux_lemma=>kernel_rfl)
theorem over:Rows.gapRealRow.holds Tryz.pinned (OpenSpec.ofChange Rows.gapRealSpec):=
 OpenClaim.holds_of_wide 3 Tryz.f3 rfl rfl rfl rfl rfl rfl rfl ⟨rfl,rfl,rfl,rfl,rfl⟩ rfl rfl rfl rfl rfl (by kernel_rfl) Tryz.func3 facts
  (of_decide_eq_true (by kernel_rfl)) (by unfold Func.isWrapper;first|(rw[if_pos (by decide +kernel)];kernel_rfl)|(rw[if_neg (by decide +kernel)];exact⟨rfl,rfl⟩))
  (fun os started H enc _=>lifted os started H enc)
theorem proved:Rows.GapRealSaid:=
 over
#print axioms proved
end gapReal
end Go.Proofs.YtinppljblkpedaaGreat
