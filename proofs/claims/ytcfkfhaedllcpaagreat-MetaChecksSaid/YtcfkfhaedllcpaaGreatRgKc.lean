/-
  The statement MetaChecksSaid: which protocols are formed, the usual one, and metaclasses on levels, are as stated. No conditions: whatever the input, the call returns true and what it was handed reads as it did.
-/
import Derived.HandedShaped
import Derived.Test.YtcfkfhaedllcpaaGreatU21
import Derived.Test.YtcfkfhaedllcpaaGreatU24
import Derived.Test.YtcfkfhaedllcpaaGreatU32
set_option linter.all false
set_option linter.defProp false
set_option maxHeartbeats 8000000
noncomputable section
namespace Go.Proofs.YtcfkfhaedllcpaaGreat
open Go.Gl Go.ChangeShapes Go.WideShapes Go.ChangeAt Go.RowKit
namespace IA
theorem walk (w:World) (cs:Array Value) (p:Prog) (hp:cs.toList.length=(A7 p).length/\A8 (HE w) (fun i=>cs.toList[i]?) 0 (A7 p)) (cq:Array Value) (pr:II) (hpr:cq.toList.length=(FG pr).length/\A8 (HE w) (fun i=>cq.toList[i]?) 0 (FG pr)) (g2:Int) (h2:(Lit.int .i64 g2).wf=true) (g3:Int) (h3:(Lit.int .i64 g3).wf=true):Calls Tryz.prog 6 #[.agg cs,.agg cq,.int .i64 g2,.int .i64 g3] w fun e w'=>e= .returned (.bool true)/\Below w.heap.size w w':=by
 refine Calls.mono (XP (IA p pr g2 g3 (jd h3) known) (cs:= #[.agg cs,.agg cq,.int .i64 g2,.int .i64 g3]) ⟨rfl,⟨_,rfl,ga hp⟩,⟨_,rfl,jX hpr⟩,⟨_,rfl,fu h2⟩,⟨_,rfl,fu h3⟩,trivial⟩) fun e w' ⟨⟨c,h1,h2⟩,h3⟩=>⟨?_,XS h3⟩
 have h2:c= .bool true:=h2;rw[h1,h2]
set_option maxRecDepth 100000 in
theorem lifted (os:Os) (started:os.Started) (H:Type) (enc:TypeId×Value->H) :
 ReturnsInHanded {} Tryz.checked os 6 .any (Rows.metaChecksSpec.pre6 enc Tryz.prog Tryz.f6 Rows.metaChecksRow.domain false) (Rows.metaChecksSpec.post enc Tryz.prog Tryz.f6 false true false false):=by
 refine returnsInHanded_of_change_shaped (C:=Tryz.checked) own started (by kernel_rfl) Tryz.func6
  (ChangeSpec.witness6 (enc:=enc) (C:=Tryz.checked) false ⟨#[],#[.agg #[.slice none 0 0,.int .i64 0,.slice none 0 0,.slice none 0 0,.slice none 0 0,.int .i64 0],.agg #[.slice none 0 0,.slice none 0 0,.slice none 0 0],.int .i64 0,.int .i64 0],[]⟩ 8 (by kernel_rfl) (by kernel_rfl) (by kernel_rfl) (by kernel_rfl)) ?_
 intro W base args ds gs before hval0 hW hcnd hwt _ _;have hval: ∀(j:Nat) t v,Tryz.f6.params[j]? =some t->args[j]? =some v->Value.okWide Tryz.prog W .any base t v:=hval0;have hW':=hW;obtain⟨p,q,hA0,hV,rfl,hfz,hnd⟩:=hW;have hA:DataW.TrodAll enc Tryz.prog W 0 (fun _=>true) true Tryz.f6.params.toList args.toList ds p:=hA0;rw[Tryz.params6]at hA hval;have hwt2:(DataW.weightsEach Tryz.prog (Tryz.f6.params.toList++Rows.metaChecksSpec.plain.varTypes Tryz.prog) (ds++gs)).all (· <=reachBytes)=true:=hwt;rw[Tryz.params6]at hwt2;obtain⟨v0,vs0,d0,ds0,p0,q0,ha0,rfl,rfl,h0,r0⟩:=trodAll_cons hA;obtain⟨v1,vs1,d1,ds1,p1,q1,ha1,rfl,rfl,h1,r1⟩:=trodAll_cons r0;obtain⟨v2,vs2,d2,ds2,p2,q2,ha2,rfl,rfl,h2,r2⟩:=trodAll_cons r1;obtain⟨v3,vs3,d3,ds3,p3,q3,ha3,rfl,rfl,h3,r3⟩:=trodAll_cons r2;obtain⟨rfl,rfl,rfl⟩:=trodAll_nil r3;subst ha3;subst ha2;subst ha1;obtain rfl:args= #[v0,v1,v2,v3]:=by cases args;simp_all
 obtain⟨rfl,rfl⟩:=trodVars_none hV
 have hw0: ∀x∈d0.weights Tryz.prog 27,x<=reachBytes:=fun x hx=>by
  have:=JD.1 hwt2 x (On _ hx);simpa using this
 have hw1: ∀x∈d1.weights Tryz.prog 31,x<=reachBytes:=fun x hx=>by
  have:=JD.1 hwt2 x (TO _ (On _ hx));simpa using this
 have g0:=hval 0 27 v0 rfl rfl;simp only[Value.okWide,Tryz.underlying27]at g0;obtain⟨cs,rfl,hsz,-⟩:=g0;have g1:=hval 1 31 v1 rfl rfl;simp only[Value.okWide,Tryz.underlying31]at g1;obtain⟨cq,rfl,hszq,-⟩:=g1;obtain⟨g2,rfl⟩:=okWide_int Tryz.underlying3 (hval 2 3 v2 rfl rfl);obtain⟨g3,rfl⟩:=okWide_int Tryz.underlying3 (hval 3 3 v3 rfl rfl);have k0:=h0;have k1:=h1;have k2:=h2;have k3:=h3;have lt0: ∀x∈p0,x.block<W.heap.size:=by obtain⟨m,hm⟩:=k0;exact DataW.trod_lt m _ _ _ hm
 have lt1: ∀x∈p1,x.block<W.heap.size:=by obtain⟨m,hm⟩:=k1;exact DataW.trod_lt m _ _ _ hm
 have lt2: ∀x∈p2,x.block<W.heap.size:=by obtain⟨m,hm⟩:=k2;exact DataW.trod_lt m _ _ _ hm
 have lt3: ∀x∈p3,x.block<W.heap.size:=by obtain⟨m,hm⟩:=k3;exact DataW.trod_lt m _ _ _ hm
 obtain⟨f0,hf0⟩:=h0;obtain⟨f1,hf1⟩:=h1;obtain⟨f2,hf2⟩:=h2;obtain⟨f3,hf3⟩:=h3;obtain⟨p,hp⟩:=bV f0 _ _ _ hf0 hw0;obtain⟨pr,hpr⟩:=gl f1 _ _ _ hf1 hw1;obtain⟨m2,e2,-,hm2⟩:=DataW.trod_int Tryz.underlying3 hf2;obtain rfl:g2=m2:=by simpa[Value.cells]using e2
 obtain⟨m3,e3,-,hm3⟩:=DataW.trod_int Tryz.underlying3 hf3;obtain rfl:g3=m3:=by simpa[Value.cells]using e3
 clear hA0 hval0;refine(walk W cs p hp cq pr hpr g2 hm2 g3 hm3).mono fun e W' ⟨he,bel⟩=>?_
 subst he;exact⟨_,rfl,_,_,_,[],_,[],hW',trodAll_mk1 (shut_bool Tryz.underlying4 _),(trodAll_cons_mk (Below.trod laidOut (by kernel_rfl) (of_decide_eq_true (by kernel_rfl)) k0 bel lt0) (trodAll_cons_mk (Below.trod laidOut (by kernel_rfl) (of_decide_eq_true (by kernel_rfl)) k1 bel lt1) (trodAll_cons_mk (Below.trod laidOut (by kernel_rfl) (of_decide_eq_true (by kernel_rfl)) k2 bel lt2) (trodAll_cons_mk (Below.trod laidOut (by kernel_rfl) (of_decide_eq_true (by kernel_rfl)) k3 bel lt3) trodAll_mk0)))),rfl,bel.frame _,fun h=>by cases h⟩
set_option maxRecDepth 100000 in
theorem facts:joinedFacts Tryz.prog 6 Tryz.f6 Rows.metaChecksSpec Rows.metaChecksRow=true:=by
 unfold joinedFacts;refine DT (DT (DT (DT (DT (DT (DT (DT (DT (DT (DT (DT (DT (DT (DT (DT (DT (DT (DT (DT (DT (DT (DT (DT (DT (DT (DT (DT (DT (DT ?_ ?_) ?_) ?_) ?_) ?_) ?_) ?_) ?_) ?_) ?_) ?_) ?_) ?_) ?_) ?_) ?_) ?_) ?_) ?_) ?_) ?_) ?_) ?_) ?_) ?_) ?_) ?_) ?_) ?_) ?_
 all_goals(as_aux_lemma=>kernel_rfl)
def je:Rows.metaChecksRow.holds Tryz.pinned (OpenSpec.ofChange Rows.metaChecksSpec):=
 OpenClaim.holds_of_wide 6 Tryz.f6 rfl rfl rfl rfl rfl rfl rfl ⟨rfl,rfl,rfl,rfl,rfl⟩ rfl rfl rfl rfl rfl (by kernel_rfl) Tryz.func6 facts
  (of_decide_eq_true (by kernel_rfl)) (by unfold Func.isWrapper;first|(rw[if_pos (by decide +kernel)];kernel_rfl)|(rw[if_neg (by decide +kernel)];exact⟨rfl,rfl⟩))
  (fun os started H enc _=>lifted os started H enc)
theorem proved:Rows.MetaChecksSaid:=
 je
#print axioms proved
end IA
end Go.Proofs.YtcfkfhaedllcpaaGreat
