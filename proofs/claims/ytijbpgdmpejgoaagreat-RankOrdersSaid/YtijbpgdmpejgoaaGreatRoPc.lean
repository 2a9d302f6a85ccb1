/-
  The statement RankOrdersSaid: the order of a function's methods of a kind, and its twins, or the errors, are as the reference says. No conditions: whatever the program and the numbers, the call returns true and what it was handed reads as it did.
-/
import Derived.Test.YtijbpgdmpejgoaaGreatRows
import Derived.HandedShaped
import Derived.Test.YtijbpgdmpejgoaaGreatS16
import Derived.Test.YtijbpgdmpejgoaaGreatS19
import Derived.Test.YtijbpgdmpejgoaaGreatS20
set_option linter.all false
noncomputable section
namespace Go.Proofs.YtijbpgdmpejgoaaGreat.Wb
open Go.Gl Go.ChangeShapes Go.WideShapes Go.ChangeAt Go.RowKit
theorem own:ownKnob Tryz.prog.godebug=none:=by kernel_rfl
theorem laidOut:laidOutB Tryz.prog=true:=by kernel_rfl
theorem walk (w:World) (cs:Array Value) (m n:Int) (p:Prog) (hp:cs.toList.length=(Bd p).length∧Bl (Hh (fun _=>False) emp w) (fun i=>cs.toList[i]?) 0 (Bd p)) (hm:(Lit.int .i64 m).wf=true) (hn:(Lit.int .i8 n).wf=true) :
 Calls Tryz.prog 4 #[.agg cs,.int .i64 m,.int .i8 n] w fun e w'=>e= .returned (.bool true)∧Below w.heap.size w w':=by
 simp only[Lit.wf,Bj,D4]at hm hn
 have hv:Ac (Hh (fun _=>False) emp w) (.a (Bd p)) (.agg cs):=by
  simp only[Ac];exact⟨cs,rfl,by simpa using hp.1,by simpa using hp.2⟩
 have hn8: -128≤n∧n<128:=by have h1:=hn.1;have h2:=hn.2;simp only[IntKind.min,IntKind.max,IntKind.signed,IntKind.bits]at h1 h2;simp at h1 h2;omega
 have hvm:Ac (Hh (fun _=>False) emp w) (eI m) (.int .i64 m):=by
  simp only[Ac];exact⟨trivial,hm⟩
 have hvn:Ac (Hh (fun _=>False) emp w) (.i .i8 n) (.int .i8 n):=by
  simp only[Ac];exact⟨trivial,hn⟩
 refine Calls.mono (eV (VI p m n hn8 pe23.2.2) (cs:= #[.agg cs,.int .i64 m,.int .i8 n]) ⟨rfl,⟨_,rfl,hv⟩,⟨_,rfl,hvm⟩,⟨_,rfl,hvn⟩,trivial⟩) fun e w' ⟨⟨c,h1,h2⟩,h3⟩=>⟨?_,eX h3⟩
 have h2:c= .bool true:=h2;rw[h1,h2]
set_option maxRecDepth 100000 in
theorem lifted (os:Os) (started:os.Started) (H:Type) (enc:TypeId×Value→H) :
 ReturnsInHanded {} Tryz.checked os 4 .any (Rows.rankOrdersSpec.pre6 enc Tryz.prog Tryz.f4 Rows.rankOrdersRow.domain false) (Rows.rankOrdersSpec.post enc Tryz.prog Tryz.f4 false true false false):=by
 refine returnsInHanded_of_change_shaped (C:=Tryz.checked) own started (by kernel_rfl) Tryz.func4
  (ChangeSpec.witness6 (enc:=enc) (C:=Tryz.checked) false ⟨#[],#[.agg #[.slice none 0 0,.int .i64 0,.slice none 0 0,.slice none 0 0,.slice none 0 0,.int .i64 0],.int .i64 0,.int .i8 0],[]⟩ 8 (by kernel_rfl) (by kernel_rfl) (by kernel_rfl) (by kernel_rfl)) ?_
 intro W base args ds gs before hval0 hW hcnd hwt _ _;have hval: ∀(j:Nat) t v,Tryz.f4.params[j]? =some t→args[j]? =some v→Value.okWide Tryz.prog W .any base t v:=hval0;have hW':=hW;obtain⟨p,q,hA0,hV,rfl,hfz,hnd⟩:=hW;have Y:DataW.TrodAll enc Tryz.prog W 0 (fun _=>true) true Tryz.f4.params.toList args.toList ds p:=hA0;rw[Tryz.params4]at Y hval;have hwt2:(DataW.weightsEach Tryz.prog (Tryz.f4.params.toList++Rows.rankOrdersSpec.plain.varTypes Tryz.prog) (ds++gs)).all (· ≤reachBytes)=true:=hwt;rw[Tryz.params4]at hwt2;obtain⟨v0,vs0,d0,ds0,p0,q0,hargs,rfl,rfl,h0,r0⟩:=trodAll_cons Y;obtain⟨v1,vs1,d1,ds1,p1,q1,hargs1,rfl,rfl,h1,r1⟩:=trodAll_cons r0;obtain⟨v2,vs2,d2,ds2,p2,q2,hargs2,rfl,rfl,h2,r2⟩:=trodAll_cons r1;obtain⟨rfl,rfl,rfl⟩:=trodAll_nil r2;subst hargs2;subst hargs1;obtain rfl:args= #[v0,v1,v2]:=by cases args;simp_all
 obtain⟨rfl,rfl⟩:=trodVars_none hV
 have hwt3: ∀x∈d0.weights Tryz.prog 27,x≤reachBytes:=fun x hx=>by
  have:=I0.1 hwt2 x (Vj _ hx);simpa using this
 have g0:=hval 0 27 v0 rfl rfl;simp only[Value.okWide,Tryz.underlying27]at g0;obtain⟨cs,rfl,hsz,-⟩:=g0;obtain⟨m,rfl⟩:=okWide_int Tryz.underlying3 (hval 1 3 v1 rfl rfl);obtain⟨n,rfl⟩:=okWide_int Tryz.underlying33 (hval 2 33 v2 rfl rfl);have k0:=h0;have k1:=h1;have k2:=h2;have lt0: ∀x∈p0,x.block<W.heap.size:=by obtain⟨m,hm⟩:=k0;exact DataW.trod_lt m _ _ _ hm
 have lt1: ∀x∈p1,x.block<W.heap.size:=by obtain⟨m,hm⟩:=k1;exact DataW.trod_lt m _ _ _ hm
 have lt2: ∀x∈p2,x.block<W.heap.size:=by obtain⟨m,hm⟩:=k2;exact DataW.trod_lt m _ _ _ hm
 obtain⟨f0,hf0⟩:=h0;obtain⟨f1,hf1⟩:=h1;obtain⟨f2,hf2⟩:=h2;obtain⟨p,hp⟩:=tp f0 _ _ _ hf0 hwt3;obtain⟨m',e1,-,hm⟩:=DataW.trod_int Tryz.underlying3 hf1;obtain⟨n',e2,-,hn⟩:=DataW.trod_int Tryz.underlying33 hf2;obtain rfl:m=m':=by simpa[Value.cells]using e1
 obtain rfl:n=n':=by simpa[Value.cells]using e2
 clear hA0 hval0;refine(walk W cs m n p hp hm hn).mono fun e W' ⟨he,bel⟩=>?_
 subst he;exact⟨_,rfl,_,_,_,[],_,[],hW',trodAll_mk1 (shut_bool Tryz.underlying4 _),(trodAll_cons_mk (Below.trod laidOut (by kernel_rfl) (of_decide_eq_true (by kernel_rfl)) k0 bel lt0) (trodAll_cons_mk (Below.trod laidOut (by kernel_rfl) (of_decide_eq_true (by kernel_rfl)) k1 bel lt1) (trodAll_cons_mk (Below.trod laidOut (by kernel_rfl) (of_decide_eq_true (by kernel_rfl)) k2 bel lt2) trodAll_mk0))),rfl,bel.frame _,fun h=>by cases h⟩
theorem Ez {a b:Bool} (h1:a=true) (h2:b=true):(a&&b)=true:=by rw[h1,h2];rfl
set_option maxRecDepth 100000 in
set_option maxHeartbeats 4000000 in
theorem facts:joinedFacts Tryz.prog 4 Tryz.f4 Rows.rankOrdersSpec Rows.rankOrdersRow=true:=by
 unfold joinedFacts;refine Ez (Ez (Ez (Ez (Ez (Ez (Ez (Ez (Ez (Ez (Ez (Ez (Ez (Ez (Ez (Ez (Ez (Ez (Ez (Ez (Ez (Ez (Ez (Ez (Ez (Ez (Ez (Ez (Ez (Ez ?_ ?_) ?_) ?_) ?_) ?_) ?_) ?_) ?_) ?_) ?_) ?_) ?_) ?_) ?_) ?_) ?_) ?_) ?_) ?_) ?_) ?_) ?_) ?_) ?_) ?_) ?_) ?_) ?_) ?_) ?_
 all_goals(as_aux_lemma=>kernel_rfl)
theorem over:Rows.rankOrdersRow.holds Tryz.pinned (OpenSpec.ofChange Rows.rankOrdersSpec):=
 OpenClaim.holds_of_wide 4 Tryz.f4 rfl rfl rfl rfl rfl rfl rfl ⟨rfl,rfl,rfl,rfl,rfl⟩ rfl rfl rfl rfl rfl (by kernel_rfl) Tryz.func4 facts
  (of_decide_eq_true (by kernel_rfl)) (by unfold Func.isWrapper;first|(rw[if_pos (by decide +kernel)];kernel_rfl)|(rw[if_neg (by decide +kernel)];exact⟨rfl,rfl⟩))
  (fun os started H enc _=>lifted os started H enc)
theorem proved:Rows.RankOrdersSaid:=
 over
#print axioms proved
end Go.Proofs.YtijbpgdmpejgoaaGreat.Wb
