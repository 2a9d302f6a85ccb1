/-
  The statement RankFirstSaid: in the plan of a call each method applies, each one of a chain implies all behind it, a chain has all methods that apply just if it is not torn, without its first one it is what is left of it, and nobody among the before methods is ahead of one that stands ahead of it. No conditions: whatever the input, the call returns true and what it was handed reads as it did.
-/
import Derived.HandedShaped
import Derived.Test.YtijbpgdmpejgoaaGreatU16
import Derived.Test.YtijbpgdmpejgoaaGreatU19
set_option linter.all false
set_option linter.defProp false
noncomputable section
namespace Go.Proofs.YtijbpgdmpejgoaaGreat
open Go.Gl Go.ChangeShapes Go.WideShapes Go.ChangeAt Go.RowKit
namespace rankFirst
theorem walk (w:World) (cs:Array Value) (p:Prog) (hp:cs.toList.length=(BR p).length∧Be (HE w) (fun i=>cs.toList[i]?) 0 (BR p)) (v1:Value) (l1:List Ob) (h1:Ae (HE w) (.l (l1.map F0) false) v1) (g2:Int) (h2:(Lit.int .i64 g2).wf=true) (v3:Value) (l3:List (Int×Int)) (h3:Ae (HE w) (.l (pP l3) false) v3):Calls Tryz.prog 10 #[.agg cs,v1,.int .i64 g2,v3] w fun e w'=>e= .returned (.bool true)∧Below w.heap.size w w':=by
 refine Calls.mono (b9 (Tj p l1 false g2 l3 false eG) (cs:= #[.agg cs,v1,.int .i64 g2,v3]) ⟨rfl,⟨_,rfl,od hp⟩,⟨_,rfl,h1⟩,⟨_,rfl,uf h2⟩,⟨_,rfl,h3⟩,trivial⟩) fun e w' ⟨⟨c,h1,h2⟩,h3⟩=>⟨?_,cA h3⟩
 have h2:c= .bool true:=h2;rw[h1,h2]
set_option maxRecDepth 100000 in
theorem lifted (os:Os) (started:os.Started) (H:Type) (enc:TypeId×Value→H) :
 ReturnsInHanded {} Tryz.checked os 10 .any (Rows.rankFirstSpec.pre6 enc Tryz.prog Tryz.f10 Rows.rankFirstRow.domain false) (Rows.rankFirstSpec.post enc Tryz.prog Tryz.f10 false true false false):=by
 refine returnsInHanded_of_change_shaped (C:=Tryz.checked) own started (by kernel_rfl) Tryz.func10
  (ChangeSpec.witness6 (enc:=enc) (C:=Tryz.checked) false ⟨#[],#[.agg #[.slice none 0 0,.int .i64 0,.slice none 0 0,.slice none 0 0,.slice none 0 0,.int .i64 0],.slice none 0 0,.int .i64 0,.slice none 0 0],[]⟩ 8 (by kernel_rfl) (by kernel_rfl) (by kernel_rfl) (by kernel_rfl)) ?_
 intro W base args ds gs before hval0 hW hcnd hwt _ _;have hval: ∀(j:Nat) t v,Tryz.f10.params[j]? =some t→args[j]? =some v→Value.okWide Tryz.prog W .any base t v:=hval0;have hW':=hW;obtain⟨p,q,hA0,hV,rfl,hfz,hnd⟩:=hW;have Y:DataW.TrodAll enc Tryz.prog W 0 (fun _=>true) true Tryz.f10.params.toList args.toList ds p:=hA0;rw[Tryz.params10]at Y hval;have hwt2:(DataW.weightsEach Tryz.prog (Tryz.f10.params.toList++Rows.rankFirstSpec.plain.varTypes Tryz.prog) (ds++gs)).all (· ≤reachBytes)=true:=hwt;rw[Tryz.params10]at hwt2;obtain⟨v0,vs0,d0,ds0,p0,q0,ha0,rfl,rfl,h0,r0⟩:=trodAll_cons Y;obtain⟨v1,vs1,d1,ds1,p1,q1,ha1,rfl,rfl,h1,r1⟩:=trodAll_cons r0;obtain⟨v2,vs2,d2,ds2,p2,q2,ha2,rfl,rfl,h2,r2⟩:=trodAll_cons r1;obtain⟨v3,vs3,d3,ds3,p3,q3,ha3,rfl,rfl,h3,r3⟩:=trodAll_cons r2;obtain⟨rfl,rfl,rfl⟩:=trodAll_nil r3;subst ha3;subst ha2;subst ha1;obtain rfl:args= #[v0,v1,v2,v3]:=by cases args;simp_all
 obtain⟨rfl,rfl⟩:=trodVars_none hV
 have hw0: ∀x∈d0.weights Tryz.prog 27,x≤reachBytes:=fun x hx=>by
  have:=EN.1 hwt2 x (PL _ hx);simpa using this
 have hw1: ∀x∈d1.weights Tryz.prog 41,x≤reachBytes:=fun x hx=>by
  have:=EN.1 hwt2 x (PH _ (PL _ hx));simpa using this
 have hw3: ∀x∈d3.weights Tryz.prog 42,x≤reachBytes:=fun x hx=>by
  have:=EN.1 hwt2 x (PH _ (PH _ (PH _ (PL _ hx))));simpa using this
 have g0:=hval 0 27 v0 rfl rfl;simp only[Value.okWide,Tryz.underlying27]at g0;obtain⟨cs,rfl,hsz,-⟩:=g0;obtain⟨g2,rfl⟩:=okWide_int Tryz.underlying3 (hval 2 3 v2 rfl rfl);have k0:=h0;have k1:=h1;have k2:=h2;have k3:=h3;have lt0: ∀x∈p0,x.block<W.heap.size:=by obtain⟨m,hm⟩:=k0;exact DataW.trod_lt m _ _ _ hm
 have lt1: ∀x∈p1,x.block<W.heap.size:=by obtain⟨m,hm⟩:=k1;exact DataW.trod_lt m _ _ _ hm
 have lt2: ∀x∈p2,x.block<W.heap.size:=by obtain⟨m,hm⟩:=k2;exact DataW.trod_lt m _ _ _ hm
 have lt3: ∀x∈p3,x.block<W.heap.size:=by obtain⟨m,hm⟩:=k3;exact DataW.trod_lt m _ _ _ hm
 obtain⟨f0,hf0⟩:=h0;obtain⟨f1,hf1⟩:=h1;obtain⟨f2,hf2⟩:=h2;obtain⟨f3,hf3⟩:=h3;obtain⟨p,hp⟩:=iO f0 _ _ _ hf0 hw0;obtain⟨l1,-,hl1⟩:=oj f1 _ _ _ hf1 hw1
 have hv1:Ae (HE W) (.l (l1.map F0) false) v1:=by
  obtain⟨⟨c,hc,hr⟩,-⟩:=hl1;have g1:=hval 1 41 v1 rfl rfl;simp only[Value.okWide,Tryz.underlying41]at g1;cases v1 with
  | agg vs=>exact absurd g1 (by simp[Cell.okWide,Cell.ok,Tryz.underlying41])
  | _=>
    simp only[Value.cells,List.getElem?_toArray,cb,IH]at hc;subst hc;exact hr
 obtain⟨m2,e2,-,hm2⟩:=DataW.trod_int Tryz.underlying3 hf2;obtain rfl:g2=m2:=by simpa[Value.cells]using e2
 obtain⟨l3,-,hl3⟩:=ZT f3 _ _ _ hf3 hw3
 have hv3:Ae (HE W) (.l (pP l3) false) v3:=by
  obtain⟨⟨c,hc,hr⟩,-⟩:=hl3;have g3:=hval 3 42 v3 rfl rfl;simp only[Value.okWide,Tryz.underlying42]at g3;cases v3 with
  | agg vs=>exact absurd g3 (by simp[Cell.okWide,Cell.ok,Tryz.underlying42])
  | _=>
    simp only[Value.cells,List.getElem?_toArray,cb,IH]at hc;subst hc;exact hr
 clear hA0 hval0;refine(walk W cs p hp v1 l1 hv1 g2 hm2 v3 l3 hv3).mono fun e W' ⟨he,bel⟩=>?_
 subst he;exact⟨_,rfl,_,_,_,[],_,[],hW',trodAll_mk1 (shut_bool Tryz.underlying4 _),(trodAll_cons_mk (Below.trod laidOut (by kernel_rfl) (of_decide_eq_true (by kernel_rfl)) k0 bel lt0) (trodAll_cons_mk (Below.trod laidOut (by kernel_rfl) (of_decide_eq_true (by kernel_rfl)) k1 bel lt1) (trodAll_cons_mk (Below.trod laidOut (by kernel_rfl) (of_decide_eq_true (by kernel_rfl)) k2 bel lt2) (trodAll_cons_mk (Below.trod laidOut (by kernel_rfl) (of_decide_eq_true (by kernel_rfl)) k3 bel lt3) trodAll_mk0)))),rfl,bel.frame _,fun h=>by cases h⟩
set_option maxRecDepth 100000 in
set_option maxHeartbeats 4000000 in
theorem facts:joinedFacts Tryz.prog 10 Tryz.f10 Rows.rankFirstSpec Rows.rankFirstRow=true:=by
 unfold joinedFacts;refine En (En (En (En (En (En (En (En (En (En (En (En (En (En (En (En (En (En (En (En (En (En (En (En (En (En (En (En (En (En ?_ ?_) ?_) ?_) ?_) ?_) ?_) ?_) ?_) ?_) ?_) ?_) ?_) ?_) ?_) ?_) ?_) ?_) ?_) ?_) ?_) ?_) ?_) ?_) ?_) ?_) ?_) ?_) ?_) ?_) ?_
 all_goals(as_aux_lemma=>kernel_rfl)
theorem over:Rows.rankFirstRow.holds Tryz.pinned (OpenSpec.ofChange Rows.rankFirstSpec):=
 OpenClaim.holds_of_wide 10 Tryz.f10 rfl rfl rfl rfl rfl rfl rfl ⟨rfl,rfl,rfl,rfl,rfl⟩ rfl rfl rfl rfl rfl (by kernel_rfl) Tryz.func10 facts
  (of_decide_eq_true (by kernel_rfl)) (by unfold Func.isWrapper;first|(rw[if_pos (by decide +kernel)];kernel_rfl)|(rw[if_neg (by decide +kernel)];exact⟨rfl,rfl⟩))
  (fun os started H enc _=>lifted os started H enc)
theorem proved:Rows.RankFirstSaid:=
 over
#print axioms proved
end rankFirst
end Go.Proofs.YtijbpgdmpejgoaaGreat
