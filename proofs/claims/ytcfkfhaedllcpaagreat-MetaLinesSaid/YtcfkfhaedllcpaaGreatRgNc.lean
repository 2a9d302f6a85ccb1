/-
  The statement MetaLinesSaid: lines of methods, and what values are folded to, are as stated. No conditions: whatever the input, the call returns true and what it was handed reads as it did.
-/
import Derived.HandedShaped
import Derived.Test.YtcfkfhaedllcpaaGreatV25
import Derived.Test.YtcfkfhaedllcpaaGreatV37
import Derived.Test.YtcfkfhaedllcpaaGreatV45
set_option linter.all false
set_option linter.defProp false
set_option maxHeartbeats 8000000
noncomputable section
namespace Go.Proofs.YtcfkfhaedllcpaaGreat
open Go.Gl Go.ChangeShapes Go.WideShapes Go.ChangeAt Go.RowKit
namespace Nc
theorem walk (w:World) (cs:Array Value) (p:Prog) (hp:cs.toList.length=(BK p).length/\BS (HE w) (fun i=>cs.toList[i]?) 0 (BK p)) (cq:Array Value) (pr:RN) (hpr:cq.toList.length=(JK pr).length/\BS (HE w) (fun i=>cq.toList[i]?) 0 (JK pr)) (v2:Value) (l2:List Int) (h2:Aa (HE w) (.l (iL l2) false) v2) (g3:Int) (h3:(Lit.int .i64 g3).wf=true) (v4:Value) (l4:List (Int×Int)) (h4:Aa (HE w) (.l (pP l4) false) v4):Calls Tryz.prog 3 #[.agg cs,.agg cq,v2,.int .i64 g3,v4] w fun e w'=>e= .returned (.bool true)/\Below w.heap.size w w':=by
 refine Calls.mono (kT (Nc p pr l2 false g3 l4 false known) (cs:= #[.agg cs,.agg cq,v2,.int .i64 g3,v4]) ⟨rfl,⟨_,rfl,xy hp⟩,⟨_,rfl,vPrt hpr⟩,⟨_,rfl,h2⟩,⟨_,rfl,vInt h3⟩,⟨_,rfl,h4⟩,trivial⟩) fun e w' ⟨⟨c,h1,h2⟩,h3⟩=>⟨?_,kV h3⟩
 have h2:c= .bool true:=h2;rw[h1,h2]
set_option maxRecDepth 100000 in
theorem lifted (os:Os) (started:os.Started) (H:Type) (enc:TypeId×Value->H) :
 ReturnsInHanded {} Tryz.checked os 3 .any (Rows.metaLinesSpec.pre6 enc Tryz.prog Tryz.f3 Rows.metaLinesRow.domain false) (Rows.metaLinesSpec.post enc Tryz.prog Tryz.f3 false true false false):=by
 refine returnsInHanded_of_change_shaped (C:=Tryz.checked) own started (by kernel_rfl) Tryz.func3
  (ChangeSpec.witness6 (enc:=enc) (C:=Tryz.checked) false ⟨#[],#[.agg #[.slice none 0 0,.int .i64 0,.slice none 0 0,.slice none 0 0,.slice none 0 0,.int .i64 0],.agg #[.slice none 0 0,.slice none 0 0,.slice none 0 0],.slice none 0 0,.int .i64 0,.slice none 0 0],[]⟩ 8 (by kernel_rfl) (by kernel_rfl) (by kernel_rfl) (by kernel_rfl)) ?_
 intro W base args ds gs before hval0 hW hcnd hwt _ _;have hval: ∀(j:Nat) t v,Tryz.f3.params[j]? =some t->args[j]? =some v->Value.okWide Tryz.prog W .any base t v:=hval0;have hW':=hW;obtain⟨p,q,hA0,hV,rfl,hfz,hnd⟩:=hW;have hA:DataW.TrodAll enc Tryz.prog W 0 (fun _=>true) true Tryz.f3.params.toList args.toList ds p:=hA0;rw[Tryz.params3]at hA hval;have hwt2:(DataW.weightsEach Tryz.prog (Tryz.f3.params.toList++Rows.metaLinesSpec.plain.varTypes Tryz.prog) (ds++gs)).all (· <=reachBytes)=true:=hwt;rw[Tryz.params3]at hwt2;obtain⟨v0,vs0,d0,ds0,p0,q0,ha0,rfl,rfl,h0,r0⟩:=trodAll_cons hA;obtain⟨v1,vs1,d1,ds1,p1,q1,ha1,rfl,rfl,h1,r1⟩:=trodAll_cons r0;obtain⟨v2,vs2,d2,ds2,p2,q2,ha2,rfl,rfl,h2,r2⟩:=trodAll_cons r1;obtain⟨v3,vs3,d3,ds3,p3,q3,ha3,rfl,rfl,h3,r3⟩:=trodAll_cons r2;obtain⟨v4,vs4,d4,ds4,p4,q4,ha4,rfl,rfl,h4,r4⟩:=trodAll_cons r3;obtain⟨rfl,rfl,rfl⟩:=trodAll_nil r4;subst ha4;subst ha3;subst ha2;subst ha1;obtain rfl:args= #[v0,v1,v2,v3,v4]:=by cases args;simp_all
 obtain⟨rfl,rfl⟩:=trodVars_none hV
 have hw0: ∀x∈d0.weights Tryz.prog 27,x<=reachBytes:=fun x hx=>by
  have:=Er.1 hwt2 x (Q9 _ hx);simpa using this
 have hw1: ∀x∈d1.weights Tryz.prog 31,x<=reachBytes:=fun x hx=>by
  have:=Er.1 hwt2 x (N1 _ (Q9 _ hx));simpa using this
 have hw2: ∀x∈d2.weights Tryz.prog 23,x<=reachBytes:=fun x hx=>by
  have:=Er.1 hwt2 x (N1 _ (N1 _ (Q9 _ hx)));simpa using this
 have hw4: ∀x∈d4.weights Tryz.prog 33,x<=reachBytes:=fun x hx=>by
  have:=Er.1 hwt2 x (N1 _ (N1 _ (N1 _ (N1 _ (Q9 _ hx)))));simpa using this
 have g0:=hval 0 27 v0 rfl rfl;simp only[Value.okWide,Tryz.underlying27]at g0;obtain⟨cs,rfl,hsz,-⟩:=g0;have g1:=hval 1 31 v1 rfl rfl;simp only[Value.okWide,Tryz.underlying31]at g1;obtain⟨cq,rfl,hszq,-⟩:=g1;obtain⟨g3,rfl⟩:=okWide_int Tryz.underlying32 (hval 3 32 v3 rfl rfl);have k0:=h0;have k1:=h1;have k2:=h2;have k3:=h3;have k4:=h4;have lt0: ∀x∈p0,x.block<W.heap.size:=by obtain⟨m,hm⟩:=k0;exact DataW.trod_lt m _ _ _ hm
 have lt1: ∀x∈p1,x.block<W.heap.size:=by obtain⟨m,hm⟩:=k1;exact DataW.trod_lt m _ _ _ hm
 have lt2: ∀x∈p2,x.block<W.heap.size:=by obtain⟨m,hm⟩:=k2;exact DataW.trod_lt m _ _ _ hm
 have lt3: ∀x∈p3,x.block<W.heap.size:=by obtain⟨m,hm⟩:=k3;exact DataW.trod_lt m _ _ _ hm
 have lt4: ∀x∈p4,x.block<W.heap.size:=by obtain⟨m,hm⟩:=k4;exact DataW.trod_lt m _ _ _ hm
 obtain⟨f0,hf0⟩:=h0;obtain⟨f1,hf1⟩:=h1;obtain⟨f2,hf2⟩:=h2;obtain⟨f3,hf3⟩:=h3;obtain⟨f4,hf4⟩:=h4;obtain⟨p,hp⟩:=rG f0 _ _ _ hf0 hw0;obtain⟨pr,hpr⟩:=x9 f1 _ _ _ hf1 hw1;obtain⟨l2,-,hl2⟩:=PL f2 _ _ _ hf2 hw2
 have hv2:Aa (HE W) (.l (iL l2) false) v2:=by
  obtain⟨⟨c,hc,hr⟩,-⟩:=hl2;have g2:=hval 2 23 v2 rfl rfl;simp only[Value.okWide,Tryz.underlying23]at g2;cases v2 with
  | agg vs=>exact absurd g2 (by simp[Cell.okWide,Cell.ok,Tryz.underlying23])
  | _=>
    simp only[Value.cells,List.getElem?_toArray,kz,HR]at hc;subst hc;exact hr
 obtain⟨m3,e3,-,hm3⟩:=DataW.trod_int Tryz.underlying32 hf3;obtain rfl:g3=m3:=by simpa[Value.cells]using e3
 obtain⟨l4,-,hl4⟩:=rF f4 _ _ _ hf4 hw4
 have hv4:Aa (HE W) (.l (pP l4) false) v4:=by
  obtain⟨⟨c,hc,hr⟩,-⟩:=hl4;have g4:=hval 4 33 v4 rfl rfl;simp only[Value.okWide,Tryz.underlying33]at g4;cases v4 with
  | agg vs=>exact absurd g4 (by simp[Cell.okWide,Cell.ok,Tryz.underlying33])
  | _=>
    simp only[Value.cells,List.getElem?_toArray,kz,HR]at hc;subst hc;exact hr
 clear hA0 hval0;refine(walk W cs p hp cq pr hpr v2 l2 hv2 g3 hm3 v4 l4 hv4).mono fun e W' ⟨he,bel⟩=>?_
 subst he;exact⟨_,rfl,_,_,_,[],_,[],hW',trodAll_mk1 (shut_bool Tryz.underlying4 _),(trodAll_cons_mk (Below.trod laidOut (by kernel_rfl) (of_decide_eq_true (by kernel_rfl)) k0 bel lt0) (trodAll_cons_mk (Below.trod laidOut (by kernel_rfl) (of_decide_eq_true (by kernel_rfl)) k1 bel lt1) (trodAll_cons_mk (Below.trod laidOut (by kernel_rfl) (of_decide_eq_true (by kernel_rfl)) k2 bel lt2) (trodAll_cons_mk (Below.trod laidOut (by kernel_rfl) (of_decide_eq_true (by kernel_rfl)) k3 bel lt3) (trodAll_cons_mk (Below.trod laidOut (by kernel_rfl) (of_decide_eq_true (by kernel_rfl)) k4 bel lt4) trodAll_mk0))))),rfl,bel.frame _,fun h=>by cases h⟩
set_option maxRecDepth 100000 in
theorem facts:joinedFacts Tryz.prog 3 Tryz.f3 Rows.metaLinesSpec Rows.metaLinesRow=true:=by
 unfold joinedFacts;refine En (En (En (En (En (En (En (En (En (En (En (En (En (En (En (En (En (En (En (En (En (En (En (En (En (En (En (En (En (En ?_ ?_) ?_) ?_) ?_) ?_) ?_) ?_) ?_) ?_) ?_) ?_) ?_) ?_) ?_) ?_) ?_) ?_) ?_) ?_) ?_) ?_) ?_) ?_) ?_) ?_) ?_) ?_) ?_) ?_) ?_
 all_goals(as_aux_lemma=>kernel_rfl)
theorem over:Rows.metaLinesRow.holds Tryz.pinned (OpenSpec.ofChange Rows.metaLinesSpec):=
 OpenClaim.holds_of_wide 3 Tryz.f3 rfl rfl rfl rfl rfl rfl rfl ⟨rfl,rfl,rfl,rfl,rfl⟩ rfl rfl rfl rfl rfl (by kernel_rfl) Tryz.func3 facts
  (of_decide_eq_true (by kernel_rfl)) (by unfold Func.isWrapper;first|(rw[if_pos (by decide +kernel)];kernel_rfl)|(rw[if_neg (by decide +kernel)];exact⟨rfl,rfl⟩))
  (fun os started H enc _=>lifted os started H enc)
theorem proved:Rows.MetaLinesSaid:=
 over
#print axioms proved
end Nc
end Go.Proofs.YtcfkfhaedllcpaaGreat
