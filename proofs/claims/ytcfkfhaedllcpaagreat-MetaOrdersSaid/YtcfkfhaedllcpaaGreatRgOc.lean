/-
  The statement MetaOrdersSaid: lines by orders and picks are as stated. No conditions: whatever the input, the call returns true and what it was handed reads as it did.
-/
import Derived.HandedShaped
import Derived.Test.YtcfkfhaedllcpaaGreatW24
import Derived.Test.YtcfkfhaedllcpaaGreatW35
import Derived.Test.YtcfkfhaedllcpaaGreatW43
set_option linter.all false
set_option linter.defProp false
set_option maxHeartbeats 8000000
noncomputable section
namespace Go.Proofs.YtcfkfhaedllcpaaGreat
open Go.Gl Go.ChangeShapes Go.WideShapes Go.ChangeAt Go.RowKit
def rngU {n:Int} (h:(Lit.int .u8 n).wf=true):0<=n/\n<=255:=by
 simp only[Lit.wf,BD,CN]at h;exact h
namespace K2
theorem walk (w:World) (cs:Array Value) (p:Prog) (hp:cs.toList.length=(A9 p).length/\BT (HE w) (fun i=>cs.toList[i]?) 0 (A9 p)) (v1:Value) (l1:List Int) (h1:Ab (HE w) (.l (iL l1) false) v1) (g2:Int) (h2:(Lit.int .u8 g2).wf=true):Calls Tryz.prog 5 #[.agg cs,v1,.int .u8 g2] w fun e w'=>e= .returned (.bool true)/\Below w.heap.size w w':=by
 refine Calls.mono (jc (K2 p l1 false g2 (rngU h2).1 (rngU h2).2 known) (cs:= #[.agg cs,v1,.int .u8 g2]) ⟨rfl,⟨_,rfl,wc hp⟩,⟨_,rfl,h1⟩,⟨_,rfl,vU8 h2⟩,trivial⟩) fun e w' ⟨⟨c,h1,h2⟩,h3⟩=>⟨?_,je h3⟩
 have h2:c= .bool true:=h2;rw[h1,h2]
set_option maxRecDepth 100000 in
theorem lifted (os:Os) (started:os.Started) (H:Type) (enc:TypeId×Value->H) :
 ReturnsInHanded {} Tryz.checked os 5 .any (Rows.metaOrdersSpec.pre6 enc Tryz.prog Tryz.f5 Rows.metaOrdersRow.domain false) (Rows.metaOrdersSpec.post enc Tryz.prog Tryz.f5 false true false false):=by
 refine returnsInHanded_of_change_shaped (C:=Tryz.checked) own started (by kernel_rfl) Tryz.func5
  (ChangeSpec.witness6 (enc:=enc) (C:=Tryz.checked) false ⟨#[],#[.agg #[.slice none 0 0,.int .i64 0,.slice none 0 0,.slice none 0 0,.slice none 0 0,.int .i64 0],.slice none 0 0,.int .u8 0],[]⟩ 8 (by kernel_rfl) (by kernel_rfl) (by kernel_rfl) (by kernel_rfl)) ?_
 intro W base args ds gs before hval0 hW hcnd hwt _ _;have hval: ∀(j:Nat) t v,Tryz.f5.params[j]? =some t->args[j]? =some v->Value.okWide Tryz.prog W .any base t v:=hval0;have hW':=hW;obtain⟨p,q,hA0,hV,rfl,hfz,hnd⟩:=hW;have hA:DataW.TrodAll enc Tryz.prog W 0 (fun _=>true) true Tryz.f5.params.toList args.toList ds p:=hA0;rw[Tryz.params5]at hA hval;have hwt2:(DataW.weightsEach Tryz.prog (Tryz.f5.params.toList++Rows.metaOrdersSpec.plain.varTypes Tryz.prog) (ds++gs)).all (· <=reachBytes)=true:=hwt;rw[Tryz.params5]at hwt2;obtain⟨v0,vs0,d0,ds0,p0,q0,ha0,rfl,rfl,h0,r0⟩:=trodAll_cons hA;obtain⟨v1,vs1,d1,ds1,p1,q1,ha1,rfl,rfl,h1,r1⟩:=trodAll_cons r0;obtain⟨v2,vs2,d2,ds2,p2,q2,ha2,rfl,rfl,h2,r2⟩:=trodAll_cons r1;obtain⟨rfl,rfl,rfl⟩:=trodAll_nil r2;subst ha2;subst ha1;obtain rfl:args= #[v0,v1,v2]:=by cases args;simp_all
 obtain⟨rfl,rfl⟩:=trodVars_none hV
 have hw0: ∀x∈d0.weights Tryz.prog 27,x<=reachBytes:=fun x hx=>by
  have:=E3.1 hwt2 x (RU _ hx);simpa using this
 have hw1: ∀x∈d1.weights Tryz.prog 23,x<=reachBytes:=fun x hx=>by
  have:=E3.1 hwt2 x (RT _ (RU _ hx));simpa using this
 have g0:=hval 0 27 v0 rfl rfl;simp only[Value.okWide,Tryz.underlying27]at g0;obtain⟨cs,rfl,hsz,-⟩:=g0;obtain⟨g2,rfl⟩:=okWide_int Tryz.underlying5 (hval 2 5 v2 rfl rfl);have k0:=h0;have k1:=h1;have k2:=h2;have lt0: ∀x∈p0,x.block<W.heap.size:=by obtain⟨m,hm⟩:=k0;exact DataW.trod_lt m _ _ _ hm
 have lt1: ∀x∈p1,x.block<W.heap.size:=by obtain⟨m,hm⟩:=k1;exact DataW.trod_lt m _ _ _ hm
 have lt2: ∀x∈p2,x.block<W.heap.size:=by obtain⟨m,hm⟩:=k2;exact DataW.trod_lt m _ _ _ hm
 obtain⟨f0,hf0⟩:=h0;obtain⟨f1,hf1⟩:=h1;obtain⟨f2,hf2⟩:=h2;obtain⟨p,hp⟩:=qO f0 _ _ _ hf0 hw0;obtain⟨l1,-,hl1⟩:=Ra f1 _ _ _ hf1 hw1
 have hv1:Ab (HE W) (.l (iL l1) false) v1:=by
  obtain⟨⟨c,hc,hr⟩,-⟩:=hl1;have g1:=hval 1 23 v1 rfl rfl;simp only[Value.okWide,Tryz.underlying23]at g1;cases v1 with
  | agg vs=>exact absurd g1 (by simp[Cell.okWide,Cell.ok,Tryz.underlying23])
  | _=>
    simp only[Value.cells,List.getElem?_toArray,nr,Hl]at hc;subst hc;exact hr
 obtain⟨m2,e2,-,hm2⟩:=DataW.trod_int Tryz.underlying5 hf2;obtain rfl:g2=m2:=by simpa[Value.cells]using e2
 clear hA0 hval0;refine(walk W cs p hp v1 l1 hv1 g2 hm2).mono fun e W' ⟨he,bel⟩=>?_
 subst he;exact⟨_,rfl,_,_,_,[],_,[],hW',trodAll_mk1 (shut_bool Tryz.underlying4 _),(trodAll_cons_mk (Below.trod laidOut (by kernel_rfl) (of_decide_eq_true (by kernel_rfl)) k0 bel lt0) (trodAll_cons_mk (Below.trod laidOut (by kernel_rfl) (of_decide_eq_true (by kernel_rfl)) k1 bel lt1) (trodAll_cons_mk (Below.trod laidOut (by kernel_rfl) (of_decide_eq_true (by kernel_rfl)) k2 bel lt2) trodAll_mk0))),rfl,bel.frame _,fun h=>by cases h⟩
set_option maxRecDepth 100000 in
theorem facts:joinedFacts Tryz.prog 5 Tryz.f5 Rows.metaOrdersSpec Rows.metaOrdersRow=true:=by
 unfold joinedFacts;refine Eh (Eh (Eh (Eh (Eh (Eh (Eh (Eh (Eh (Eh (Eh (Eh (Eh (Eh (Eh (Eh (Eh (Eh (Eh (Eh (Eh (Eh (Eh (Eh (Eh (Eh (Eh (Eh (Eh (Eh ?_ ?_) ?_) ?_) ?_) ?_) ?_) ?_) ?_) ?_) ?_) ?_) ?_) ?_) ?_) ?_) ?_) ?_) ?_) ?_) ?_) ?_) ?_) ?_) ?_) ?_) ?_) ?_) ?_) ?_) ?_
 all_goals(as_aux_lemma=>kernel_rfl)
def ya:Rows.metaOrdersRow.holds Tryz.pinned (OpenSpec.ofChange Rows.metaOrdersSpec):=
 OpenClaim.holds_of_wide 5 Tryz.f5 rfl rfl rfl rfl rfl rfl rfl ⟨rfl,rfl,rfl,rfl,rfl⟩ rfl rfl rfl rfl rfl (by kernel_rfl) Tryz.func5 facts
  (of_decide_eq_true (by kernel_rfl)) (by unfold Func.isWrapper;first|(rw[if_pos (by decide +kernel)];kernel_rfl)|(rw[if_neg (by decide +kernel)];exact⟨rfl,rfl⟩))
  (fun os started H enc _=>lifted os started H enc)
theorem proved:Rows.MetaOrdersSaid:=
 ya
#print axioms proved
end K2
end Go.Proofs.YtcfkfhaedllcpaaGreat
