/-
  GL 18: a function that defers one call of a function value, and the deferred function, which recovers.
-/
import Derived.Test.YtfbhfdaljendcaaGreatGl17
import Derived.RecoverIn
set_option linter.all false
set_option linter.unusedVariables false
set_option linter.unusedSimpArgs false
namespace Go.Gl
variable {P : Program} {Λ : Nat → Prop} {σ : Store} {pu : List FuncId} {fz : List Nat} {N n : Nat} {r : Option Nat} {ds : List Deferred}
/-! ### the first operations of a region -/
theorem tops_then {ops : Array Oper} {K : Env → Store → Prop} {kp : Env → V → Store → Prop} {QQ : Exit → Act → World → Prop} {σ₀ : Store} {w₀ : World} {L : List Nat}
    (hK : ∀ env σ a w, K env σ → ERel (Hh Λ σ w) env a.tmps → Rel Λ σ w → Adv Λ σ₀ w₀ σ w → a.tmps.size = N → a.defers = ds → wpOpsIn (wide r) n P ops QQ L a w)
    (hkp : ∀ env v σ c a w, kp env v σ → VRel (Hh Λ σ w) v c → ERel (Hh Λ σ w) env a.tmps → Rel Λ σ w → Adv Λ σ₀ w₀ σ w → a.tmps.size = N → a.defers = ds → QQ (.panic [{ v := c, recovered := false }]) a w) :
    ∀ (as : List AOper) (j : Nat), (∀ (i : Nat) (ao : AOper), as[i]? = some ao → ∃ o, ops[j + i]? = some o ∧ rOper P N ops o = some ao) →
    ∀ (env : Env) (σ : Store) (a : Act) (w : World), Tops P (as.map (purify pu fz)) K kp env σ → ERel (Hh Λ σ w) env a.tmps → Rel Λ σ w → Adv Λ σ₀ w₀ σ w → a.tmps.size = N → a.defers = ds →
    wpOpsIn (wide r) n P ops QQ (List.range' j as.length ++ L) a w
  | [], j, _, env, σ, a, w, h, he, hR, hA, hN, hd => by
    simp only [List.length_nil, List.range'_zero, List.nil_append]
    exact hK env σ a w h he hR hA hN hd
  | ao :: as, j, hget, env, σ, a, w, h, he, hR, hA, hN, hd => by
    simp only [List.length_cons, List.range'_succ, List.cons_append, wpOpsIn]
    obtain ⟨o, hj, h2⟩ := hget 0 ao rfl
    simp only [Nat.add_zero] at hj
    simp only [hj]
    refine oper_sound (K := Tops P (as.map (purify pu fz)) K kp) (kp := kp env) h2 he hR hN (by
        simp only [List.map_cons, Tops] at h
        have := Sop_purify h
        rwa [purify_dst] at this) (fun env' σ' c w' hk he' hR' hA' => ?_) (fun v σ' c w' hk hv hR' hA' => ?_)
    · exact tops_then hK hkp as (j + 1) (fun i x hx => by
        obtain ⟨o', h3, h4⟩ := hget (i + 1) x (by simpa using hx)
        exact ⟨o', by rw [← h3]; congr 1; omega, h4⟩) env' σ' _ w' hk he' hR' (hA.trans hA') (by rw [put_size]; exact hN) (by rw [put_defers]; exact hd)
    · exact hkp env v σ' c a w' hk hv (he.mono hA'.hle) hR' (hA.trans hA') hN hd

/-! ### resolving -/
def isDfr (o : Oper) : Option Opd :=
  match o.op, o.guard, o.dst with
  | .defer c, none, none => match c.callee, c.args.toList with
    | .value x, [] => rOpd x
    | _, _ => none
  | _, _, _ => none
/-- code, then a region that ends with a deferred call, then the rest -/
def resDfr1 (P : Program) (N : Nat) (pu : List FuncId) (fz : List Nat) : Code → Option (ACode × List AOper × Opd × ACode)
  | .seq a (.seq (.region _ ops false) c) => match res P N pu fz a, ops.toList.getLast?.bind isDfr, rOpers P N ops ops.toList.dropLast, res P N pu fz c with
    | some a', some x, some os, some c' => some (a', os.map (purify pu fz), x, c')
    | _, _, _, _ => none
  | _ => none
/-- the same, behind more code -/
def resDfr2 (P : Program) (N : Nat) (pu : List FuncId) (fz : List Nat) : Code → Option (ACode × List AOper × Opd × ACode)
  | .seq a b => match res P N pu fz a, resDfr1 P N pu fz b with
    | some a', some (b', os, x, c') => some (.seq [] a' b', os, x, c')
    | _, _ => none
  | _ => none
def resDfr (P : Program) (N : Nat) (pu : List FuncId) (fz : List Nat) (c : Code) : Option (ACode × List AOper × Opd × ACode) :=
  match resDfr1 P N pu fz c with
  | some r => some r
  | none => resDfr2 P N pu fz c
def isRec (o : Oper) : Option Nat :=
  match o.op, o.guard, o.dst with
  | .call c, none, some k => match c.callee, c.args.toList with
    | .builtin .recover, [] => some k
    | _, _ => none
  | _, _, _ => none
/-- a region that begins with recover, then the rest -/
def resRec (P : Program) (N : Nat) (pu : List FuncId) (fz : List Nat) : Code → Option (Nat × List AOper × ACode)
  | .seq (.region _ ops false) c => match ops.toList with
    | o :: l => match isRec o, rOpers P N ops l, res P N pu fz c with
      | some k, some os, some c' => if k < N then some (k, os.map (purify pu fz), c') else none
      | _, _, _ => none
    | [] => none
  | _ => none

theorem resRec_elim {c : Code} {k : Nat} {os : List AOper} {ac : ACode} (h : resRec P N pu fz c = some (k, os, ac)) : ∃ id ops c2 o ol os', c = .seq (.region id ops false) c2 ∧ ops.toList = o :: ol ∧ isRec o = some k ∧ rOpers P N ops ol = some os' ∧ os = os'.map (purify pu fz) ∧
    res P N pu fz c2 = some ac ∧ k < N := by
  unfold resRec at h
  split at h
  · rename_i id ops c2
    split at h
    · rename_i o ol hops
      split at h
      · rename_i k os' c' h1 h2 h3
        split at h
        · rename_i hk
          simp only [Option.some.injEq, Prod.mk.injEq] at h
          obtain ⟨rfl, rfl, rfl⟩ := h
          exact ⟨id, ops, c2, o, ol, os', rfl, hops, h1, h2, rfl, h3, hk⟩
        · cases h
      · cases h
    · cases h
  · cases h
theorem resDfr1_elim {c : Code} {a c' : ACode} {os : List AOper} {x : Opd} (h : resDfr1 P N pu fz c = some (a, os, x, c')) : ∃ ca id ops cc o os', c = .seq ca (.seq (.region id ops false) cc) ∧ ops.toList.getLast? = some o ∧ isDfr o = some x ∧ rOpers P N ops ops.toList.dropLast = some os' ∧ os = os'.map (purify pu fz) ∧
    res P N pu fz ca = some a ∧ res P N pu fz cc = some c' := by
  unfold resDfr1 at h
  split at h
  · rename_i ca id ops cc
    split at h
    · rename_i a1 x1 os' c1 h1 h2 h3 h4
      simp only [Option.some.injEq, Prod.mk.injEq] at h
      obtain ⟨rfl, rfl, rfl, rfl⟩ := h
      obtain ⟨o, h5, h6⟩ := Option.bind_eq_some_iff.1 h2
      exact ⟨ca, id, ops, cc, o, os', rfl, h5, h6, h3, rfl, h1, h4⟩
    · cases h
  · cases h
/-- the code ahead of the region X -/
def Pre (P : Program) (N : Nat) (pu : List FuncId) (fz : List Nat) (c : Code) (a : ACode) (X : Code) : Prop :=
  (∃ ca, c = .seq ca X ∧ res P N pu fz ca = some a) ∨ ∃ c1 c2 a1 a2, c = .seq c1 (.seq c2 X) ∧ res P N pu fz c1 = some a1 ∧ res P N pu fz c2 = some a2 ∧ a = .seq [] a1 a2
theorem resDfr_elim {c : Code} {a c' : ACode} {os : List AOper} {x : Opd} (h : resDfr P N pu fz c = some (a, os, x, c')) : ∃ id ops cc o os', Pre P N pu fz c a (.seq (.region id ops false) cc) ∧ ops.toList.getLast? = some o ∧ isDfr o = some x ∧ rOpers P N ops ops.toList.dropLast = some os' ∧ os = os'.map (purify pu fz) ∧
    res P N pu fz cc = some c' := by
  unfold resDfr at h
  split at h
  · rename_i r hr
    cases h
    obtain ⟨ca, id, ops, cc, o, os', rfl, h1, h2, h3, h4, h5, h6⟩ := resDfr1_elim hr
    exact ⟨id, ops, cc, o, os', .inl ⟨ca, rfl, h5⟩, h1, h2, h3, h4, h6⟩
  · cases c <;> simp only [resDfr2, reduceCtorEq] at h
    rename_i c1 b _
    cases h1 : res P N pu fz c1 with
    | none => rw [h1] at h; cases h
    | some a1 =>
      cases h2 : resDfr1 P N pu fz b with
      | none => rw [h1, h2] at h; cases h
      | some r =>
        obtain ⟨b1, os1, x1, c2⟩ := r
        rw [h1, h2] at h
        cases h
        obtain ⟨ca, id, ops, cc, o, os', rfl, k1, k2, k3, k4, k5, k6⟩ := resDfr1_elim h2
        exact ⟨id, ops, cc, o, os', .inr ⟨c1, ca, a1, b1, rfl, h1, k5, rfl⟩, k1, k2, k3, k4, k6⟩
theorem pre_sound {r : Option Nat} {c X : Code} {ac : ACode} (hp : Pre P N pu fz c (erase ac) X) {Q : AExit → Env → Store → Prop} {env : Env} {σ : Store} {a : Act} {w : World} (h : T P ac Q env σ) (he : ERel (Hh Λ σ w) env a.tmps) (hR : Rel Λ σ w) (hN : a.tmps.size = N) (hrd : RoundOk r σ w) {Q0 : Exit → Act → World → Prop}
    (H : ∀ e a1 w1, TPost r Λ σ w N a.defers Q e a1 w1 → Exit.then (wpK r P X Q0) Q0 e a1 w1) : wpK r P c Q0 a w := by
  rcases hp with ⟨ca, rfl, h1⟩ | ⟨c1, c2, a1, a2, rfl, h1, h2, h3⟩
  · exact wpK_seq (wpK_mono (T_sound (r := r) h1 h he hR hN hrd) H)
  · cases ac <;> simp only [erase, reduceCtorEq, ACode.seq.injEq] at h3
    rename_i l b1 b2
    obtain ⟨_, e1, e2⟩ := h3
    subst e1; subst e2
    simp only [T] at h
    refine wpK_seq (wpK_mono (T_sound (r := r) h1 h he hR hN hrd) ?_)
    rintro e a' w' ⟨ex, env', σ', hq, hx, he', hR', hA, hN', hM'⟩
    cases ex with
    | normal =>
      simp only [XRel] at hx
      subst hx
      exact wpK_seq (wpK_mono (T_sound (r := r) h2 hq (he'.prune l) hR' hN' (hrd.adv hA)) fun e a w hp => H e a w (hp.trans hA hM'))
    | ret =>
      simp only [XRel] at hx
      subst hx
      exact H _ _ _ ⟨.ret, env', σ', hq, rfl, he', hR', hA, hN', hM'⟩
    | exit id =>
      simp only [XRel] at hx
      subst hx
      exact H _ _ _ ⟨.exit id, env', σ', hq, rfl, he', hR', hA, hN', hM'⟩
    | pan v =>
      obtain ⟨c, rfl, hv⟩ := hx
      exact H _ _ _ ⟨.pan v, env', σ', hq, ⟨c, rfl, hv⟩, he', hR', hA, hN', hM'⟩

/-! ### the deferred function -/
theorem unmark {σ₀ : Store} {w₀ : World} {cs : List Frame} : ∀ (ms : List Nat) (fr : Frame) (w : World), ms.Nodup → (∀ D ∈ ms, w₀.heap.size ≤ D ∧ σ D = none ∧ w.heap[D]? = some (.deferred (some []))) → fr.mode ≠ .run → fr.defers = ms.map markOf →
    Rel Λ σ w → Adv Λ σ₀ w₀ σ w → ∃ w', StepsIn (Machine.fenced P (wide none)) P (lone fr cs w) (lone { fr with defers := [] } cs w') ∧ Rel Λ σ w' ∧ Adv Λ σ₀ w₀ σ w'
  | [], fr, w, _, _, _, hd, hR, hA => by
    have : ({ fr with defers := [] } : Frame) = fr := by cases fr; simp_all
    exact ⟨w, by rw [this]; exact .refl _, hR, hA⟩
  | D :: ms, fr, w, hnd, hms, hm, hd, hR, hA => by
    obtain ⟨h1, h2, h3⟩ := hms D (.head _)
    have hnd' := List.nodup_cons.1 hnd
    have hs := step_collected (P := P) (fr := fr) (cs := cs) (d := markOf D) (ds := ms.map markOf) (r := D) hm hd rfl (run_takeDeferred h3)
    obtain ⟨w', q1, q2, q3⟩ := unmark (σ₀ := σ₀) (w₀ := w₀) (cs := cs) ms { fr with defers := [] ++ ms.map markOf } (w.putObj D (.deferred none)) hnd'.2 (fun E hE => by
      obtain ⟨h4, h5, h6⟩ := hms E (.tail _ hE)
      exact ⟨h4, h5, (World.putObj_heap_other (fun e => hnd'.1 (by rw [← e]; exact hE))).trans h6⟩) hm rfl (hR.put h2 h3 rfl) (hA.put_new h1)
    exact ⟨w', .head (fenced_lone (.inl trivial) (fun _ _ => trivial) room_w) hs q1, q2, q3⟩
/-- what a deferred call comes to: m: the panic that passes by, if one does -/
def CtrD (P : Program) (f : FuncId) (args : List V) (m : Option V) (σ : Store) (Q : Store → Prop) : Prop :=
  okF P f = true ∧ ∀ (Λ : Nat → Prop) (w : World) (cs : Array Value) (u : FrameMode), Rel Λ σ w → VsL (Hh Λ σ w) args cs →
    (match m with | none => u = .returning | some v => ∃ c, VRel (Hh Λ σ w) v c ∧ u = .panicking [{ v := c, recovered := false }]) →
    CallsDIn (wide none) 0 P f cs u w fun e u' w' => (∃ v, e = .returned v) ∧ settle u' = .returning ∧ ∃ σ', Q σ' ∧ Rel Λ σ' w' ∧ Adv Λ σ w σ' w'
def DefQ (Q : Store → Prop) : AExit → Env → Store → Prop
  | .normal, _, σ | .ret, _, σ => Q σ
  | _, _, _ => False
theorem ctrD_of_T {f : FuncId} {fn : Func} {k : Nat} {os : List AOper} {l : List Nat} {ac : ACode} (hf : P.funcs[f]? = some fn) (hok : okF P f = true) (hb : fn.body.bind (resRec P fn.ntmps pu fz) = some (k, os, erase ac)) (hr : fn.results = #[])
    {args : List V} (hn : args.length ≤ fn.ntmps) {m : Option V} {σ : Store} {Q : Store → Prop} (h : T P (.seq l (.reg os) ac) (DefQ Q) (put (some k) (m.getD .inil) (argEnv 0 args)) σ) : CtrD P f args m σ Q := by
  refine ⟨hok, fun Λ w cs u hR hv hu => ?_⟩
  obtain ⟨c, hc, hb⟩ := Option.bind_eq_some_iff.1 hb
  obtain ⟨id, ops, c2, o, ol, os', rfl, hops, h1, h2, rfl, h3, hkN⟩ := resRec_elim hb
  have ho0 : ops[0]? = some o := by
    rw [← Array.getElem?_toList, hops]; rfl
  have hsz : ops.size = 1 + ol.length := by
    rw [← Array.length_toList, hops]; simp; omega
  obtain ⟨hl1, hl2⟩ := rOpers_get h2
  -- the recovered value
  obtain ⟨rv, u', hrv, hu', hst⟩ : ∃ (rv : Value) (u' : FrameMode), VRel (Hh Λ σ w) (m.getD .inil) rv ∧ (∀ (c₀ : Frame) (fs : List Frame), c₀.mode = u → (recoverD (c₀ :: fs) = some (rv, { c₀ with mode := u' } :: fs) ∨ (recoverD (c₀ :: fs) = none ∧ rv = .nilIface ∧ u' = u))) ∧ settle u' = .returning := by
    cases m with
    | none =>
      simp only at hu
      subst hu
      exact ⟨.nilIface, .returning, rfl, fun c₀ fs hm => .inr ⟨by simp [recoverD, hm], rfl, rfl⟩, rfl⟩
    | some v =>
      obtain ⟨d, hd, rfl⟩ := hu
      exact ⟨d, .panicking [{ v := d, recovered := true }], hd, fun c₀ fs hm => .inl (by simp [recoverD, hm]), rfl⟩
  have he : ERel (Hh Λ σ w) (argEnv 0 args) (cs ++ Array.replicate (fn.ntmps - cs.size) undef) := by
    intro k v hg
    obtain ⟨_, h2⟩ := get_argEnv args 0 k v hg
    simp only [Nat.sub_zero] at h2
    obtain ⟨d, h3, h4⟩ := vsAt_iff.1 hv.2 k v h2
    simp only [Nat.zero_add] at h3
    refine ⟨d, ?_, h4⟩
    rw [Array.getElem?_append_left (by have := (Array.getElem?_eq_some_iff.1 h3).1; exact this)]
    exact h3
  have hsz0 : (cs ++ Array.replicate (fn.ntmps - cs.size) undef).size = fn.ntmps := by
    simp only [Array.size_append, Array.size_replicate]
    have := hv.1
    omega
  -- operator and code of the first operation
  obtain ⟨cc, hop, hg, hd⟩ : ∃ cc, o.op = .call cc ∧ o.guard = none ∧ o.dst = some k ∧ cc.callee = .builtin .recover ∧ cc.args = #[] := by
    unfold isRec at h1
    split at h1
    · rename_i cc k2 e1 e2 e3
      split at h1
      · rename_i e4 e5
        cases h1
        exact ⟨cc, e1, e2, e3, e4, Array.toList_eq_nil_iff.1 e5⟩
      · cases h1
    · cases h1
  obtain ⟨hd, hcal, hargs⟩ := hd
  have he1 : ERel (Hh Λ σ w) (put (some k) (m.getD .inil) (argEnv 0 args)) (({ tmps := cs ++ Array.replicate (fn.ntmps - cs.size) undef, defers := [] } : Act).put (some k) rv).tmps :=
    he.put (a := { tmps := cs ++ Array.replicate (fn.ntmps - cs.size) undef, defers := [] }) hsz0 (d := some k) (fun x hx => by cases hx; exact hkN) hrv
  simp only [T] at h
  have hW := tops_then (P := P) (Λ := Λ) (r := none) (n := 0) (ds := []) (σ₀ := σ) (w₀ := w) (L := []) (pu := pu) (fz := fz) (ops := ops) (QQ := Exit.then (wpK none P c2 (fun e a' w' => TPost none Λ σ w fn.ntmps [] (DefQ Q) e a' w')) (fun e a' w' => TPost none Λ σ w fn.ntmps [] (DefQ Q) e a' w'))
    (N := fn.ntmps)
    (K := fun env σ => AExit.andThen (fun env σ => T P ac (DefQ Q) (Gl.prune l env) σ) (DefQ Q) .normal env σ) (kp := fun env v σ => AExit.andThen (fun env σ => T P ac (DefQ Q) (Gl.prune l env) σ) (DefQ Q) (.pan v) env σ)
    (fun env σ1 a1 w1 hk he hR1 hA1 hN1 hd1 => by
      simp only [wpOpsIn, Exit.then]
      refine wpK_mono (T_sound (r := none) h3 hk (he.prune l) hR1 hN1 RoundOk.none) fun e a' w' ht => ?_
      exact TPost.trans hA1 (by rw [hd1]; exact Marks.refl _ _ _ _ _) ht)
    (fun env v σ1 c1 a1 w1 hk hv1 he1 hR1 hA1 hN1 hd1 => hk.elim)
    os' 1 (fun i ao hao => by
      have hlt : i < ol.length := by
        rw [hl1]
        exact (List.getElem?_eq_some_iff.1 hao).1
      obtain ⟨x, hx, hy⟩ := hl2 i ol[i] (by simp [hlt])
      rw [hao] at hx
      cases hx
      refine ⟨ol[i], ?_, hy⟩
      rw [← Array.getElem?_toList, hops, show 1 + i = i + 1 by omega]
      simp [hlt])
    _ σ _ w h he1 hR (Adv.refl _ _ _) (by rw [put_size]; exact hsz0) rfl
  simp only [List.append_nil] at hW
  -- the machine's steps
  refine ⟨trivial, fun c₀ fs hu0 hroom => ?_⟩
  let b : Frame := { (default : Frame) with fn := f, kind := .deferred, roundOf := none }
  have henter : Frame.enter P f cs .deferred =
      b.atR { tmps := cs ++ Array.replicate (fn.ntmps - cs.size) undef, defers := [] } [.code (.seq (.region id ops false) c2)] := by
    simp [Frame.enter, Frame.atR, hf, hc, b]
  let a0 : Act := { tmps := cs ++ Array.replicate (fn.ntmps - cs.size) undef, defers := [] }
  have s1 : StepsIn (Machine.fenced P (wide none)) P (lone (b.atR a0 [.code (.seq (.region id ops false) c2)]) (c₀ :: fs) w) (lone (b.atR a0 [.code (.region id ops false), .code c2]) (c₀ :: fs) w) := .one (calmW rfl) stepR_seq
  have s2 : StepsIn (Machine.fenced P (wide none)) P (lone (b.atR a0 [.code (.region id ops false), .code c2]) (c₀ :: fs) w) (lone (b.atR a0 [.inRegion ops (List.range ops.size), .code c2]) (c₀ :: fs) w) := .one (calmW rfl) stepR_region
  have hrange : List.range ops.size = 0 :: List.range' 1 os'.length := by
    rw [List.range_eq_range', hsz, hl1, show 1 + os'.length = os'.length + 1 by omega, List.range'_succ]
  have hwant : Region.wanted o (yielded ops a0.tmps) = true := by simp [Region.wanted, hg]
  have hrun : (execOp a0.eval o).run P w = .ok .recover w := by
    unfold execOp
    simp only [hop]
    simp only [resolve, hcal, hargs, invoke, builtin, Sem.run_bind, Sem.run_pure, Result.andThen_ok]
  have s3 : StepsIn (Machine.fenced P (wide none)) P (lone (b.atR a0 [.inRegion ops (0 :: List.range' 1 os'.length), .code c2]) (c₀ :: fs) w) (lone (b.atR (a0.put (some k) rv) [.inRegion ops (List.range' 1 os'.length), .code c2]) ({ c₀ with mode := u' } :: fs) w) := by
    refine .one (fenced_lone (.inl trivial) (fun _ _ => trivial) room_w) (step_lone_go ?_)
    have hgop := stepGR_op (P := P) (b := b) (a := a0) (k := [.code c2]) (cs := c₀ :: fs) (w := w) (rest := List.range' 1 os'.length) ho0 hwant
    rw [show b.roundOf = none from rfl, Oper.semAt_none] at hgop
    rw [hgop]
    have hfin : ∀ v, (b.atR a0 (.inRegion ops (0 :: List.range' 1 os'.length) :: [.code c2])).finish v = b.atR (a0.put (some k) v) (.inRegion ops (List.range' 1 os'.length) :: [.code c2]) := by
      intro v; rw [Frame.finish_atR, ho0]; simp only [Option.bind_some, hd]
    have htr := tryRecover_deferred (fr := b.atR a0 (.inRegion ops (0 :: List.range' 1 os'.length) :: [.code c2])) rfl (c₀ :: fs)
    have hrn : (b.atR a0 (.inRegion ops (0 :: List.range' 1 os'.length) :: [.code c2])).roundOf = none := rfl
    rw [← hfin]
    rcases hu' c₀ fs hu0 with hrec | ⟨hrec, rfl, rfl⟩
    · rw [hrec] at htr
      simp [stepG.apply, hrun, htr, hrn]
    · rw [hrec] at htr
      have hcm : ({ c₀ with mode := u' } : Frame) = c₀ := by cases c₀; simp_all
      rw [hcm]
      simp [stepG.apply, hrun, htr, hrn]
  have hres0 : ∀ (tm : Array Value) (w : World), (results fn tm).run P w = .ok (.tuple #[]) w := fun tm w => by
    rw [results_eq, hr]
    simp
  -- the frame leaves
  have out : ∀ (m0 : Machine) (a2 : Act) (w2 : World) (todo : List Item) (σ2 : Store), StepsIn (Machine.fenced P (wide none)) P m0 (lone { b.atR a2 todo with mode := .returning } ({ c₀ with mode := u' } :: fs) w2) → Q σ2 → Rel Λ σ2 w2 → Adv Λ σ w σ2 w2 →
      Marks none w σ2 w2 [] a2.defers → ∃ e u'' w' fr, ((∃ v, e = Ending.returned v) ∧ settle u'' = .returning ∧ ∃ σ', Q σ' ∧ Rel Λ σ' w' ∧ Adv Λ σ w σ' w') ∧
        ComesIn (Machine.fenced P (wide none)) P m0 (lone fr ({ c₀ with mode := u'' } :: fs) w') e ∧ fr.kind = .deferred ∧ fr.fn = f ∧ fr.going P w' e := fun m0 a2 w2 todo σ2 hs hq hR2 hA2 ⟨ms, hms, hnd, hD, _⟩ => by
    obtain ⟨w', q1, q2, q3⟩ := unmark (P := P) (cs := { c₀ with mode := u' } :: fs) ms { b.atR a2 todo with mode := .returning } w2 hnd hD (by simp) (by simpa [Frame.atR] using hms) hR2 hA2
    exact ⟨.returned (.tuple #[]), u', w', _, ⟨⟨_, rfl⟩, hst, σ2, hq, q2, q3⟩, hs.trans q1, rfl, rfl, rfl, rfl, fn, hf, hres0 _ _⟩
  -- an end of the code
  have fin : ∀ (m0 : Machine) (e : Exit) (a2 : Act) (w2 : World), TPost none Λ σ w fn.ntmps [] (DefQ Q) e a2 w2 → ArrivesIn (Machine.fenced P (wide none)) P m0 b [] ({ c₀ with mode := u' } :: fs) e a2 w2 →
      ∃ e u'' w' fr, ((∃ v, e = Ending.returned v) ∧ settle u'' = .returning ∧ ∃ σ', Q σ' ∧ Rel Λ σ' w' ∧ Adv Λ σ w σ' w') ∧
        ComesIn (Machine.fenced P (wide none)) P m0 (lone fr ({ c₀ with mode := u'' } :: fs) w') e ∧ fr.kind = .deferred ∧ fr.fn = f ∧ fr.going P w' e := fun m0 e a2 w2 ⟨ex, env, σ2, hq, hx, he2, hR2, hA2, hN2, hM2⟩ harr => by
    cases ex with
    | exit id => exact hq.elim
    | pan v => exact hq.elim
    | normal =>
      simp only [XRel] at hx
      subst hx
      exact out m0 a2 w2 [] σ2 (StepsIn.trans harr (.one (calmW rfl) (stepR_end rfl))) hq hR2 hA2 hM2
    | ret =>
      simp only [XRel] at hx
      subst hx
      obtain ⟨todo, hs⟩ := harr.1 rfl
      exact out m0 a2 w2 todo σ2 hs hq hR2 hA2 hM2
  obtain ⟨e, a1, w1, hq, harr⟩ := wp_opsIn _ _ _ hW b [.code c2] ({ c₀ with mode := u' } :: fs) rfl trivial room_w
  rw [henter]
  have s123 := (s1.trans s2).trans (hrange ▸ s3)
  have fin' : ∀ {m1 : Machine}, StepsIn (Machine.fenced P (wide none)) P m1 m1 := fun {m1} => .refl m1
  cases e with
  | normal =>
    obtain ⟨e2, a2, w2, hq2, harr2⟩ := hq b [] ({ c₀ with mode := u' } :: fs) rfl ⟨fn, hf⟩
    exact fin _ e2 a2 w2 hq2 (.of_steps (s123.trans harr) harr2)
  | ret =>
    obtain ⟨ex, env, σ2, hq, hx, he2, hR2, hA2, hN2, hM2⟩ := hq
    obtain ⟨todo, hs⟩ := harr.1 rfl
    refine out _ a1 w1 todo σ2 (s123.trans hs) ?_ hR2 hA2 hM2
    cases ex <;> first | exact hq | exact hq.elim
  | exit id =>
    obtain ⟨ex, env, σ2, hq, hx, _⟩ := hq
    cases ex <;> first | exact hq.elim | (simp [XRel] at hx)
  | panic ch =>
    obtain ⟨ex, env, σ2, hq, hx, _⟩ := hq
    cases ex <;> first | exact hq.elim | (simp [XRel] at hx)
  | goto l =>
    obtain ⟨ex, env, σ2, hq, hx, _⟩ := hq
    cases ex <;> first | exact hq.elim | (simp [XRel] at hx)
  | outgrown =>
    obtain ⟨ex, env, σ2, hq, hx, _⟩ := hq
    cases ex <;> first | exact hq.elim | (simp [XRel] at hx)
end Go.Gl
