/-
  GL 17: the rounds of a loop over a function.
-/
import Derived.Test.YtfbhfdaljendcaaGreatGl16
set_option linter.all false
set_option linter.unusedVariables false
set_option linter.unusedSimpArgs false
namespace Go.Gl
variable {P : Program} {Λ : Nat → Prop} {σ : Store}
def bindPs : List Nat → List V → Env → Env
  | p :: ps, v :: vs, env => bindPs ps vs (put (some p) v env)
  | _, _, env => env
/-- how a round ends -/
def RoundQ (L : Nat) (env : Env) (ok : FuncId → Array Tmp → Code → Code → Nat → Prop) (Q : R → Store → Prop) : AExit → Env → Store → Prop
  | .normal, _, σ' => Q (.ret (.b true)) (upd σ' L (.loop .ready env ok))
  | .ret, _, σ' => Q (.ret (.b false)) (upd σ' L (.loop .ret env ok))
  | .exit id, _, σ' => Q (.ret (.b false)) (upd σ' L (.loop (.exit id) env ok))
  | .pan v, _, σ' => Q (.pan v) σ'
def onNormal (K : Env → Store → Prop) : AExit → Env → Store → Prop
  | .normal, env, σ => K env σ
  | _, _, _ => False
theorem get_mem : ∀ {env : Env} {k : Nat} {v : V}, get k env = some v → (k, v) ∈ env
  | [], _, _, h => by cases h
  | (j, u) :: r, k, v, h => by
    simp only [get] at h
    cases hb : Nat.beq j k with
    | true =>
      rw [hb] at h
      simp only [cond_true, Option.some.injEq] at h
      rw [Nat.eq_of_beq_eq_true hb, h]
      exact .head _
    | false =>
      rw [hb] at h
      exact .tail _ (get_mem h)
theorem ERel.binds {H : Nat → Nat → Option Value} {N : Nat} : ∀ (ps : List Nat) (vs : List V) (cs : List Value) (env : Env) (tmps : Array Value), ERel H env tmps → tmps.size = N → (∀ p ∈ ps, p < N) → vs.length = ps.length → cs.length = vs.length →
    VsAt H (fun i => cs[i]?) 0 vs → ERel H (bindPs ps vs env) ((ps.zip cs).foldl (fun t pa => t.setIfInBounds pa.1 pa.2) tmps) ∧ ((ps.zip cs).foldl (fun t pa => t.setIfInBounds pa.1 pa.2) tmps).size = N
  | [], [], [], env, tmps, he, hN, _, _, _, _ => ⟨he, hN⟩
  | p :: ps, v :: vs, c :: cs, env, tmps, he, hN, hp, hl, hc, hv => by
    simp only [List.zip_cons_cons, List.foldl_cons, bindPs]
    obtain ⟨⟨d, hd, hr⟩, hv'⟩ := hv
    simp at hd
    subst hd
    refine ERel.binds ps vs cs _ _ (ERel.put (a := { tmps := tmps, defers := [] }) he hN (d := some p) (fun x hx => by cases hx; exact hp p (.head _)) hr) (by simpa using hN) (fun q hq => hp q (.tail _ hq)) (by simpa using hl) (by simpa using hc)
      (vsAt_shift hv' fun i _ => by rw [show 0 + 1 + i = i + 1 by omega]; simp)
  | [], _ :: _, _, _, _, _, _, _, hl, _, _ => by simp at hl
  | _ :: _, [], _, _, _, _, _, _, hl, _, _ => by simp at hl
  | _ :: _, _ :: _, [], _, _, _, _, _, _, hc, _ => by simp at hc
  | [], [], _ :: _, _, _, _, _, _, _, hc, _ => by simp at hc
/-- **a round's contract out of T** -/
theorem ctrY_of_T2 {L : Nat} {env : Env} {ps : List Nat} {a b : ACode} (hσ : σ L = some (.loop .ready env (loopOk P ps a b))) {args : List V} (hl : args.length = ps.length) {Q : R → Store → Prop}
    (h : T P a (onNormal (T P b (fun ex env' σ' => σ' L = none → RoundQ L env (loopOk P ps a b) Q ex env' σ'))) (bindPs ps args env) (del σ L)) : CtrY P L args σ Q := by
  intro Λ w cs hR hv
  obtain ⟨hnl, ob, hob, lp, rfl, ⟨hst, hpe⟩, htm, hfn, hps, hplt, pu, fz, hra, hrb⟩ := hR.own L _ hσ
  have hsub := sub_del σ L
  have hAd : Adv Λ σ w (del σ L) w := Adv.drop w hsub
  have hcs : cs.size = lp.params.size := by rw [hv.1, hl, ← hps]; simp
  refine ⟨lp.fn, _, lp.assign, lp.body, run_yield hob hcs, ?_⟩
  have hfold : (lp.params.zip cs).foldl (fun tmps (t, a) => tmps.setIfInBounds t a) lp.tmps = (ps.zip cs.toList).foldl (fun t pa => t.setIfInBounds pa.1 pa.2) lp.tmps := by
    rw [← hps, ← Array.foldl_toList, Array.toList_zip]
  obtain ⟨he0, hN0⟩ := ERel.binds (H := Hh Λ (del σ L) w) ps args cs.toList env lp.tmps (fun k v hg => let ⟨c, h1, h2⟩ := htm k v (get_mem hg); ⟨c, h1, h2.mono hAd.hle⟩) rfl hplt hl (by simpa using hv.1) (vsAt_shift (VsAt.mono hAd.hle (fun _ _ e => e) _ _ hv.2) fun i _ => by simp)
  have hrd : RoundOk (some L) (del σ L) w := fun l e => by cases e; exact ⟨del_same σ L, lp, hob⟩
  refine roundIn_of_wpK hfn ?_
  rw [hfold]
  refine wpK_mono (T_sound (r := some L) (a := { tmps := (ps.zip cs.toList).foldl (fun t pa => t.setIfInBounds pa.1 pa.2) lp.tmps, defers := [] }) hra h he0 (hR.drop hsub) hN0 hrd) ?_
  rintro e a1 w1 ⟨ex, env1, σ1, hq, hx, he1, hR1, hA1, hN1, hM1⟩
  have hrd1 := hrd.adv hA1
  have hd1 : a1.defers = [] := by
    obtain ⟨ms, h1, _, _, h2⟩ := hM1
    rw [h1, h2 (by simp)]
    rfl
  cases ex with
  | exit id => exact hq.elim
  | ret => exact hq.elim
  | pan v => exact hq.elim
  | normal =>
    simp only [XRel] at hx
    subst hx
    obtain ⟨hL1, _⟩ := hrd1 L rfl
    have hob1 : w1.heap[L]? = some (.loop lp) := (hA1.frame L (lt_of_at hob) (del_same σ L)).trans hob
    refine ⟨_, run_beginRound hob1 hst, ?_⟩
    have hlt1 := lt_of_at hob1
    have hR1' := hR1.put (ob' := .loop { lp with state := .busy }) hL1 hob1 rfl
    have hob1' : (w1.putObj L (.loop { lp with state := .busy })).heap[L]? = some (.loop { lp with state := .busy }) := World.putObj_heap_same hlt1
    have hrd1' : RoundOk (some L) σ1 (w1.putObj L (.loop { lp with state := .busy })) := fun l e => by cases e; exact ⟨hL1, _, hob1'⟩
    refine wpK_mono (T_sound (r := some L) hrb hq (he1.mono (hle_put hob1 rfl)) hR1' hN1 hrd1') ?_
    rintro e2 a2 w2 ⟨ex2, env2, σ2, hq2, hx2, he2, hR2, hA2, hN2, hM2⟩
    have hd2 : a2.defers = [] := by
      obtain ⟨ms, h1, _, _, h2⟩ := hM2
      rw [h1, h2 (by simp), hd1]
      rfl
    have hL2 : σ2 L = none := ((hrd1'.adv hA2) L rfl).1
    have hq2 := hq2 hL2
    have hob2 : w2.heap[L]? = some (.loop { lp with state := .busy }) := (hA2.frame L (lt_of_at hob1') hL1).trans hob1'
    have hne : ∀ {n : Nat}, σ n = none → n ≠ L := fun {n} hn e => by rw [e, hσ] at hn; cases hn
    have hsz : w.heap.size ≤ w2.heap.size := by
      have h1 := hA1.size
      have h2 := hA2.size
      simp at h2
      omega
    have hfr : ∀ n, n < w.heap.size → σ n = none → w2.heap[n]? = w.heap[n]? ∧ σ2 n = none := fun n hn h0 => by
      have h1 := hsub.none h0
      have h2 := hA1.names n h1 hn
      have hs1 := hA1.size
      have h3 := hA2.frame n (by simp; omega) h2
      exact ⟨h3.trans ((World.putObj_heap_other (hne h0)).trans (hA1.frame n hn h1)), hA2.names n h2 (by simp; omega)⟩
    -- the end of a round
    have fin : ∀ (st : LSt) (lp3 : Loop), lp3.tmps = lp.tmps → lp3.fn = lp.fn → lp3.params = lp.params → lp3.assign = lp.assign → lp3.body = lp.body → stOk st lp3 →
        Rel Λ (upd σ2 L (.loop st env (loopOk P ps a b))) (w2.putObj L (.loop lp3)) ∧ Adv Λ σ w (upd σ2 L (.loop st env (loopOk P ps a b))) (w2.putObj L (.loop lp3)) := fun st lp3 q1 q2 q3 q4 q5 q6 => by
      have hle : HLe (Hh Λ σ2 w2) (Hh Λ (upd σ2 L (.loop st env (loopOk P ps a b))) (w2.putObj L (.loop lp3))) := by
        intro b' o c hb
        obtain ⟨h1, h2, h3⟩ := Hh_some hb
        have hbL : b' ≠ L := fun e => by
          subst e
          rw [cell_no hob2 rfl] at h3
          cases h3
        rw [Hh_of h1 (by rw [upd_at (Ne.symm hbL)]; exact h2), ← h3]
        exact World.cell?_of_block (w := w2) (World.putObj_heap_other hbL)
      have hA : Adv Λ σ w (upd σ2 L (.loop st env (loopOk P ps a b))) (w2.putObj L (.loop lp3)) := by
        refine ⟨fun n hn h0 => (World.putObj_heap_other (hne h0)).trans (hfr n hn h0).1, by simpa using hsz, ?_, ?_, ?_, fun n h0 hn => by rw [upd_at (Ne.symm (hne h0))]; exact (hfr n hn h0).2⟩
        · exact hA2.os.trans hA1.os
        · exact hA2.tape.trans hA1.tape
        · exact hA2.output.trans hA1.output
      refine ⟨⟨fun n o ho => ?_, fun n hn => by have := hR2.lock n hn; simpa using this⟩, hA⟩
      by_cases hn : n = L
      · subst hn
        have : upd σ2 n (.loop st env (loopOk P ps a b)) n = some (.loop st env (loopOk P ps a b)) := by simp [upd]
        rw [this] at ho
        cases ho
        refine ⟨hnl, _, World.putObj_heap_same (lt_of_at hob2), lp3, rfl, q6, fun k v hm => ?_, ?_⟩
        · obtain ⟨c, h1, h2⟩ := htm k v hm
          exact ⟨c, by rw [q1]; exact h1, h2.mono hA.hle⟩
        · rw [q1, q2, q3, q4, q5]
          exact ⟨hfn, hps, hplt, pu, fz, hra, hrb⟩
      · rw [upd_at (Ne.symm hn)] at ho
        obtain ⟨h1, o', h2, h3⟩ := hR2.own n o ho
        exact ⟨h1, o', (World.putObj_heap_other hn).trans h2, h3.mono hle⟩
    cases ex2 with
    | normal =>
      simp only [XRel] at hx2
      subst hx2
      obtain ⟨q1, q2⟩ := fin .ready { lp with state := .ready, pending := none } rfl rfl rfl rfl rfl ⟨rfl, rfl⟩
      exact ⟨_, _, run_endRound none hob2, .ret (.b true), _, hq2, ⟨_, rfl, rfl⟩, q1, q2⟩
    | ret =>
      simp only [XRel] at hx2
      subst hx2
      obtain ⟨q1, q2⟩ := fin .ret { lp with state := .done, pending := some .ret } rfl rfl rfl rfl rfl ⟨rfl, rfl⟩
      exact ⟨_, _, run_endRound (some .ret) hob2, .ret (.b false), _, hq2, ⟨_, rfl, rfl⟩, q1, q2⟩
    | exit id =>
      simp only [XRel] at hx2
      subst hx2
      obtain ⟨q1, q2⟩ := fin (.exit id) { lp with state := .done, pending := some (.exit id) } rfl rfl rfl rfl rfl ⟨rfl, rfl⟩
      exact ⟨_, _, run_endRound (some (.exit id)) hob2, .ret (.b false), _, hq2, ⟨_, rfl, rfl⟩, q1, q2⟩
    | pan v =>
      obtain ⟨c, rfl, hvr⟩ := hx2
      refine ⟨hd2, .pan v, σ2, hq2, ⟨c, rfl, hvr⟩, hR2, ?_⟩
      exact ⟨fun n hn h0 => (hfr n hn h0).1, hsz, hA2.os.trans hA1.os, hA2.tape.trans hA1.tape, hA2.output.trans hA1.output, fun n h0 hn => (hfr n hn h0).2⟩
theorem ctrY_of_T {L : Nat} {env : Env} {ps : List Nat} {a b : ACode} (hσ : σ L = some (.loop .ready env (loopOk P ps a b))) {args : List V} (hl : args.length = ps.length) {Q : R → Store → Prop}
    (h : T P a (onNormal (T P b (RoundQ L env (loopOk P ps a b) Q))) (bindPs ps args env) (del σ L)) : CtrY P L args σ Q := by
  refine ctrY_of_T2 hσ hl (T_mono h fun ex env' σ' hq => ?_)
  cases ex with
  | normal => exact T_mono hq fun ex env2 σ2 h2 _ => h2
  | exit id => exact hq
  | ret => exact hq
  | pan v => exact hq
end Go.Gl
