/-
  EV 7: slices.Clone, taken whole.
-/
import Derived.Test.YtfbhfdaljendcaaGreatEv6
set_option linter.all false
set_option linter.unusedVariables false
set_option linter.unusedSimpArgs false
namespace Go.Gl
variable {P : Program}
abbrev cloneAC (sz b : Nat) : ACode := (.seq [0] (.reg [⟨(some 2), .mv (.c (.l [] true)), none⟩])
  (.seq [0] (.seq [0, 4] (.reg [⟨(some 3), .mv (.t 0), none⟩,
    ⟨(some 4), .eqn 1 false (.t 3), none⟩])
  (.cond (.t 4)
  (.seq [2] (.reg [⟨(some 2), .mv (.c (.l [] true)), none⟩])
  .ret)
  .skip))
  (.seq [2] (.reg [⟨(some 5), .bslice 1 0 [] [], none⟩,
    ⟨(some 6), .mv (.t 0), none⟩,
    ⟨(some 7), .append sz b (.t 5) (.t 6), none⟩,
    ⟨(some 2), .mv (.t 7), none⟩])
  .ret)))
theorem kEqn_mono {q : Nat} {neg : Bool} {x : V} {k k' : V → Prop} (h : kEqn q neg x k) (hm : ∀ t, k (.b t) → k' (.b t)) : kEqn q neg x k' := by
  unfold kEqn at *
  split at h <;> first | exact hm _ h | exact ⟨fun e t => hm _ (h.1 e t), fun e => hm _ (h.2 e)⟩ | exact h.elim
theorem Done_self {v : V} {σ : Store} {Q : R → Store → Prop} (h : Q (.ret v) σ) : Done σ v Q := ⟨v, σ, fun _ _ h => h, .refl _, h⟩
theorem RV_nil {ρ : Ren} {f : Bool} : RV ρ (.l [] f) (.l [] f) := by simp only [RV]; exact ⟨[], rfl, rfl⟩
section
attribute [local irreducible] Ctr Done DoneP kIaddr kAppend kAppf kSlice kStore kMkslice kCopy kLookup kMapset CtrF CtrI kLoad kLen LoopR W kEqn
theorem clone_W {sz b : Nat} {v : V} {σ : Store} {Q : R → Store → Prop} (h1 : kEqn 1 false v fun t => (t = .b true → Done σ (.l [] true) Q) ∧ (t = .b false → kAppend σ sz (.l [] true) v fun v' σ' => Done σ' v' Q)) :
    W P (cloneAC sz b) (RetC [.t 2] Q) [(0, v)] σ := by
  try (conv => whnf)
  repeat ((first | refine ⟨rfl, ?_⟩ | refine ⟨Nat.le_of_ble_eq_true rfl, ?_⟩ | refine and_tt ?_ | refine and_ff ?_ | refine and_nff ?_ | refine and_ntt ?_ | refine load_rp ?_ | refine len_l ?_ | (refine W_seqK ?_; intro K hK) | (refine W_regI ?_; intro KR KP hR hP) | (refine hR _ _ ?_; clear hP; clear KP; clear hR; clear KR) | (refine hP _ _ _ ?_; clear hP; clear KP; clear hR; clear KR) | refine W_condI ?_ | refine W_exitI ?_ | refine W_retI ?_ | refine W_skipI ?_ | refine W_blockI ?_ | refine W_loopI ?_ | (refine W_dregI ?_; intro KR KP hR hP) | (refine hP _ _ fun σ hsub => ?_; clear hP; clear KP; clear hR; clear KR) | refine W_scopeI ?_ | refine W_rangeI ?_ | (refine hK _ _ ?_; clear hK; clear K) | (clear hK; clear K)); try (conv => whnf))
  refine kEqn_mono h1 fun t ht => ?_
  try (conv => whnf)
  repeat ((first | refine ⟨rfl, ?_⟩ | refine ⟨Nat.le_of_ble_eq_true rfl, ?_⟩ | refine and_tt ?_ | refine and_ff ?_ | refine and_nff ?_ | refine and_ntt ?_ | refine load_rp ?_ | refine len_l ?_ | (refine W_seqK ?_; intro K hK) | (refine W_regI ?_; intro KR KP hR hP) | (refine hR _ _ ?_; clear hP; clear KP; clear hR; clear KR) | (refine hP _ _ _ ?_; clear hP; clear KP; clear hR; clear KR) | refine W_condI ?_ | refine W_exitI ?_ | refine W_retI ?_ | refine W_skipI ?_ | refine W_blockI ?_ | refine W_loopI ?_ | (refine W_dregI ?_; intro KR KP hR hP) | (refine hP _ _ fun σ hsub => ?_; clear hP; clear KP; clear hR; clear KR) | refine W_scopeI ?_ | refine W_rangeI ?_ | (refine hK _ _ ?_; clear hK; clear K) | (clear hK; clear K)); try (conv => whnf))
  refine ⟨fun h => ?_, fun h => ?_⟩
  · subst h
    try (conv => whnf)
    repeat ((first | refine ⟨rfl, ?_⟩ | refine ⟨Nat.le_of_ble_eq_true rfl, ?_⟩ | refine and_tt ?_ | refine and_ff ?_ | refine and_nff ?_ | refine and_ntt ?_ | refine load_rp ?_ | refine len_l ?_ | (refine W_seqK ?_; intro K hK) | (refine W_regI ?_; intro KR KP hR hP) | (refine hR _ _ ?_; clear hP; clear KP; clear hR; clear KR) | (refine hP _ _ _ ?_; clear hP; clear KP; clear hR; clear KR) | refine W_condI ?_ | refine W_exitI ?_ | refine W_retI ?_ | refine W_skipI ?_ | refine W_blockI ?_ | refine W_loopI ?_ | (refine W_dregI ?_; intro KR KP hR hP) | (refine hP _ _ fun σ hsub => ?_; clear hP; clear KP; clear hR; clear KR) | refine W_scopeI ?_ | refine W_rangeI ?_ | (refine hK _ _ ?_; clear hK; clear K) | (clear hK; clear K)); try (conv => whnf))
    exact ht.1 rfl
  · subst h
    try (conv => whnf)
    repeat ((first | refine ⟨rfl, ?_⟩ | refine ⟨Nat.le_of_ble_eq_true rfl, ?_⟩ | refine and_tt ?_ | refine and_ff ?_ | refine and_nff ?_ | refine and_ntt ?_ | refine load_rp ?_ | refine len_l ?_ | (refine W_seqK ?_; intro K hK) | (refine W_regI ?_; intro KR KP hR hP) | (refine hR _ _ ?_; clear hP; clear KP; clear hR; clear KR) | (refine hP _ _ _ ?_; clear hP; clear KP; clear hR; clear KR) | refine W_condI ?_ | refine W_exitI ?_ | refine W_retI ?_ | refine W_skipI ?_ | refine W_blockI ?_ | refine W_loopI ?_ | (refine W_dregI ?_; intro KR KP hR hP) | (refine hP _ _ fun σ hsub => ?_; clear hP; clear KP; clear hR; clear KR) | refine W_scopeI ?_ | refine W_rangeI ?_ | (refine hK _ _ ?_; clear hK; clear K) | (clear hK; clear K)); try (conv => whnf))
    refine kAppend_mono (ht.2 rfl) fun v' σ' hq => ?_
    try (conv => whnf)
    repeat ((first | refine ⟨rfl, ?_⟩ | refine ⟨Nat.le_of_ble_eq_true rfl, ?_⟩ | refine and_tt ?_ | refine and_ff ?_ | refine and_nff ?_ | refine and_ntt ?_ | refine load_rp ?_ | refine len_l ?_ | (refine W_seqK ?_; intro K hK) | (refine W_regI ?_; intro KR KP hR hP) | (refine hR _ _ ?_; clear hP; clear KP; clear hR; clear KR) | (refine hP _ _ _ ?_; clear hP; clear KP; clear hR; clear KR) | refine W_condI ?_ | refine W_exitI ?_ | refine W_retI ?_ | refine W_skipI ?_ | refine W_blockI ?_ | refine W_loopI ?_ | (refine W_dregI ?_; intro KR KP hR hP) | (refine hP _ _ fun σ hsub => ?_; clear hP; clear KP; clear hR; clear KR) | refine W_scopeI ?_ | refine W_rangeI ?_ | (refine hK _ _ ?_; clear hK; clear K) | (clear hK; clear K)); try (conv => whnf))
    exact hq
end
/-- what is handed back is new, whatever came in -/
theorem clone_fs {f : FuncId} {n sz b : Nat} (h : ∀ (args : List V) (σ : Store) (Q : R → Store → Prop), args.length ≤ n → T P (cloneAC sz b) (RetC [.t 2] Q) (argEnv 0 args) σ → Ctr P f args σ Q) (hn : 1 ≤ n) : FnOk P f (.prim (cloneP sz)) := by
  intro vs s r s' hc ρ vs' σ hv hs Q hQ
  have main : ∀ {v v' : V} {ys : List (List V)}, vs = [v] → vs' = [v'] → RV ρ v v' → eRows s sz v = some ys → (ys = [] → r = .ret (.l [] true) ∧ s' = s) →
      (ys ≠ [] → (ys.all (fun e => e.all oneV) && Nat.ble ys.length maxL) = true ∧ s.nx ≤ limN ∧ r = .ret (.sl s.nx ys.length 0) ∧ s' = ⟨s.nx + 1, Tr.set (some (.arr sz ys)) depthTr s.t s.nx⟩) →
      (∀ k : V → Prop, (ys = [] → ∀ t, k (.b t)) → (ys ≠ [] → k (.b false)) → kEqn 1 false v' k) → Ctr P f vs' σ Q := fun {v v' ys} e1 e2 hr hy h0 h1 hk => by
    subst e1; subst e2
    refine h _ _ _ hn (T_W (clone_W (hk _ (fun e t => ⟨fun _ => ?_, fun _ => ?_⟩) fun e => ⟨fun h => (by cases h), fun _ => ?_⟩)))
    · obtain ⟨rfl, rfl⟩ := h0 e
      exact Done_self (hQ ρ _ σ (.refl _) ⟨_, RV_nil, rfl⟩ hs)
    · obtain ⟨rfl, rfl⟩ := h0 e
      refine eRows_ok hs hy hr fun ys' hr' => ?_
      have : ys' = [] := by
        have := hr'.len
        rw [e] at this
        exact List.length_eq_zero_iff.1 this
      subst this
      exact ⟨fun e he => (by cases he), fun e he => (by cases he), Nat.zero_le _, fun _ => Done_self (hQ ρ _ σ (.refl _) ⟨_, RV_nil, rfl⟩ hs), fun h => absurd rfl h⟩
    · obtain ⟨g1, g2, rfl, rfl⟩ := h1 e
      simp only [Bool.and_eq_true] at g1
      refine eRows_ok hs hy hr fun ys' hr' => ?_
      have hl := hr'.len
      have hne : ys' ≠ [] := fun e' => e (by rw [e'] at hl; exact List.length_eq_zero_iff.1 hl.symm)
      refine ⟨all_ones g1.1 hr', fun e he => (by cases he), ?_, fun e => absurd e hne, fun _ => ⟨rfl, fun n cap hn0 hc => ?_⟩⟩
      · have := Nat.le_of_ble_eq_true g1.2
        simp only [List.length_nil]
        omega
      · obtain ⟨ρ', q1, q2, q3⟩ := hs.new g2 hn0 cap (o := .arr sz ys) (o' := .arr sz ys' cap) ⟨_, hr', rfl⟩
        refine Done_self (hQ ρ' _ _ q1 ?_ ?_)
        · refine ⟨_, ?_, rfl⟩
          simp only [RV]
          exact ⟨_, q2, by simp [hl]⟩
        · simpa using q3
  have parts : ∀ {ys : List (List V)}, (match some ys with
    | some [] => some (R.ret (V.l [] true), s)
    | some (y :: ys) => bif (y :: ys).all (fun e => e.all oneV) && Nat.ble (y :: ys).length maxL then s.new (.arr sz (y :: ys)) fun i s' => some (.ret (.sl i (y :: ys).length 0), s') else none
    | none => none) = some (r, s') → (ys = [] → r = .ret (.l [] true) ∧ s' = s) ∧
      (ys ≠ [] → (ys.all (fun e => e.all oneV) && Nat.ble ys.length maxL) = true ∧ s.nx ≤ limN ∧ r = .ret (.sl s.nx ys.length 0) ∧ s' = ⟨s.nx + 1, Tr.set (some (.arr sz ys)) depthTr s.t s.nx⟩) := fun {ys} hc => by
    cases ys with
    | nil => cases hc; exact ⟨fun _ => ⟨rfl, rfl⟩, fun h => absurd rfl h⟩
    | cons y ys =>
      obtain ⟨h1, h2⟩ := bif_some hc
      obtain ⟨h3, h4⟩ := St.new_eq h2
      cases h4
      exact ⟨fun h => (by cases h), fun _ => ⟨h1, h3, rfl, rfl⟩⟩
  unfold cloneP at hc
  split at hc
  · rename_i es f
    obtain ⟨v', l', k1, k2, rfl⟩ := hv
    obtain rfl : l' = [] := k2
    cases hy : eRows s sz (.l es f) with
    | none => rw [hy] at hc; cases hc
    | some ys =>
      rw [hy] at hc
      obtain ⟨p1, p2⟩ := parts hc
      refine main rfl rfl k1 hy p1 p2 fun k h0 h1 => ?_
      simp only [RV] at k1
      obtain ⟨es', k3, rfl⟩ := k1
      have hl := (RR_eq.1 k3).len
      have he : ys = es := by
        simp only [eRows] at hy
        exact (Option.some.inj (bif_some hy).2).symm
      subst he
      unfold kEqn
      exact ⟨fun e => h0 (by rw [e] at hl; exact List.length_eq_zero_iff.1 hl.symm), fun e => h1 fun e' => e (by rw [e'] at hl; exact List.length_eq_zero_iff.1 hl)⟩
  · rename_i m len c
    obtain ⟨v', l', k1, k2, rfl⟩ := hv
    obtain rfl : l' = [] := k2
    cases hy : eRows s sz (.sl m len c) with
    | none => rw [hy] at hc; cases hc
    | some ys =>
      rw [hy] at hc
      obtain ⟨p1, p2⟩ := parts (ys := ys) hc
      refine main rfl rfl k1 hy p1 p2 fun k h0 h1 => ?_
      simp only [RV] at k1
      obtain ⟨m', k3, rfl⟩ := k1
      unfold kEqn
      show k (.b false)
      by_cases e : ys = []
      · exact h0 e false
      · exact h1 e
  · cases hc
end Go.Gl
