/-
  GL 11n: maps whose keys are integers or rows of integers.
-/
import Derived.Test.YtfbhfdaljendcaaGreatGl11m
import Derived.DeepKeys3
import Derived.StringKeys
set_option linter.all false
set_option linter.unusedVariables false
set_option linter.unusedSimpArgs false
namespace Go.Gl
variable {P : Program} {Λ : Nat → Prop} {σ : Store} {w : World} {k kp : V → Store → Prop}

/-- what is asked of the keys of a map -/
structure KL (P : Program) (kt : TypeId) (ok : Value → Prop) : Prop where
  check : ∀ (w : World) (em : Bool) {v : Value}, ok v → (Instr.checkKey em 10000 kt v).run P w = .ok () w
  find : ∀ (w : World) {x : Value}, ok x → ∀ es : List MapEntry, (∀ e ∈ es, ok e.key) →
    ((Instr.findKey kt x es).run P w = .ok none w ∧ ∀ e ∈ es, e.key ≠ x) ∨ ∃ j e, (Instr.findKey kt x es).run P w = .ok (some (j, e.val)) w ∧ es[j]? = some e ∧ e.key = x
  stays : ∀ (w : World) {v : Value}, ok v → (Instr.keyThatStays v v).run P w = .ok v w

theorem KL.of_law {kt : TypeId} (K : WideMaps.KeyLaw P kt) : KL P kt fun v => ∃ l, keyOf P kt v = some l where
  check w em _ h := let ⟨_, h⟩ := h; K.check w em h
  find w _ h es hes := let ⟨_, h⟩ := h; K.find w h es hes
  stays w _ h := let ⟨_, h⟩ := h; K.stays w h

theorem findNow_int {q : IntKind} {ki : IntKind} (a : Int) : ∀ (es : List MapEntry) (i : Nat), (∀ e ∈ es, ∃ b, e.key = .int ki b) →
    (Instr.findNow (.int q) (.int ki a) es i = some none ∧ ∀ e ∈ es, e.key ≠ .int ki a) ∨ ∃ j e, Instr.findNow (.int q) (.int ki a) es i = some (some (i + j, e.val)) ∧ es[j]? = some e ∧ e.key = .int ki a
  | [], i, _ => .inl ⟨rfl, by simp⟩
  | e :: es, i, h => by
    obtain ⟨b, hb⟩ := h e (.head _)
    simp only [Instr.findNow, hb, Instr.sameNow, if_true]
    by_cases hab : a = b
    · subst hab
      refine .inr ⟨0, e, by simp, rfl, hb⟩
    · have : (a == b) = false := by simpa using hab
      rw [this]
      rcases findNow_int a es (i + 1) (fun e he => h e (.tail _ he)) with ⟨h1, h2⟩ | ⟨j, e', h1, h2, h3⟩
      · refine .inl ⟨h1, fun e' he' => ?_⟩
        rcases List.mem_cons.1 he' with rfl | he'
        · rw [hb]; intro e; cases e; exact hab rfl
        · exact h2 e' he'
      · exact .inr ⟨j + 1, e', by rw [h1, show i + 1 + j = i + (j + 1) by omega], h2, h3⟩
theorem check_int {kt : TypeId} {q : IntKind} (hu : P.underlying kt = some (.int q)) (em : Bool) (n : Nat) (ki : IntKind) (b : Int) : (Instr.checkKey em (n + 1) kt (.int ki b)).run P w = .ok () w := by
  simp only [Instr.checkKey, Sem.run_bind, run_und hu, Result.andThen_ok, Sem.run_pure]
theorem KL.int {kt : TypeId} {q : IntKind} (hu : P.underlying kt = some (.int q)) (ki : IntKind) : KL P kt fun v => ∃ b, v = .int ki b where
  check w em v h := by
    obtain ⟨b, rfl⟩ := h
    exact check_int hu em 9999 ki b
  find w x h es hes := by
    obtain ⟨b, rfl⟩ := h
    unfold Instr.findKey
    simp only [Sem.run_bind, run_und hu, Result.andThen_ok]
    rcases findNow_int (q := q) b es 0 hes with ⟨h1, h2⟩ | ⟨j, e, h1, h2, h3⟩
    · exact .inl ⟨by rw [h1]; rfl, h2⟩
    · exact .inr ⟨j, e, by rw [h1, Nat.zero_add]; rfl, h2, h3⟩
  stays w v h := by
    obtain ⟨b, rfl⟩ := h
    unfold Instr.keyThatStays
    have : Instr.sameBits 10000 (.int ki b) (.int ki b) = true := by simp [Instr.sameBits]
    rw [this]
    rfl

/-! keys that are rows of integers -/
def Ints (cs cs' : List Value) : Prop := cs.length = cs'.length ∧ ∀ (i : Nat) (a : Value), cs[i]? = some a → ∃ (q : IntKind) (n m : Int), a = Value.int q n ∧ cs'[i]? = some (Value.int q m) ∧ (Lit.int q m).wf = true
theorem Ints.part {cs cs' : List Value} (h : Ints cs cs') (o n : Nat) : Ints ((cs.drop o).take n) ((cs'.drop o).take n) := by
  refine ⟨by simp [h.1], fun i a ha => ?_⟩
  rw [List.getElem?_take] at ha ⊢
  split at ha
  · rename_i hi
    rw [if_pos hi]
    rw [List.getElem?_drop] at ha ⊢
    exact h.2 _ _ ha
  · cases ha
theorem mapM_ex {α β : Type} {f g : α → Option β} : ∀ {l : List α} {ys : List β}, (∀ x ∈ l, ∀ y, f x = some y → ∃ y', g x = some y') → l.mapM f = some ys → ∃ ys', l.mapM g = some ys'
  | [], _, _, _ => ⟨[], by simp⟩
  | x :: l, ys, h, hm => by
    rw [List.mapM_cons] at hm
    simp only [bind, Option.bind_eq_some_iff, pure, Option.some.injEq] at hm
    obtain ⟨y, h1, ys', h2, rfl⟩ := hm
    obtain ⟨y', h3⟩ := h x (.head _) y h1
    obtain ⟨ys'', h4⟩ := mapM_ex (fun x hx => h x (.tail _ hx)) h2
    exact ⟨y' :: ys'', by rw [List.mapM_cons]; simp [h3, h4]⟩
theorem keyLits_ex : ∀ (D : Nat) (t : TypeId) {cs cs' : List Value} {l : List Lit}, Ints cs cs' → P.keyLits D t cs = some l → ∃ l', P.keyLits D t cs' = some l'
  | 0, _, _, _, _, _, h => by simp [Program.keyLits] at h
  | D + 1, t, cs, cs', l, hi, h => by
    unfold Program.keyLits at h ⊢
    split at h
    · rename_i b _
      obtain ⟨q, n, m, e, _⟩ := hi.2 0 _ rfl
      cases e
    · rename_i q q' n hu
      obtain ⟨q2, n2, m, e, e2, e3⟩ := hi.2 0 _ rfl
      cases e
      have hl : cs'.length = 1 := hi.1.symm
      match cs', hl, e2 with
      | [c], _, e2 =>
        simp only [List.getElem?_cons_zero, Option.some.injEq] at e2
        subst e2
        split at h
        · rename_i hq
          obtain ⟨rfl, _⟩ := hq
          simp only [hu]
          exact ⟨_, if_pos ⟨trivial, e3⟩⟩
        · cases h
    · obtain ⟨q, n, m, e, _⟩ := hi.2 0 _ rfl
      cases e
    · rename_i n e hu
      simp only [hu]
      split at h
      · rename_i hl
        rw [if_pos (by rw [← hi.1]; exact hl)]
        obtain ⟨ys, h1, _⟩ := opt_map_some h
        obtain ⟨ys', h2⟩ := mapM_ex (g := fun i => P.keyLits D e ((cs'.drop (i * P.cellsOf e)).take (P.cellsOf e))) (fun i _ y hy => keyLits_ex D e (hi.part _ _) hy) h1
        exact ⟨_, by rw [h2]; rfl⟩
      · cases h
    · rename_i fs hu
      simp only [hu]
      split at h
      · rename_i hl
        rw [if_pos (by rw [← hi.1]; exact hl)]
        obtain ⟨ys, h1, _⟩ := opt_map_some h
        obtain ⟨ys', h2⟩ := mapM_ex (g := fun f => P.keyLits D f.type ((cs'.drop f.offset).take (P.cellsOf f.type))) (fun f _ y hy => keyLits_ex D f.type (hi.part _ _) hy) h1
        exact ⟨_, by rw [h2]; rfl⟩
      · cases h
    · cases h

def kindOf : V → Option IntKind | .i q _ => some q | _ => none
def kindsOf : List V → Option (List IntKind)
  | [] => some []
  | c :: cs => match kindOf c, kindsOf cs with | some q, some l => some (q :: l) | _, _ => none
/-- what keys of a type look like -/
def ksOf (P : Program) (kt : TypeId) : Option KS :=
  match P.underlying kt with
  | some (.int k) => some (.i k)
  | some .string => some .s
  | some (.array _ _) | some (.struct _) => match zeroOf P kt with
    | some (.a cs) => match kindsOf cs with
      | some l => if P.keyType kt && P.keyTypeAt 6 kt && P.tiled 6 kt && (P.keyLits (P.types.size + 1) kt (l.map fun q => .int q 0)).isSome && Nat.beq l.length (P.cellsOf kt) then some (.a l) else none
      | none => none
    | _ => none
  | _ => none

theorem kinds_ints {H : Nat → Nat → Option Value} {g : Nat → Option Value} : ∀ {l : List IntKind} {cs : List V} {o : Nat}, kindsB l cs = true → VsAt H g o cs →
    cs.length = l.length ∧ ∀ (i : Nat) (q : IntKind), l[i]? = some q → ∃ m : Int, cs[i]? = some (.i q m) ∧ g (o + i) = some (.int q m) ∧ q.min ≤ m ∧ m ≤ q.max
  | [], [], _, _, _ => ⟨rfl, by simp⟩
  | [], _ :: _, _, h, _ => by simp [kindsB] at h
  | q :: l, [], _, h, _ => by simp [kindsB] at h
  | q :: l, c :: cs, o, h, hv => by
    cases c <;> simp only [kindsB, Bool.false_eq_true] at h
    rename_i q' n
    simp only [Bool.and_eq_true, decide_eq_true_eq] at h
    obtain ⟨rfl, h⟩ := h
    obtain ⟨⟨c, h1, ⟨rfl, h2⟩⟩, h3⟩ := hv
    obtain ⟨h4, h5⟩ := kinds_ints h h3
    refine ⟨by simp [h4], fun i q' hq => ?_⟩
    cases i with
    | zero => simp only [List.getElem?_cons_zero, Option.some.injEq] at hq; subst hq; exact ⟨n, rfl, h1, h2⟩
    | succ i =>
      obtain ⟨m, h6, h7, h8⟩ := h5 i q' (by simpa using hq)
      exact ⟨m, by simpa using h6, by rw [← h7]; congr 1; omega, h8⟩
theorem kl_of {kt : TypeId} {ks : KS} (h : ksOf P kt = some ks) : ∃ ok, KL P kt ok ∧ ∀ (H : Nat → Nat → Option Value) (v : V) (c : Value), keyOkV ks v = true → VRel H v c → ok c := by
  unfold ksOf at h
  have agg : ∀ (hw : (match P.underlying kt with | some (.array _ _) | some (.struct _) => true | _ => false) = true), (match zeroOf P kt with
    | some (.a cs) => match kindsOf cs with
      | some l => if P.keyType kt && P.keyTypeAt 6 kt && P.tiled 6 kt && (P.keyLits (P.types.size + 1) kt (l.map fun q => Value.int q 0)).isSome && Nat.beq l.length (P.cellsOf kt) then some (.a l) else none
      | none => none
    | _ => none) = some ks → ∃ ok, KL P kt ok ∧ ∀ (H : Nat → Nat → Option Value) (v : V) (c : Value), keyOkV ks v = true → VRel H v c → ok c := fun hw h => by
    split at h
    · split at h
      · rename_i l _
        split at h
        · rename_i hc
          cases h
          simp only [Bool.and_eq_true] at hc
          obtain ⟨⟨⟨⟨c1, c2⟩, c3⟩, c4⟩, c5⟩ := hc
          refine ⟨_, KL.of_law (deep_law (m := 6) (by omega) c2 c3 hw), fun H v c hv hr => ?_⟩
          cases v <;> simp only [keyOkV, Bool.false_eq_true] at hv
          rename_i cs
          obtain ⟨c', rfl, h1, h2⟩ := hr
          obtain ⟨h3, h4⟩ := kinds_ints hv h2
          have hsz : c'.size = P.cellsOf kt := by rw [h1, h3]; exact Nat.eq_of_beq_eq_true c5
          obtain ⟨L, hL⟩ := Option.isSome_iff_exists.1 c4
          obtain ⟨L', hL'⟩ := keyLits_ex (P := P) (P.types.size + 1) kt (cs := l.map fun q => Value.int q 0) (cs' := c'.toList) ⟨by simp [h1, h3], fun i a ha => by
            rw [List.getElem?_map] at ha
            obtain ⟨q, hq, rfl⟩ := opt_map_some ha
            obtain ⟨m, _, h6, h7⟩ := h4 i q hq
            refine ⟨q, 0, m, rfl, by simpa using h6, by simpa [Lit.wf] using h7⟩⟩ hL
          have hf : (Value.agg c').formed P kt = true := by
            unfold Value.formed
            split at hw <;> simp_all
          refine ⟨.string (keyBytes L'), ?_⟩
          unfold keyOf
          split at hw
          · rename_i hu; simp only [hu, c1, hf, Bool.and_self, if_true]; show Option.map _ (P.keyLits _ kt c'.toList) = _; rw [hL']; rfl
          · rename_i hu; simp only [hu, c1, hf, Bool.and_self, if_true]; show Option.map _ (P.keyLits _ kt c'.toList) = _; rw [hL']; rfl
          · cases hw
        · cases h
      · cases h
    · cases h
  split at h
  · rename_i q0 hu
    cases h
    refine ⟨_, KL.int hu q0, fun H v c hv hr => ?_⟩
    cases v <;> simp only [keyOkV, Bool.false_eq_true] at hv
    rename_i q n
    obtain ⟨rfl, _⟩ := hr
    have := of_decide_eq_true hv
    subst this
    exact ⟨n, rfl⟩
  · rename_i hu
    cases h
    refine ⟨_, KL.of_law (WideMaps.string_law hu), fun H v c hv hr => ?_⟩
    cases v <;> simp only [keyOkV, Bool.false_eq_true] at hv
    have hr' : c = .string _ := hr
    subst hr'
    exact ⟨_, WideMaps.keyOf_string_mk hu (Nat.le_trans (Nat.le_of_ble_eq_true hv) (by decide))⟩
  · rename_i hu; exact agg (by rw [hu]) h
  · rename_i hu; exact agg (by rw [hu]) h
  · cases h

theorem eqCells_eq : ∀ {l : List IntKind} {cs ds : List V}, kindsB l cs = true → kindsB l ds = true → ∃ r, eqCells cs ds = some r ∧ (r = true ↔ cs = ds)
  | [], [], [], _, _ => ⟨true, rfl, by simp⟩
  | [], _ :: _, _, h, _ => by simp [kindsB] at h
  | [], [], _ :: _, _, h => by simp [kindsB] at h
  | _ :: _, [], _, h, _ => by simp [kindsB] at h
  | _ :: _, _ :: _, [], _, h => by simp [kindsB] at h
  | q :: l, c :: cs, d :: ds, h, h' => by
    cases c <;> simp only [kindsB, Bool.false_eq_true] at h
    cases d <;> simp only [kindsB, Bool.false_eq_true] at h'
    rename_i k a k' b
    simp only [Bool.and_eq_true, decide_eq_true_eq] at h h'
    obtain ⟨rfl, h⟩ := h
    obtain ⟨rfl, h'⟩ := h'
    obtain ⟨r, h1, h2⟩ := eqCells_eq h h'
    refine ⟨(a == b) && r, by simp [eqCells, h1], ?_⟩
    rw [Bool.and_eq_true, h2]
    constructor
    · rintro ⟨h3, rfl⟩
      rw [show a = b by simpa using h3]
    · intro e
      cases e
      exact ⟨by simp, rfl⟩
theorem eqKey_iff {ks : KS} {H : Nat → Nat → Option Value} {x y : V} {c d : Value} (hx : keyOkV ks x = true) (hy : keyOkV ks y = true) (hc : VRel H x c) (hd : VRel H y d) : eqKey x y = true ↔ c = d := by
  cases ks with
  | i q =>
    cases x <;> simp only [keyOkV, Bool.false_eq_true] at hx
    cases y <;> simp only [keyOkV, Bool.false_eq_true] at hy
    rename_i k a k' b
    obtain ⟨rfl, _⟩ := hc
    obtain ⟨rfl, _⟩ := hd
    have h1 := of_decide_eq_true hx
    have h2 := of_decide_eq_true hy
    subst h1
    subst h2
    simp [eqKey]
  | s =>
    cases x <;> simp only [keyOkV, Bool.false_eq_true] at hx
    cases y <;> simp only [keyOkV, Bool.false_eq_true] at hy
    have h1 : c = .string _ := hc
    have h2 : d = .string _ := hd
    subst h1
    subst h2
    simp [eqKey]
  | a l =>
    cases x <;> simp only [keyOkV, Bool.false_eq_true] at hx
    cases y <;> simp only [keyOkV, Bool.false_eq_true] at hy
    rename_i cs ds
    obtain ⟨c', rfl, h1, h2⟩ := hc
    obtain ⟨d', rfl, h3, h4⟩ := hd
    obtain ⟨r, h5, h6⟩ := eqCells_eq hx hy
    obtain ⟨g1, g2⟩ := kinds_ints hx h2
    obtain ⟨g3, g4⟩ := kinds_ints hy h4
    simp only [eqKey, h5, Option.getD_some, h6, Value.agg.injEq]
    constructor
    · rintro rfl
      refine Array.ext (by omega) fun i hi hj => ?_
      obtain ⟨m, a1, a2, _⟩ := g2 i l[i] (List.getElem?_eq_getElem (by omega))
      obtain ⟨m', b1, b2, _⟩ := g4 i l[i] (List.getElem?_eq_getElem (by omega))
      rw [a1] at b1
      cases b1
      simp only [Nat.zero_add, Array.getElem?_eq_getElem hi, Array.getElem?_eq_getElem hj, Option.some.injEq] at a2 b2
      rw [a2, b2]
    · rintro rfl
      refine List.ext_getElem? fun i => ?_
      by_cases hi : i < l.length
      · obtain ⟨m, a1, a2, _⟩ := g2 i l[i] (List.getElem?_eq_getElem hi)
        obtain ⟨m', b1, b2, _⟩ := g4 i l[i] (List.getElem?_eq_getElem hi)
        rw [a2] at b2
        cases b2
        rw [a1, b1]
      · rw [List.getElem?_eq_none (by omega), List.getElem?_eq_none (by omega)]

theorem kv_none {ks : KS} {H : Nat → Nat → Option Value} {key : V} {c x : Value} {val : V} (hk : keyOkV ks key = true) (hc : VRel H key c) (hx : VRel H val x) (clk : Nat) : ∀ {kvs : List (V × V)} {es : List MapEntry}, KvRel H kvs es → (∀ kv ∈ kvs, keyOkV ks kv.1 = true) → (∀ e ∈ es, e.key ≠ c) →
    kvFind key kvs = none ∧ KvRel H (kvPut key val kvs) (es ++ [{ key := c, val := x, born := clk }])
  | [], [], _, _, _ => ⟨rfl, hc, hx, trivial⟩
  | [], _ :: _, h, _, _ => h.elim
  | _ :: _, [], h, _, _ => h.elim
  | (k, v) :: r, e :: es, h, hks, hne => by
    obtain ⟨h1, h2, h3⟩ := h
    have hf : eqKey key k = false := by
      cases hb : eqKey key k with
      | false => rfl
      | true => exact absurd ((eqKey_iff hk (hks _ (.head _)) hc h1).1 hb).symm (hne e (.head _))
    obtain ⟨h4, h5⟩ := kv_none hk hc hx clk h3 (fun kv hkv => hks kv (.tail _ hkv)) (fun e he => hne e (.tail _ he))
    simp only [kvFind, kvPut, hf, cond_false]
    exact ⟨h4, h1, h2, h5⟩
theorem kv_some {ks : KS} {H : Nat → Nat → Option Value} {key : V} {c x : Value} {val : V} (hk : keyOkV ks key = true) (hc : VRel H key c) (hx : VRel H val x) : ∀ {kvs : List (V × V)} {es : List MapEntry} {j : Nat} {e : MapEntry}, KvRel H kvs es → (∀ kv ∈ kvs, keyOkV ks kv.1 = true) →
    es.Pairwise (fun a b => a.key ≠ b.key) → es[j]? = some e → e.key = c →
    ∃ v, kvFind key kvs = some v ∧ VRel H v e.val ∧ KvRel H (kvPut key val kvs) (es.modify j fun e => { e with key := c, val := x })
  | [], [], j, _, _, _, _, hj, _ => by simp at hj
  | [], _ :: _, _, _, h, _, _, _, _ => h.elim
  | _ :: _, [], _, _, h, _, _, _, _ => h.elim
  | (k, v) :: r, e0 :: es, j, e, h, hks, hd, hj, he => by
    obtain ⟨h1, h2, h3⟩ := h
    obtain ⟨hd1, hd2⟩ := List.pairwise_cons.1 hd
    have hiff := eqKey_iff hk (hks _ (.head _)) hc h1
    cases j with
    | zero =>
      simp only [List.getElem?_cons_zero, Option.some.injEq] at hj
      subst hj
      have hb : eqKey key k = true := hiff.2 he.symm
      simp only [kvFind, kvPut, hb, cond_true]
      exact ⟨v, rfl, h2, hc, hx, h3⟩
    | succ j =>
      simp only [List.getElem?_cons_succ] at hj
      have hb : eqKey key k = false := by
        cases hb : eqKey key k with
        | false => rfl
        | true =>
          have := hiff.1 hb
          exact absurd (this.symm.trans he.symm) (hd1 e (List.mem_of_getElem? hj))
      obtain ⟨v', h4, h5, h6⟩ := kv_some hk hc hx h3 (fun kv hkv => hks kv (.tail _ hkv)) hd2 hj he
      simp only [kvFind, kvPut, hb, cond_false]
      exact ⟨v', h4, h5, h1, h2, h6⟩
theorem kv_ok {ok : Value → Prop} {ks : KS} {H : Nat → Nat → Option Value} (hok : ∀ (H : Nat → Nat → Option Value) (v : V) (c : Value), keyOkV ks v = true → VRel H v c → ok c) : ∀ {kvs : List (V × V)} {es : List MapEntry}, KvRel H kvs es → (∀ kv ∈ kvs, keyOkV ks kv.1 = true) → ∀ e ∈ es, ok e.key
  | (k, v) :: r, e0 :: es, h, hks, e, he => by
    obtain ⟨h1, h2, h3⟩ := h
    rcases List.mem_cons.1 he with rfl | he
    · exact hok H k _ (hks _ (.head _)) h1
    · exact kv_ok hok h3 (fun kv hkv => hks kv (.tail _ hkv)) e he
  | [], [], _, _, _, he => by cases he
  | [], _ :: _, h, _, _, _ => h.elim
  | _ :: _, [], h, _, _, _ => h.elim

theorem map_own' (hR : Rel Λ σ w) {n : Nat} {kvs : List (V × V)} (h : σ n = some (.map kvs)) : ∃ es clk, w.heap[n]? = some (.map es clk) ∧ KvRel (Hh Λ σ w) kvs es.toList ∧ es.toList.Pairwise (fun a b => a.key ≠ b.key) := by
  obtain ⟨_, ob, h2, es, clk, rfl, h4⟩ := hR.own n _ h
  exact ⟨es, clk, h2, h4⟩

theorem goodV_lookup {t kt e : TypeId} {ks : KS} {z : V} {ok : Bool} (hu : P.underlying t = some (.map kt e)) (hks : ksOf P kt = some ks) (hz : zeroOf P e = some z) (hR : Rel Λ σ w) {vm vk : V} {cm ck : Value}
    (hm : VRel (Hh Λ σ w) vm cm) (hk : VRel (Hh Λ σ w) vk ck) (h : kLookup σ ks z ok vm vk fun v => k v σ) : GoodV Λ σ w k kp ((Instr.lookup t cm ck ok).run P w) := by
  obtain ⟨h0, h⟩ := h
  obtain ⟨okk, K, hok⟩ := kl_of hks
  have hck := hok _ _ _ h0 hk
  obtain ⟨zc, hz1, hz2⟩ := run_zeroOf hz w
  have hzr : VRel (Hh Λ σ w) z zc := toV_rel hz2
  have hch : ∀ em, (Instr.checkKey em 10000 kt ck).run P w = .ok () w := fun em => K.check w em hck
  unfold Instr.lookup
  simp only [Sem.run_bind, run_und hu, Result.andThen_ok]
  have fin : ∀ {o : Option V} {x : Value} {b : Bool}, (match o with | some v => b = true ∧ VRel (Hh Λ σ w) v x | none => b = false ∧ x = zc) → k (found z ok o) σ → GoodV Λ σ w k kp (Result.ok (if ok = true then Value.tuple #[x, .bool b] else x) w) := fun {o x b} ho hk => by
    have tup : ∀ {v : V} {x : Value} {b : Bool}, VRel (Hh Λ σ w) v x → VRel (Hh Λ σ w) (.t [v, .b b]) (.tuple #[x, .bool b]) := fun hv => ⟨_, rfl, rfl, ⟨_, rfl, hv⟩, ⟨_, rfl, rfl⟩, trivial⟩
    cases o with
    | some v =>
      obtain ⟨rfl, hv⟩ := ho
      cases ok
      · exact goodV_k hR hk hv
      · exact goodV_k hR hk (tup hv)
    | none =>
      obtain ⟨rfl, rfl⟩ := ho
      cases ok
      · exact goodV_k hR hk hzr
      · exact goodV_k hR hk (tup hzr)
  cases vm <;> first | exact h.elim | skip
  · rename_i n
    simp only at h
    split at h
    · rename_i kvs hn
      obtain ⟨h1, h2⟩ := h
      simp only [VRel] at hm
      subst hm
      obtain ⟨es, clk, h3, h4, h5⟩ := map_own' hR hn
      have hg : (getObj n).run P w = .ok (.map es clk) w := by simp [getObj, Sem.run, h3]
      simp only [Sem.run_bind, hg, Result.andThen_ok, Sem.run_pure, hch]
      rcases K.find w hck es.toList (kv_ok hok h4 h1) with ⟨h6, h7⟩ | ⟨j, e', h6, h7, h8⟩
      · obtain ⟨h9, _⟩ := kv_none h0 hk hk 0 h4 h1 h7
        simp only [h6, Result.andThen_ok, Sem.run_bind, hz1, Sem.run_pure]
        rw [h9] at h2
        exact fin (o := none) ⟨rfl, rfl⟩ h2
      · obtain ⟨v, h9, h10, _⟩ := kv_some h0 hk hk h4 h1 h5 h7 h8
        simp only [h6, Result.andThen_ok, Sem.run_pure]
        rw [h9] at h2
        exact fin (o := some v) ⟨rfl, h10⟩ h2
    · exact h.elim
  · simp only [VRel] at hm
    subst hm
    simp only [Sem.run_bind, Sem.run_pure, Result.andThen_ok, hch]
    rcases K.find w hck [] (fun e he => by cases he) with ⟨h6, _⟩ | ⟨j, e', _, h7, _⟩
    · simp only [h6, Result.andThen_ok, Sem.run_bind, hz1, Sem.run_pure]
      exact fin (o := none) ⟨rfl, rfl⟩ h
    · simp at h7

theorem run_setMap {n : Nat} {ob : Obj} {es : Array MapEntry} {clk : Nat} (h : w.heap[n]? = some (.map es clk)) : (setObj n ob).run P w = .ok () (setBlk w n ob) := by
  simp [setObj, Sem.run, h, setBlk]
theorem pairwise_modify {c x : Value} : ∀ {es : List MapEntry} {j : Nat} {e : MapEntry}, es[j]? = some e → e.key = c → es.Pairwise (fun a b => a.key ≠ b.key) → (es.modify j fun e => { e with key := c, val := x }).Pairwise (fun a b => a.key ≠ b.key)
  | [], _, _, h, _, _ => by simp at h
  | e0 :: es, 0, e, h, he, hp => by
    simp only [List.getElem?_cons_zero, Option.some.injEq] at h
    subst h
    obtain ⟨h1, h2⟩ := List.pairwise_cons.1 hp
    exact List.pairwise_cons.2 ⟨fun a ha => by simpa only [← he] using h1 a ha, h2⟩
  | e0 :: es, j + 1, e, h, he, hp => by
    simp only [List.getElem?_cons_succ] at h
    obtain ⟨h1, h2⟩ := List.pairwise_cons.1 hp
    refine List.pairwise_cons.2 ⟨fun a ha => ?_, pairwise_modify h he h2⟩
    have ha : a ∈ es.modify j fun e => { e with key := c, val := x } := ha
    obtain ⟨i, hi⟩ := List.mem_iff_getElem?.1 ha
    rw [List.getElem?_modify] at hi
    cases hb : es[i]? with
    | none => rw [hb] at hi; cases hi
    | some b =>
      rw [hb] at hi
      simp only [Option.map_eq_map, Option.map_some, Option.some.injEq] at hi
      split at hi
      · rename_i hji
        subst hi
        subst hji
        rw [h] at hb
        cases hb
        simpa only [← he] using h1 e (List.mem_of_getElem? h)
      · subst hi
        exact h1 b (List.mem_of_getElem? hb)
theorem goodV_mapset {t kt e : TypeId} {ks : KS} (hu : P.underlying t = some (.map kt e)) (hks : ksOf P kt = some ks) (hR : Rel Λ σ w) {vm vk vx : V} {cm ck cx : Value}
    (hm : VRel (Hh Λ σ w) vm cm) (hk : VRel (Hh Λ σ w) vk ck) (hx : VRel (Hh Λ σ w) vx cx) (h : kMapset σ ks vm vk vx fun σ' => k (.t []) σ') :
    ∃ σ' w', (Instr.mapUpdate t cm ck cx).run P w = .ok () w' ∧ k (.t []) σ' ∧ Rel Λ σ' w' ∧ Adv Λ σ w σ' w' := by
  obtain ⟨h0, h⟩ := h
  obtain ⟨okk, K, hok⟩ := kl_of hks
  have hck := hok _ _ _ h0 hk
  have hch : ∀ em, (Instr.checkKey em 10000 kt ck).run P w = .ok () w := fun em => K.check w em hck
  cases vm <;> first | exact h.elim | skip
  rename_i n
  simp only at h
  split at h
  · rename_i kvs hn
    obtain ⟨h1, h2⟩ := h
    simp only [VRel] at hm
    subst hm
    obtain ⟨es, clk, h3, h4, h5⟩ := map_own' hR hn
    have hg : (getObj n).run P w = .ok (.map es clk) w := by simp [getObj, Sem.run, h3]
    unfold Instr.mapUpdate
    simp only [Sem.run_bind, run_und hu, Result.andThen_ok, hg, hch]
    rcases K.find w hck es.toList (kv_ok hok h4 h1) with ⟨h6, h7⟩ | ⟨j, e', h6, h7, h8⟩
    · obtain ⟨_, h9⟩ := kv_none h0 hk hx clk h4 h1 h7
      refine ⟨_, setBlk w n (.map (es.push { key := ck, val := cx, born := clk }) (clk + 1)), ?_, h2, rel_set hR hn ⟨_, _, rfl, ?_, ?_⟩, adv_set hn _ _⟩
      · simp only [h6, Result.andThen_ok]
        exact run_setMap h3
      · simpa using h9
      · rw [Array.toList_push, List.pairwise_append]
        exact ⟨h5, by simp, fun a ha b hb => by simp at hb; subst hb; exact h7 a ha⟩
    · obtain ⟨v, _, _, h9⟩ := kv_some h0 hk hx h4 h1 h5 h7 h8
      have hj : es[j]? = some e' := by rw [← h7]; simp
      refine ⟨_, setBlk w n (.map (es.modify j fun e => { e with key := ck, val := cx }) clk), ?_, h2, rel_set hR hn ⟨_, _, rfl, ?_, ?_⟩, adv_set hn _ _⟩
      · simp only [h6, Result.andThen_ok, Sem.run_bind, hj, Option.map_some, Option.getD_some, h8, K.stays w hck]
        exact run_setMap h3
      · simpa using h9
      · simpa using pairwise_modify (x := cx) h7 h8 h5
  · exact h.elim

def rMap (P : Program) : Op → Option AOp
  | .makeMap t r => match r, P.underlying t with
    | none, _ => some .mkmap
    | some _, _ => none
  | .lookup t x i ok => match P.underlying t with
    | some (.map kt e) => match ksOf P kt, zeroOf P e, rOpd x, rOpd i with
      | some ks, some z, some x, some i => some (.lookup ks z ok x i)
      | _, _, _, _ => none
    | _ => none
  | .mapUpdate t m i x => match P.underlying t with
    | some (.map kt _) => match ksOf P kt, rOpd m, rOpd i, rOpd x with
      | some ks, some m, some i, some x => some (.mapset ks m i x)
      | _, _, _, _ => none
    | _ => none
  | .insert t m i x => match P.underlying t with
    | some (.map kt _) => match ksOf P kt, rOpd m, rOpd i, rOpd x with
      | some ks, some m, some i, some x => some (.mapset ks m i x)
      | _, _, _, _ => none
    | _ => none
  | _ => none
theorem rMap_sound {env : Env} {a : Act} {o : Oper} {ao : AOp} (ho : rMap P o.op = some ao) (h : Top P ao env σ k kp) (he : ERel (Hh Λ σ w) env a.tmps) (hR : Rel Λ σ w) :
    Good P Λ σ w k kp ((execOp a.eval o).run P w) := by
  have put : ∀ {t : TypeId} {m i x : Operand}, (match P.underlying t with
    | some (.map kt _) => match ksOf P kt, rOpd m, rOpd i, rOpd x with
      | some ks, some m, some i, some x => some (AOp.mapset ks m i x)
      | _, _, _, _ => none
    | _ => none) = some ao → Good P Λ σ w k kp ((do Instr.mapUpdate t (a.eval m) (a.eval i) (a.eval x); pure Next.skip : Sem Next).run P w) := fun {t m i x} ho => by
    split at ho
    · rename_i kt e hu
      split at ho
      · rename_i ks m' i' x' hks hm hi hx
        cases ho
        obtain ⟨vm, h1, g⟩ := wv_elim h
        obtain ⟨vi, h2, g⟩ := wv_elim g
        obtain ⟨vx, h3, g⟩ := wv_elim g
        obtain ⟨σ', w', e1, e2, e3, e4⟩ := goodV_mapset hu hks hR (ev_rel he hm h1) (ev_rel he hi h2) (ev_rel he hx h3) g
        simp only [Sem.run_bind, e1, Result.andThen_ok, Sem.run_pure]
        exact ⟨σ', e2, e3, e4⟩
      · cases ho
    · cases ho
  unfold execOp
  unfold rMap at ho
  split at ho
  · rename_i t r hop
    rw [hop]
    dsimp only
    split at ho
    · cases ho
      refine good_of_v ?_
      simp only [Top] at h
      exact ⟨_, _, h w.heap.size hR.new, rfl, rel_alloc hR (o := .map []) ⟨#[], 0, rfl, trivial, by simp⟩, adv_alloc _ _⟩
    · cases ho
  · rename_i t x i ok hop
    rw [hop]
    dsimp only
    split at ho
    · rename_i kt e hu
      split at ho
      · rename_i ks z x' i' hks hz hx hi
        cases ho
        obtain ⟨vx, h1, g⟩ := wv_elim h
        obtain ⟨vi, h2, g⟩ := wv_elim g
        exact good_of_v (goodV_lookup hu hks hz hR (ev_rel he hx h1) (ev_rel he hi h2) g)
      · cases ho
    · cases ho
  · rename_i t m i x hop
    rw [hop]
    exact put ho
  · rename_i t m i x hop
    rw [hop]
    exact put ho
  · cases ho

/-! methods of an interface's value -/
def invTab (P : Program) (name : String) : List (TypeId × FuncId) := (List.range P.types.size).filterMap fun t =>
  match P.info? t, P.underlying t with
  | some i, some d => match i.methods.find? (·.name == name) with
    | some m => if m.path.isEmpty then match m.func, d with
      | some (f, true), .pointer _ => some (t, f)
      | some (_, false), .pointer _ => none
      | some (f, false), _ => some (t, f)
      | _, _ => none
      else none
    | none => none
  | _, _ => none
def rInv (P : Program) : Op → Option AOp
  | .call c => match c.callee with
    | .invoke x name => match rOpd x, rOpds c.args.toList with
      | some x, some as => some (.inv (invTab P name) x as)
      | _, _ => none
    | _ => none
  | _ => none
theorem look_mem {t : TypeId} {f : FuncId} : ∀ {l : List (TypeId × FuncId)}, look t l = some f → (t, f) ∈ l
  | [], h => by cases h
  | (u, g) :: r, h => by
    simp only [look] at h
    cases hb : Nat.beq u t with
    | true =>
      rw [hb] at h
      simp only [cond_true, Option.some.injEq] at h
      rw [Nat.eq_of_beq_eq_true hb, h]
      exact .head _
    | false =>
      rw [hb] at h
      exact .tail _ (look_mem h)
theorem run_method {name : String} {t : TypeId} {f : FuncId} (h : (t, f) ∈ invTab P name) (c : Value) : (method (P.types.size + Made.depth) t c name).run P w = .ok (f, c) w := by
  unfold invTab at h
  rw [List.mem_filterMap] at h
  obtain ⟨u, hu, h⟩ := h
  rw [List.mem_range] at hu
  split at h
  rotate_left
  · cases h
  rename_i i d hi hd
  split at h
  rotate_left
  · cases h
  rename_i m hm
  split at h
  rotate_left
  · cases h
  rename_i hp
  have hpl : m.path.toList = [] := by
    have : m.path = #[] := by simpa using hp
    rw [this]
  obtain ⟨n, hn⟩ : ∃ n, P.types.size + Made.depth = n + 1 := ⟨P.types.size + Made.depth - 1, by omega⟩
  have key : ∀ ptr, u = t → m.func = some (f, ptr) → (ptr = true → ∃ e, d = .pointer e) → (ptr = false → ∀ e, d ≠ .pointer e) → (method (P.types.size + Made.depth) t c name).run P w = .ok (f, c) w := fun ptr e1 e2 e3 e4 => by
    subst e1
    rw [hn]
    unfold method
    simp only [Sem.run_bind, run_typeInfo w hi, Result.andThen_ok, hm, hpl, follow, Sem.run_pure, e2, receiverAt, run_underlying hd]
    cases ptr with
    | true =>
      obtain ⟨e, rfl⟩ := e3 rfl
      simp [Place.get]
    | false =>
      have := e4 rfl
      cases d <;> first | exact absurd rfl (this _) | simp [Place.get]
  split at h
  · rename_i f' e hfun
    cases h
    exact key true rfl hfun (fun _ => ⟨_, rfl⟩) (fun h => by cases h)
  · cases h
  · rename_i f' hfun hne
    cases h
    exact key false rfl hfun (fun h => by cases h) (fun _ e he => by subst he; exact hne e rfl)
  · cases h
theorem CtrI_elim {tab : List (TypeId × FuncId)} {x : V} {args : List V} {Q : R → Store → Prop} (h : CtrI P tab x args σ Q) : ∃ t v f, x = .ifc t v ∧ look t tab = some f ∧ Ctr P f (v :: args) σ Q := by
  unfold CtrI at h
  split at h
  · split at h
    · exact ⟨_, _, _, rfl, by assumption, h⟩
    · exact h.elim
  · exact h.elim
theorem rInv_sound {env : Env} {a : Act} {o : Oper} {ao : AOp} (ho : rInv P o.op = some ao) (h : Top P ao env σ k kp) (he : ERel (Hh Λ σ w) env a.tmps) (hR : Rel Λ σ w) :
    Good P Λ σ w k kp ((execOp a.eval o).run P w) := by
  unfold rInv at ho
  split at ho
  rotate_left
  · cases ho
  rename_i c hop
  split at ho
  rotate_left
  · cases ho
  rename_i x name hc
  split at ho
  rotate_left
  · cases ho
  rename_i x' as hx has
  cases ho
  obtain ⟨vx, h1, g⟩ := wv_elim h
  obtain ⟨vs, h2, g⟩ := ws_elim g
  obtain ⟨t, v, f, rfl, hf, g⟩ := CtrI_elim g
  obtain ⟨cv, hcv, hvr⟩ := ev_rel he hx h1
  have hext : (#[Value.iface t cv] ++ c.args.map a.eval).extract 1 (#[Value.iface t cv] ++ c.args.map a.eval).size = c.args.map a.eval := by
    apply Array.ext'
    simp [List.take_of_length_le]
  have h0 : (#[Value.iface t cv] ++ c.args.map a.eval)[0]? = some (.iface t cv) := by rw [Array.getElem?_append_left (Nat.zero_lt_one)]; rfl
  have hrun : (execOp a.eval o).run P w = (callFunc f (#[cv] ++ c.args.map a.eval)).run P w := by
    unfold execOp
    simp only [hop, resolve, hc, Sem.run_bind, Sem.run_pure, Result.andThen_ok, invoke, hcv, h0, hext, callMethod]
    have hprog : (program).run P w = .ok P w := rfl
    simp only [hprog, Result.andThen_ok, run_method (look_mem hf)]
  rw [hrun]
  refine good_ctr hR ?_ g
  have := vsL_append (H := Hh Λ σ w) (vs := [v]) (cs := #[cv]) ⟨rfl, ⟨cv, rfl, hvr⟩, trivial⟩ (evs_vsL he has h2)
  simpa using this

/-! copy -/
set_option maxHeartbeats 1000000 in
theorem goodV_copy {t u e : TypeId} {i : TypeInfo} (ty : TypeId) (ht : P.underlying t = some (.slice e)) (hi : P.info? e = some i) (hR : Rel Λ σ w) {vx vy : V} {cx cy : Value} (hx : VRel (Hh Λ σ w) vx cx) (hy : VRel (Hh Λ σ w) vy cy)
    (h : kCopy σ i.size vx vy k) : GoodV Λ σ w k kp ((Builtin.copy_ #[t, u] ty #[cx, cy]).run P w) := by
  have h' := rowsOf_rel hR hy h
  clear h
  obtain ⟨ys, base, c2, ⟨hone, h⟩, rfl, hyl, hys⟩ := h'
  -- the part that is written
  have main : ∀ (n off len : Nat) (a : Option Addr) (cap : Nat), (len ≠ 0 → a = some ⟨n, off * i.size, none⟩) → kCpy σ i.size ys n off len k → GoodV Λ σ w k kp ((Builtin.copy_ #[t, u] ty #[.slice a len cap, .slice base ys.length c2]).run P w) := fun n off len a cap ha hk => by
    unfold kCpy at hk
    split at hk
    · rename_i s es c hs
      obtain ⟨rfl, hle, hk⟩ := hk
      obtain ⟨cur, et, h3, h4, h5, h6, h7⟩ := arr_own hR hs
      have hsz : sizeOf e = (do pure (← typeInfo e).size : Sem Nat) := rfl
      have hmin : Nat.min ys.length len = min ys.length len := rfl
      have hmL : min ys.length len ≤ maxL := by omega
      have hrng : ∀ H, VRel H (.i .i64 (min ys.length len : Nat)) (goInt (min ys.length len : Nat)) := fun H => ⟨rfl, i64_len hmL⟩
      by_cases h0 : min ys.length len = 0
      · -- nothing
        have hrun : (Builtin.copy_ #[t, u] ty #[.slice a len cap, .slice base ys.length c2]).run P w = .ok (goInt 0) w := by
          have hm0 : Nat.min ys.length len = 0 := h0
          cases a <;> cases base <;> simp [Builtin.copy_, run_underlying ht, sizeOf, typeInfo, hi, Builtin.lenOf, hm0, Builtin.firstCells, loadCells, loadCellsFrom, storeCells]
        rw [hrun]
        rw [h0] at hk
        simp only [Nat.add_zero] at hk
        have e1 : es.take off ++ (ys.take 0 ++ es.drop off) = es := by simp
        rw [e1] at hk
        have e2 : upd σ n (.arr i.size es c) = σ := by
          funext m
          unfold upd
          split
          · rename_i e; rw [e, hs]
          · rfl
        rw [e2] at hk
        exact goodV_k hR hk ⟨rfl, i64_len (n := 0) (by simp)⟩
      · obtain ⟨b, o, g, rfl, hg, hrow⟩ := hys.resolve_left (fun e => by rw [e] at h0; simp at h0)
        obtain rfl := ha (by omega)
        obtain ⟨news, h8, h9, h10⟩ := rows_list (rows_take hrow (min ys.length len))
        have hcnt : (ys.take (min ys.length len)).length = min ys.length len := by simp
        rw [hcnt] at h8
        have hmul : (off + min ys.length len) * i.size ≤ c * i.size := Nat.mul_le_mul_right _ (by omega)
        rw [Nat.add_mul] at hmul
        have hn1 : ∀ u ∈ news, u.oneCell' = true := fun u hu => by
          obtain ⟨j, hj⟩ := List.mem_iff_getElem?.1 hu
          have hlt : j < (ys.take (min ys.length len)).length * i.size := by rw [hcnt, ← h8]; exact (List.getElem?_eq_some_iff.1 hj).1
          obtain ⟨h4, h5⟩ := rows_lt hlt
          obtain ⟨h6, h7⟩ := rowsAt_iff.1 h10 (j / i.size) _ (List.getElem?_eq_getElem h4)
          obtain ⟨c, hc, hr⟩ := vsAt_iff.1 h7 (j % i.size) _ (List.getElem?_eq_getElem (by omega))
          have hdm := Nat.div_add_mod' j i.size
          rw [show 0 + j / i.size * i.size + j % i.size = j by omega, hj] at hc
          cases hc
          exact oneV_rel hr (hone _ (List.mem_of_mem_take (List.getElem_mem h4)) _ (List.getElem_mem _))
        have hrunF := run_firstCells_some (P := P) w i.size (min ys.length len) ⟨b, o, none⟩ ys.length c2 news h8 (fun j v hv => by rw [addr_add]; exact hg _ _ (h9 j v hv))
        have hst := run_storeCells_blk (P := P) news w cur (off * i.size) 0 h3 (by omega) hn1
        simp only [Nat.add_zero] at hst
        have hrun : (Builtin.copy_ #[t, u] ty #[.slice (some ⟨n, off * i.size, none⟩) len cap, .slice (some ⟨b, o, none⟩) ys.length c2]).run P w = .ok (goInt (min ys.length len : Nat)) (setBlk w n (.cells (arrPut cur (off * i.size) news) et (0, 0))) := by
          simp [Builtin.copy_, run_underlying ht, sizeOf, typeInfo, hi, Builtin.lenOf, hmin, hrunF, hst]
        rw [hrun]
        refine ⟨_, _, hk, hrng _, rel_set hR hs ⟨_, et, rfl, by rw [arrPut_size]; exact h4, by simp; omega, by simp; omega, ?_⟩, adv_set hs _ _⟩
        have hol : off ≤ es.length := by omega
        refine rows_append (rows_shift (rows_take h7 off) fun j hj => ?_) (rows_append (rows_shift h10 fun j hj => ?_) (rows_shift (rows_drop h7 (off + min ys.length len)) fun j hj => ?_))
        · rw [List.length_take, Nat.min_eq_left hol] at hj
          exact arrPut_out _ _ _ _ (by omega)
        · rw [hcnt] at hj
          rw [List.length_take, Nat.min_eq_left hol]
          simp only [Nat.zero_add]
          exact arrPut_in _ _ _ _ (by omega) (by omega)
        · rw [List.length_take, Nat.min_eq_left hol, hcnt, Nat.zero_add, Nat.zero_add, Nat.add_mul]
          exact arrPut_out _ _ _ _ (by omega)
    · exact hk.elim
  cases vx
  case sl n len cap =>
    obtain ⟨rfl, _⟩ := hx
    exact main n 0 len _ cap (fun _ => by simp) h
  case sv n s off len =>
    obtain ⟨rfl, h⟩ := h
    obtain ⟨a, cap, rfl, _, h6⟩ := hx
    exact main n off len a cap h6 h
  all_goals exact h.elim
def rCopy (P : Program) : Op → Option AOp
  | .call c => match c.callee, c.args.toList, c.argTypes.toList with
    | .builtin .copy, [x, y], [t, _] => match P.underlying t with
      | some (.slice e) => match rOpd x, rOpd y, P.info? e with
        | some x, some y, some i => some (.copy i.size x y)
        | _, _, _ => none
      | _ => none
    | _, _, _ => none
  | _ => none
theorem rCopy_sound {env : Env} {a : Act} {o : Oper} {ao : AOp} (ho : rCopy P o.op = some ao) (h : Top P ao env σ k kp) (he : ERel (Hh Λ σ w) env a.tmps) (hR : Rel Λ σ w) :
    Good P Λ σ w k kp ((execOp a.eval o).run P w) := by
  unfold rCopy at ho
  split at ho
  rotate_left
  · cases ho
  rename_i c hop
  split at ho
  rotate_left
  · cases ho
  rename_i x y t u hc hargs htys
  split at ho
  rotate_left
  · cases ho
  rename_i e hu
  split at ho
  rotate_left
  · cases ho
  rename_i x' y' i hx hy hi
  cases ho
  obtain ⟨vx, h1, g⟩ := wv_elim h
  obtain ⟨vy, h2, g⟩ := wv_elim g
  have ea : c.args = #[x, y] := by apply Array.ext'; simpa using hargs
  have et : c.argTypes = #[t, u] := by apply Array.ext'; simpa using htys
  unfold execOp
  simp only [hop, resolve, hc, ea, et, Sem.run_bind, Sem.run_pure, Result.andThen_ok, invoke, builtin, List.map_toArray, List.map_cons, List.map_nil]
  exact good_of_v' (goodV_copy (P := P) (kp := kp) o.type hu hi hR (ev_rel he hx h1) (ev_rel he hy h2) g)

def rOpY (P : Program) (o : Op) : Option AOp := match rOpX P o with | some a => some a | none => match rMap P o with | some a => some a | none => match rInv P o with | some a => some a | none => rCopy P o
theorem rOpY_sound {env : Env} {a : Act} {o : Oper} {ao : AOp} (ho : rOpY P o.op = some ao) (h : Top P ao env σ k kp) (he : ERel (Hh Λ σ w) env a.tmps) (hR : Rel Λ σ w) :
    Good P Λ σ w k kp ((execOp a.eval o).run P w) := by
  unfold rOpY at ho
  split at ho
  · rename_i h'; cases ho; exact rOpX_sound h' h he hR
  · split at ho
    · rename_i h'; cases ho; exact rMap_sound h' h he hR
    · split at ho
      · rename_i h'; cases ho; exact rInv_sound h' h he hR
      · exact rCopy_sound ho h he hR
end Go.Gl
