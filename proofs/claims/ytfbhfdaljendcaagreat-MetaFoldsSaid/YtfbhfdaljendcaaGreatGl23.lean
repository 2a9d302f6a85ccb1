/-
  GL 23: the steps of proofs as lemmas that find their side conditions by themselves.
-/
import Derived.Test.YtfbhfdaljendcaaGreatGl22
import Derived.Test.YtfbhfdaljendcaaGreatD1
set_option linter.all false
set_option linter.unusedVariables false
set_option linter.unusedSimpArgs false
namespace Go.Gl
variable {P : Program} {σ : Store} {env : Env}
/-- one step back -/
class Stp (G : Prop) (G' : outParam Prop) : Prop where
  h : G' → G
theorem st {G G' : Prop} [i : Stp G G'] (h : G') : G := i.h h
theorem sq {l : List Nat} {a b : ACode} {Q : AExit → Env → Store → Prop} (h : ∀ K : Env → Store → Prop, (∀ env σ, (pk l env fun E => W P b Q E σ) → K env σ) → W P a (AExit.andThen K Q) env σ) : W P (.seq l a b) Q env σ := W_seqK h
class Sti (G : Prop) (G' : outParam Prop) : Prop where
  h : G' → G
theorem si {G G' : Prop} [i : Sti G G'] (h : G') : G := i.h h
instance {ops : List AOper} {Q : AExit → Env → Store → Prop} : Sti (W P (.reg ops) Q env σ) (∀ (KR : Env → Store → Prop) (KP : Env → V → Store → Prop), (∀ env σ, Q .normal env σ → KR env σ) → (∀ env v σ, Q (.pan v) env σ → KP env v σ) → WT P ops KR KP env σ) := ⟨W_regI⟩
instance {l : List Nat} {ops : List DOper} {Q : AExit → Env → Store → Prop} : Sti (W P (.dreg l ops) Q env σ) (∀ (KR : Env → Store → Prop) (KP : V → Store → Prop), (∀ env σ, (pk l env fun E => Q .normal E σ) → KR env σ) → (∀ v σ, (∀ σ', Sub σ σ' → Q (.pan v) [] σ') → KP v σ) → WD P ops KR KP env σ) := ⟨W_dregI⟩
instance {c : Opd} {a b : ACode} {Q : AExit → Env → Store → Prop} : Stp (W P (.cond c a b) Q env σ) (match ev env c with
    | some (.b t) => (t = true → W P a Q env σ) ∧ (t = false → W P b Q env σ)
    | _ => False) := ⟨W_condI⟩
instance {id : Nat} {a : ACode} {Q : AExit → Env → Store → Prop} : Stp (W P (.block id a) Q env σ) (W P a (AExit.inBlock id Q) env σ) := ⟨W_blockI⟩
instance {l : List Nat} {a : ACode} {Q : AExit → Env → Store → Prop} : Stp (W P (.loop l a) Q env σ) (pk l env fun E => LoopR l a (W P a) Q E σ) := ⟨W_loopI⟩
instance {id : Nat} {Q : AExit → Env → Store → Prop} : Stp (W P (.exit id) Q env σ) (Q (.exit id) env σ) := ⟨W_exitI⟩
instance {Q : AExit → Env → Store → Prop} : Stp (W P .ret Q env σ) (Q .ret env σ) := ⟨W_retI⟩
instance {Q : AExit → Env → Store → Prop} : Stp (W P .skip Q env σ) (Q .normal env σ) := ⟨W_skipI⟩
instance {a : ACode} {Q : AExit → Env → Store → Prop} : Stp (W P (.scope a) Q env σ) (W P a Q env σ) := ⟨W_scopeI⟩
instance {l : List Nat} {g : Opd} {ps : List Nat} {a b : ACode} {Q : AExit → Env → Store → Prop} : Stp (W P (.rangef l g ps a b) Q env σ) (match ev env g with
    | some (.f (.func gf) [] cap) => pk l env fun E => ∀ L, σ L = none → Ctr P gf (.f (.yield L) [] [] :: cap) (upd σ L (.loop .ready E (loopOk P ps a b))) (RangeQ L Q env)
    | _ => False) := ⟨W_rangeI⟩
instance {A B : Prop} : Stp ((true = true → A) ∧ (true = false → B)) A := ⟨and_tt⟩
instance {A B : Prop} : Stp ((false = true → A) ∧ (false = false → B)) B := ⟨and_ff⟩
instance {A B : Prop} : Stp ((false = false → A) ∧ (false = true → B)) A := ⟨and_nff⟩
instance {A B : Prop} : Stp ((true = false → A) ∧ (true = true → B)) B := ⟨and_ntt⟩
instance {A B : Prop} {b : Bool} : Stp ((b = true → A) ∧ (b = !true → B)) ((b = true → A) ∧ (b = false → B)) := ⟨id⟩
instance {A B : Prop} {b : Bool} : Stp ((b = false → A) ∧ (b = !false → B)) ((b = false → A) ∧ (b = true → B)) := ⟨id⟩
instance {agg : Option Nat} {cs : List V} {K : V → Prop} : Stp (kLoad σ agg (.rp cs) K) (cut agg cs 0 K) := ⟨fun h => h⟩
instance {es : List (List V)} {f : Bool} {K : V → Prop} : Stp (kLen (.l es f) K) (K (.i .i64 es.length)) := ⟨len_l⟩
/-! continuations that are hidden -/
theorem kc {K A : Env → Store → Prop} (h : A env σ) (hk : ∀ env σ, A env σ → K env σ := by assumption) : K env σ := hk _ _ h
theorem kp {K A : Env → V → Store → Prop} {v : V} (h : A env v σ) (hk : ∀ env v σ, A env v σ → K env v σ := by assumption) : K env v σ := hk _ _ _ h
theorem kq {K A : V → Store → Prop} {v : V} (h : A v σ) (hk : ∀ v σ, A v σ → K v σ := by assumption) : K v σ := hk _ _ h
theorem rk {x : AOper} {r : List AOper} {A : Prop} (h1 : Rechk P x env σ) (h2 : Rechks P r env σ ∧ A) : Rechks P (x :: r) env σ ∧ A := ⟨⟨h1, h2.1⟩, h2.2⟩
theorem dr {A : Prop} (h : A) : Rechks P [] env σ ∧ A := ⟨trivial, h⟩
/-! tests -/
class BP (b v : Bool) (p : outParam Prop) : Prop where
  h : b = v → p
theorem bp {b v : Bool} {p : Prop} [i : BP b v p] (h : b = v) : p := i.h h
instance (priority := low) {b v : Bool} : BP b v (b = v) := ⟨id⟩
instance (priority := mid) {p : Prop} [Decidable p] : BP (decide p) true p := ⟨of_decide_eq_true⟩
instance (priority := mid) {p : Prop} [Decidable p] : BP (decide p) false (¬ p) := ⟨of_decide_eq_false⟩
instance {a b : Int} : BP (decide (a < b)) false (b ≤ a) := ⟨fun h => Int.not_lt.1 (of_decide_eq_false h)⟩
instance {a b : Int} : BP (decide (a ≤ b)) false (b < a) := ⟨fun h => Int.not_le.1 (of_decide_eq_false h)⟩
instance {a b : Int} : BP (a == b) true (a = b) := ⟨fun h => by simpa using h⟩
instance {a b : Int} : BP (a == b) false (a ≠ b) := ⟨fun h => by simpa using h⟩
instance {a b : Int} : BP (a != b) true (a ≠ b) := ⟨fun h => by simpa using h⟩
instance {a b : Int} : BP (a != b) false (a = b) := ⟨fun h => by simpa using h⟩
instance {b : Bool} {p : Prop} [i : BP b false p] : BP (!b) true p := ⟨fun h => i.h (by simpa using h)⟩
instance {b : Bool} {p : Prop} [i : BP b true p] : BP (!b) false p := ⟨fun h => i.h (by simpa using h)⟩
instance {b x v : Bool} {p : Prop} [i : BP b v p] : BP (bif false then x else b) v p := ⟨i.h⟩
instance {b x v : Bool} {p : Prop} [i : BP b v p] : BP (bif true then b else x) v p := ⟨i.h⟩
/-! loops -/
theorem fc {α : Type} {enc : α → List V} {xs : List α} {k : Nat} {A B : Prop} (h1 : ∀ x, xs[k]? = some x → k < xs.length → decide (ctr k < ((xs.map enc).length : Nat)) = true → A) (h2 : k = xs.length → decide (ctr k < ((xs.map enc).length : Nat)) = false → B) (hk : k ≤ xs.length := by assumption) (hm : xs.length ≤ maxL := by first | assumption | omega | simp [maxL] <;> omega) :
    (decide (ctr k < ((xs.map enc).length : Nat)) = true → A) ∧ (decide (ctr k < ((xs.map enc).length : Nat)) = false → B) :=
  ⟨fun h => (fork_c (enc := enc) (A := A) (B := True) hk hm (fun x hx hlt => h1 x hx hlt h) fun _ => trivial).1 h, fun h => (fork_c (enc := enc) (A := True) (B := B) hk hm (fun _ _ _ => trivial) fun he => h2 he h).2 h⟩
theorem ix {α : Type} {enc : α → List V} {xs : List α} {f : Bool} {sz : Nat} {K : V → Prop} {ki : IntKind} {k : Nat} {x : α} (h : K (.rp (enc x))) (hx : xs[k]? = some x := by assumption) (hm : xs.length ≤ maxL := by first | assumption | omega | simp [maxL] <;> omega) (hs : (enc x).length = sz := by first | rfl | simp) :
    kIaddr sz none (.l (xs.map enc) f) (.i ki (ctr k)) K := at_c hx hm hs h
/-- an element by a number that is in range -/
theorem iq {α : Type} {enc : α → List V} {xs : List α} {f : Bool} {sz : Nat} {K : V → Prop} {ki : IntKind} {j : Int} (h : ∀ x, xs[j.toNat]? = some x → K (.rp (enc x))) (h0 : 0 ≤ j := by omega) (h1 : j < xs.length := by omega) (hs : ∀ x, (enc x).length = sz := by intro x; first | rfl | simp | (rw [eFact_eq]; rfl)) :
    kIaddr sz none (.l (xs.map enc) f) (.i ki j) K := by
  have hlt : j.toNat < xs.length := by omega
  exact at_q j.toNat (List.getElem?_eq_getElem hlt) (by omega) (hs _) (h _ (List.getElem?_eq_getElem hlt))
theorem sk1 {α : Type} {enc : α → List V} {xs : List α} {f : Bool} {sz : Nat} {ki : IntKind} {k : Nat} {K : V → Store → Prop} (h : K (.l ((xs.take k).map enc) (f && decide ((k : Int) = ((xs.map enc).length : Nat)))) σ) (hl : k ≤ xs.length := by first | assumption | omega) (hm : xs.length ≤ maxL := by first | assumption | omega) (hs : ∀ x, (enc x).length = sz := by intro x; first | rfl | simp | (rw [eFact_eq]; rfl)) :
    kSlice σ sz (.l (xs.map enc) f) none (some (.i ki (ctr k))) none K := by
  rw [ctr_eq (by omega)]
  refine ⟨fun e he => ?_, ?_⟩
  · obtain ⟨x, _, rfl⟩ := List.mem_map.1 he
    exact hs x
  · simp only [bnd, List.length_map]
    refine ⟨by omega, by omega, by omega, ?_⟩
    rw [Int.toNat_natCast]
    simpa [List.map_take] using h
theorem ixF {xs : List Fact} {f : Bool} {K : V → Prop} {ki : IntKind} {k : Nat} {x : Fact} (h : K (.rp (xF x))) (hx : xs[k]? = some x := by assumption) (hm : xs.length ≤ maxL := by first | assumption | omega) : kIaddr 6 none (.l (xs.map eFact) f) (.i ki (ctr k)) K := by
  refine at_c hx hm (by rw [eFact_eq]; rfl) ?_
  rw [eFact_eq]
  exact h
/-! heaps -/
theorem h0x {a0 : At} {l : List At} : (a0 :: l)[0]? = some a0 := rfl
theorem h1x {a0 a1 : At} {l : List At} : (a0 :: a1 :: l)[1]? = some a1 := rfl
theorem h2x {a0 a1 a2 : At} {l : List At} : (a0 :: a1 :: a2 :: l)[2]? = some a2 := rfl
theorem h3x {a0 a1 a2 a3 : At} {l : List At} : (a0 :: a1 :: a2 :: a3 :: l)[3]? = some a3 := rfl
theorem h4x {a0 a1 a2 a3 a4 : At} {l : List At} : (a0 :: a1 :: a2 :: a3 :: a4 :: l)[4]? = some a4 := rfl
theorem h5x {a0 a1 a2 a3 a4 a5 : At} {l : List At} : (a0 :: a1 :: a2 :: a3 :: a4 :: a5 :: l)[5]? = some a5 := rfl
theorem ld {l : List At} {i n off : Nat} {agg : Option Nat} {vs : List V} {K : V → Prop} (hk : cut agg vs off K) (h : Sat σ l := by assumption)
    (hi : l[i]? = some (.box n vs) := by first | exact h0x | exact h1x | exact h2x | exact h3x | exact h4x | exact h5x) : kLoad σ agg (.p n off) K := hLoad h i hi hk
/-- may be stored as one value, whatever the heap -/
class OneC (x : V) : Prop where
  h : oneV x = true
theorem s1 {l : List At} {i n off : Nat} {vs : List V} {x : V} {K : Store → Prop} (hk : ∀ σ', Sat σ' (l.set i (.box n (vs.set off x))) → K σ') (h : Sat σ l := by assumption)
    (hi : l[i]? = some (.box n vs) := by first | exact h0x | exact h1x | exact h2x | exact h3x | exact h4x | exact h5x)
    (h1 : oneV x = true := by first | rfl | exact oneO (by assumption) 0 rfl | exact oneO (by assumption) 1 rfl | exact oneO (by assumption) 2 rfl | exact oneO (by assumption) 3 rfl | simp) (ho : off + 1 ≤ vs.length := by exact Nat.le_of_ble_eq_true rfl) : kStore σ 1 (.p n off) x K :=
  hStore1 h i hi h1 ho hk
theorem sn {l : List At} {i n off sz : Nat} {vs vc : List V} {x : V} {K : Store → Prop} (hk : ∀ σ', Sat σ' (l.set i (.box n (putAt vs off vc))) → K σ') (h : Sat σ l := by assumption)
    (hi : l[i]? = some (.box n vs) := by first | exact h0x | exact h1x | exact h2x | exact h3x | exact h4x | exact h5x)
    (hc : cellsOf x = some vc := by rfl) (hl : vc.length = sz := by rfl) (h1 : vc.all oneV = true := by first | rfl | simp) (ho : off + sz ≤ vs.length := by exact Nat.le_of_ble_eq_true rfl) : kStore σ sz (.p n off) x K :=
  hStore h i hi hc hl h1 ho hk
theorem good_F : goodE (fun f : Fact => eFact f) 6 := fun f => by
  simp only [eFact_eq]
  refine ⟨rfl, fun v hv => ?_⟩
  simp only [List.mem_cons, List.not_mem_nil, or_false] at hv
  rcases hv with rfl | rfl | rfl | rfl | rfl | rfl <;> rfl
theorem good_FF : goodE (fun l : List Fact => [V.l (facts l) false]) 1 := fun x => ⟨rfl, fun v hv => by simp at hv; subst hv; rfl⟩
/-- one element more -/
theorem ap {l : List At} {i : Nat} {α : Type} {enc : α → List V} {sz : Nat} {xs : List α} {x : α} {v : V} {f : Bool} {e : List V} {K : V → Store → Prop} (hk : ∀ v' σ', Sat σ' (l.set i (.own v' sz ((xs ++ [x]).map enc))) → K v' σ') (h : Sat σ l := by assumption)
    (hi : l[i]? = some (.own v sz (xs.map enc)) := by first | exact h0x | exact h1x | exact h2x | exact h3x | exact h4x | exact h5x)
    (he : e = enc x := by rfl) (hg : goodE enc sz := by first | exact good_iL | exact good_iLL | exact good_bL | exact good_F | exact good_FF)
    (hl : xs.length < maxL := by first | assumption | (simp only [List.length_append, List.length_map, List.length_cons, List.length_nil, List.length_take, List.length_drop, List.length_replicate, maxL] at *; omega)) : kAppend σ sz v (.l [e] f) K :=
  hApp1 h i hi hl hg hk he
theorem af {α : Type} {enc : α → List V} {sz : Nat} {ys : List α} {g : Bool} {K : V → Prop} (hk : K (.l (ys.map enc) false)) (hg : goodE enc sz := by first | exact good_iL | exact good_iLL | exact good_bL | exact good_F | exact good_FF) (hl : ys.length ≤ maxL := by first | assumption | omega) :
    kAppf σ sz (.l [] true) (.l (ys.map enc) g) K := hAppf0 hg hl hk
theorem al {l : List At} {o : O} {n : Nat} {K : Prop} {σ' : Store} (e : upd σ n o = σ') (hk : Sat σ' (l ++ [.obj n o]) → K) (hn : σ n = none := by assumption) (h : Sat σ l := by assumption) : K := hk (e ▸ hObj h hn)
/-! elements of slices of one's own -/
theorem oi {l : List At} {i : Nat} {v : V} {sz : Nat} {es : List (List V)} {ki : IntKind} {j : Int} {K : V → Prop} (hk : K (elemP v sz j.toNat)) (h : Sat σ l := by assumption)
    (hi : l[i]? = some (.own v sz es) := by first | exact h0x | exact h1x | exact h2x | exact h3x | exact h4x | exact h5x) (h0 : 0 ≤ j := by omega) (h1 : j < es.length := by first | omega | (simp only [List.length_map] at *; omega)) : kIaddr sz none v (.i ki j) K :=
  hAt h i j.toNat hi (by omega) (by omega) hk
theorem oc {l : List At} {i : Nat} {v : V} {sz k : Nat} {es : List (List V)} {ki : IntKind} {K : V → Prop} (hk : K (elemP v sz k)) (h : Sat σ l := by assumption)
    (hi : l[i]? = some (.own v sz es) := by first | exact h0x | exact h1x | exact h2x | exact h3x | exact h4x | exact h5x) (h1 : k < es.length := by first | omega | (simp only [List.length_map] at *; omega)) (hm : k ≤ maxL := by first | omega | (simp only [maxL]; omega)) : kIaddr sz none v (.i ki (ctr k)) K :=
  hAt h i k hi (ctr_eq (by omega)) h1 hk
theorem ol {α : Type} {enc : α → List V} {xs : List α} {l : List At} {i : Nat} {v : V} {sz k : Nat} {agg : Option Nat} {K : V → Prop} (hk : ∀ x, xs[k]? = some x → cut agg (enc x) 0 K) (h : Sat σ l := by assumption)
    (hi : l[i]? = some (.own v sz (xs.map enc)) := by first | exact h0x | exact h1x | exact h2x | exact h3x | exact h4x | exact h5x) (h1 : k < xs.length := by first | omega | (simp only [List.length_map] at *; omega)) : kLoad σ agg (elemP v sz k) K :=
  hAtLoad h i hi (by rw [List.getElem?_map, List.getElem?_eq_getElem h1]; rfl) (hk _ (List.getElem?_eq_getElem h1))
theorem oset {α : Type} {enc : α → List V} {xs : List α} {y : α} {l : List At} {i : Nat} {v x : V} {sz k : Nat} {vc : List V} {K : Store → Prop} (hk : ∀ σ', Sat σ' (l.set i (.own v sz ((xs.set k y).map enc))) → K σ') (h : Sat σ l := by assumption)
    (hi : l[i]? = some (.own v sz (xs.map enc)) := by first | exact h0x | exact h1x | exact h2x | exact h3x | exact h4x | exact h5x) (hc : cellsOf x = some vc := by rfl) (he : vc = enc y := by rfl) (hg : goodE enc sz := by first | exact good_iL | exact good_iLL | exact good_bL | exact good_F | exact good_FF)
    (hv : (slName v).isSome = true := by assumption) (h1 : k < xs.length := by first | omega | (simp only [List.length_map] at *; omega)) : kStore σ sz (elemP v sz k) x K := by
  subst he
  refine hAtStore h i hi (by rw [List.getElem?_map, List.getElem?_eq_getElem h1]; rfl) hc (hg y).1 (List.all_eq_true.2 fun v hv => (hg y).2 v hv) (hg _).1 hv fun σ' hs => hk σ' ?_
  rw [List.map_set]
  exact hs
/-- one element more, and it is an object of one's own then -/
theorem kAppend_sl {sz : Nat} {v : V} {e : List V} {f : Bool} {K : V → Store → Prop} (h : kAppend σ sz v (.l [e] f) fun v' σ' => (slName v').isSome = true → K v' σ') : kAppend σ sz v (.l [e] f) K := by
  obtain ⟨h1, h2, h3⟩ := h
  refine ⟨h1, h2, ?_⟩
  cases v with
  | l es full => exact ⟨h3.1, h3.2.1, fun e => (by cases e), fun e => ⟨(h3.2.2.2 e).1, fun n cap hn hc => (h3.2.2.2 e).2 n cap hn hc rfl⟩⟩
  | sl n len cap =>
    simp only at h3 ⊢
    split at h3
    · exact ⟨h3.1, h3.2.1, h3.2.2.1, h3.2.2.2.1, fun n' cap' hn hc => h3.2.2.2.2 n' cap' hn hc rfl⟩
    · exact h3.elim
  | _ => exact h3.elim
theorem aq {l : List At} {i : Nat} {α : Type} {enc : α → List V} {sz : Nat} {xs : List α} {x : α} {v : V} {f : Bool} {e : List V} {K : V → Store → Prop} (hk : ∀ v' σ', Sat σ' (l.set i (.own v' sz ((xs ++ [x]).map enc))) → (slName v').isSome = true → K v' σ') (h : Sat σ l := by assumption)
    (hi : l[i]? = some (.own v sz (xs.map enc)) := by first | exact h0x | exact h1x | exact h2x | exact h3x | exact h4x | exact h5x)
    (he : e = enc x := by rfl) (hg : goodE enc sz := by first | exact good_iL | exact good_iLL | exact good_bL | exact good_F | exact good_FF)
    (hl : xs.length < maxL := by first | assumption | (simp only [List.length_append, List.length_map, List.length_cons, List.length_nil, List.length_take, List.length_drop, List.length_replicate, maxL] at *; omega)) : kAppend σ sz v (.l [e] f) K :=
  kAppend_sl (hApp1 h i hi hl hg hk he)
end Go.Gl
