/-
  GL 15: steps of proofs about T that are reckoned by the kernel's own rules ('conv => whnf').
-/
import Derived.Test.YtfbhfdaljendcaaGreatGl14
import Derived.Laws.BitsLemmas
set_option linter.all false
set_option linter.unusedVariables false
set_option linter.unusedSimpArgs false
namespace Go.Gl
variable {P : Program} {σ : Store} {env env' : Env}
theorem and_tt {A B : Prop} (h : A) : (true = true → A) ∧ (true = false → B) := ⟨fun _ => h, fun e => by cases e⟩
theorem and_ff {A B : Prop} (h : B) : (false = true → A) ∧ (false = false → B) := ⟨fun e => (by cases e), fun _ => h⟩
theorem and_nff {A B : Prop} (h : A) : (false = false → A) ∧ (false = true → B) := ⟨fun _ => h, fun e => by cases e⟩
theorem and_ntt {A B : Prop} (h : B) : (true = false → A) ∧ (true = true → B) := ⟨fun e => (by cases e), fun _ => h⟩
theorem fork {p : Prop} [Decidable p] {A B : Prop} (h1 : p → A) (h2 : ¬ p → B) : (decide p = true → A) ∧ (decide p = false → B) := ⟨fun h => h1 (of_decide_eq_true h), fun h => h2 (of_decide_eq_false h)⟩
theorem fork_n {p : Prop} [Decidable p] {A B : Prop} (h1 : ¬ p → A) (h2 : p → B) : (decide p = false → A) ∧ (decide p = true → B) := ⟨fun h => h1 (of_decide_eq_false h), fun h => h2 (of_decide_eq_true h)⟩
theorem fork_pos {p : Prop} [Decidable p] {A B : Prop} (h : p) (a : A) : (decide p = true → A) ∧ (decide p = false → B) := fork (fun _ => a) fun h' => absurd h h'
theorem fork_neg {p : Prop} [Decidable p] {A B : Prop} (h : ¬ p) (b : B) : (decide p = true → A) ∧ (decide p = false → B) := fork (fun h' => absurd h' h) fun _ => b
theorem fork_npos {p : Prop} [Decidable p] {A B : Prop} (h : p) (b : B) : (decide p = false → A) ∧ (decide p = true → B) := fork_n (fun h' => absurd h h') fun _ => b
theorem fork_nneg {p : Prop} [Decidable p] {A B : Prop} (h : ¬ p) (a : A) : (decide p = false → A) ∧ (decide p = true → B) := fork_n (fun _ => a) fun h' => absurd h' h
/-- tests with == and != -/
theorem fork_eq {a b : Int} {A B : Prop} (h1 : a = b → A) (h2 : a ≠ b → B) : ((a == b) = true → A) ∧ ((a == b) = false → B) := ⟨fun h => h1 (by simpa using h), fun h => h2 (by simpa using h)⟩
theorem fork_ne {a b : Int} {A B : Prop} (h1 : a ≠ b → A) (h2 : a = b → B) : ((a != b) = true → A) ∧ ((a != b) = false → B) := ⟨fun h => h1 (by simpa using h), fun h => h2 (by simpa using h)⟩

/-- an element of a list of encoded things -/
theorem at_map {α : Type} {enc : α → List V} {xs : List α} {f : Bool} {sz : Nat} {K : V → Prop} {ki : IntKind} {j : Int} (k : Nat) (hj : j = k) (hk : k < xs.length) (hs : (enc (xs[k])).length = sz) (h : K (.rp (enc xs[k]))) :
    kIaddr sz none (.l (xs.map enc) f) (.i ki j) K := by
  subst hj
  refine ⟨Int.natCast_nonneg k, enc xs[k], ?_, hs, h⟩
  rw [Int.toNat_natCast, List.getElem?_map, List.getElem?_eq_getElem hk]
  rfl

theorem wrap64 {n : Int} (h1 : -9223372036854775808 ≤ n) (h2 : n ≤ 9223372036854775807) : IntKind.i64.wrap n = n := by rw [IntKind.wrap_i64]; omega
theorem wrap_nat {n : Nat} (h : n ≤ maxL + 8) : IntKind.i64.wrap (n : Int) = n := wrap64 (by omega) (by simp only [maxL] at h; omega)
theorem wrap_succ {k n : Nat} (h : k < n) (hn : n ≤ maxL) : IntKind.i64.wrap ((k : Int) + 1) = ((k + 1 : Nat) : Int) := by
  rw [← wrap_nat (n := k + 1) (by omega)]
  rfl

theorem lt_map {α : Type} {enc : α → List V} {xs : List α} {k : Nat} (h : (k : Int) < ((xs.map enc).length : Nat)) : k < xs.length := by
  rw [List.length_map] at h
  omega
theorem end_map {α : Type} {enc : α → List V} {xs : List α} {k : Nat} (hk : k ≤ xs.length) (h : ¬ (k : Int) < ((xs.map enc).length : Nat)) : k = xs.length := by
  rw [List.length_map] at h
  omega
theorem slice_lo {α : Type} {enc : α → List V} {xs : List α} {f : Bool} {sz : Nat} {ki : IntKind} {j : Int} {K : V → Store → Prop} (l : Nat) (hj : j = l) (hl : l ≤ xs.length) (hs : ∀ x, (enc x).length = sz) (h : K (.l ((xs.drop l).map enc) f) σ) :
    kSlice σ sz (.l (xs.map enc) f) (some (.i ki j)) none none K := by
  subst hj
  refine ⟨fun e he => ?_, ?_⟩
  · obtain ⟨x, _, rfl⟩ := List.mem_map.1 he
    exact hs x
  · simp only [bnd, List.length_map]
    refine ⟨by omega, by omega, by omega, ?_⟩
    rw [Int.toNat_natCast, Int.toNat_natCast, List.take_of_length_le (by simp)]
    simpa using h

/-- at the exit of one block something else is asked -/
def exitTo (B : Nat) (J : Env → Store → Prop) (Q : AExit → Env → Store → Prop) : AExit → Env → Store → Prop
  | .exit id, env, σ => bif Nat.beq id B then J env σ else Q (.exit id) env σ
  | .normal, env, σ => Q .normal env σ
  | .ret, env, σ => Q .ret env σ
  | .pan v, env, σ => Q (.pan v) env σ
end Go.Gl
