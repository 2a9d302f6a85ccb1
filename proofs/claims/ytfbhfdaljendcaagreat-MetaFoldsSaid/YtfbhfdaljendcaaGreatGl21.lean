/-
  GL 21: lists of integers and other encoded things.
-/
import Derived.Test.YtfbhfdaljendcaaGreatGl20
set_option linter.all false
set_option linter.unusedVariables false
set_option linter.unusedSimpArgs false
namespace Go.Gl
variable {P : Program} {σ : Store} {env : Env}
/-- a list of integers as rows -/
abbrev iL (xs : List Int) : List (List V) := xs.map fun x => [.i .i64 x]
/-- lists of lists -/
abbrev iLL (ls : List (List Int)) : List (List V) := ls.map fun l => [.l (iL l) false]
abbrev bL (xs : List Bool) : List (List V) := xs.map fun x => [.b x]
/-- may the encoded things lie in cells of so many -/
def goodE {α : Type} (enc : α → List V) (sz : Nat) : Prop := ∀ x, (enc x).length = sz ∧ ∀ v ∈ enc x, oneV v = true
theorem good_iL : goodE (fun x : Int => [V.i .i64 x]) 1 := fun x => ⟨rfl, fun v hv => by simp at hv; subst hv; rfl⟩
theorem good_iLL : goodE (fun l : List Int => [V.l (iL l) false]) 1 := fun x => ⟨rfl, fun v hv => by simp at hv; subst hv; rfl⟩
theorem good_bL : goodE (fun x : Bool => [V.b x]) 1 := fun x => ⟨rfl, fun v hv => by simp at hv; subst hv; rfl⟩
theorem rows_good {α : Type} {enc : α → List V} {sz : Nat} (hg : goodE enc sz) (xs : List α) : (∀ e ∈ xs.map enc, e.length = sz) ∧ ∀ e ∈ xs.map enc, ∀ v ∈ e, oneV v = true := by
  refine ⟨fun e he => ?_, fun e he => ?_⟩ <;> obtain ⟨x, _, rfl⟩ := List.mem_map.1 he
  · exact (hg x).1
  · exact (hg x).2
/-- append to nothing, of encoded things -/
theorem hAppf {α : Type} {enc : α → List V} {sz : Nat} {xs ys : List α} {f g : Bool} {K : V → Prop} (hg : goodE enc sz) (hl : xs.length + ys.length ≤ maxL) (hf : f = true) (hk : K (.l ((xs ++ ys).map enc) false)) : kAppf σ sz (.l (xs.map enc) f) (.l (ys.map enc) g) K := by
  obtain ⟨h1, h2⟩ := rows_good hg ys
  refine ⟨h1, h2, (rows_good hg xs).1, by simpa using hl, fun _ => hf, ?_⟩
  rw [← List.map_append]
  exact hk
theorem hAppf0 {α : Type} {enc : α → List V} {sz : Nat} {ys : List α} {g : Bool} {K : V → Prop} (hg : goodE enc sz) (hl : ys.length ≤ maxL) (hk : K (.l (ys.map enc) false)) : kAppf σ sz (.l [] true) (.l (ys.map enc) g) K :=
  hAppf (xs := []) hg (by simpa using hl) rfl hk
/-- one more element behind a slice that grows -/
theorem hApp1 {l : List At} (h : Sat σ l) (i : Nat) {α : Type} {enc : α → List V} {sz : Nat} {xs : List α} {x : α} {v : V} {f : Bool} {e : List V} {K : V → Store → Prop} (hi : l[i]? = some (.own v sz (xs.map enc))) (hl : xs.length < maxL) (hg : goodE enc sz)
    (hk : ∀ v' σ', Sat σ' (l.set i (.own v' sz ((xs ++ [x]).map enc))) → K v' σ') (he : e = enc x := by rfl) : kAppend σ sz v (.l [e] f) K := by
  subst he
  refine hAppend h i hi (by simp; omega) (fun e he => by simp at he; subst he; exact (hg x).1) (fun e he => by simp at he; subst he; exact (hg x).2) fun v' σ' hs => hk v' σ' ?_
  rw [List.map_append]
  exact hs
/-- the same, with rows by value -/
theorem hAppL {l : List At} (h : Sat σ l) (i : Nat) {α : Type} {enc : α → List V} {sz : Nat} {xs ys : List α} {v : V} {f : Bool} {K : V → Store → Prop} (hi : l[i]? = some (.own v sz (xs.map enc))) (hl : xs.length + ys.length ≤ maxL) (hg : goodE enc sz)
    (hk : ∀ v' σ', Sat σ' (l.set i (.own v' sz ((xs ++ ys).map enc))) → K v' σ') : kAppend σ sz v (.l (ys.map enc) f) K := by
  obtain ⟨h1, h2⟩ := rows_good hg ys
  refine hAppend h i hi (by simpa using hl) h1 h2 fun v' σ' hs => hk v' σ' ?_
  rw [List.map_append]
  exact hs
/-- the end of a call that hands back a slice that has grown -/
theorem Done_own {l : List At} (h : Sat σ l) (i : Nat) {v : V} {sz : Nat} {es : List (List V)} (hi : l[i]? = some (.own v sz es)) {vf : V} (he : V.l es false = vf) : Done σ v (fun r σ' => r = .ret vf ∧ σ' = emp) :=
  Done_pure (he ▸ h.frz i hi)
theorem lt_of_int {k n : Nat} (h : (k : Int) < (n : Int)) : k < n := by omega
theorem take_succ_of {α : Type} {xs : List α} {k : Nat} {x : α} (h : xs[k]? = some x) : xs.take (k + 1) = xs.take k ++ [x] := by
  rw [List.take_add_one, h]
  rfl
/-- an element of a list of encoded things, by name -/
theorem at_q {α : Type} {enc : α → List V} {xs : List α} {f : Bool} {sz : Nat} {K : V → Prop} {ki : IntKind} {j : Int} (k : Nat) {x : α} (hx : xs[k]? = some x) (hj : j = k) (hs : (enc x).length = sz) (h : K (.rp (enc x))) :
    kIaddr sz none (.l (xs.map enc) f) (.i ki j) K := by
  subst hj
  refine ⟨Int.natCast_nonneg k, enc x, ?_, hs, h⟩
  rw [Int.toNat_natCast, List.getElem?_map, hx]
  rfl
/-- a loop test over a list of encoded things: there is an element, or all are gone -/
theorem fork_lt {α : Type} {enc : α → List V} {xs : List α} {k : Nat} {A B : Prop} (hk : k ≤ xs.length) (h1 : ∀ x, xs[k]? = some x → k < xs.length → A) (h2 : k = xs.length → B) :
    (decide ((k : Int) < ((xs.map enc).length : Nat)) = true → A) ∧ (decide ((k : Int) < ((xs.map enc).length : Nat)) = false → B) :=
  fork (fun h => by
    have hlt := lt_map h
    exact h1 _ (List.getElem?_eq_getElem hlt) hlt) fun h => h2 (end_map hk h)
/-- what a counter holds after so many rounds -/
def ctrF (a : Int) : Nat → Int
  | 0 => a
  | k + 1 => IntKind.i64.wrap (ctrF a k + 1)
abbrev ctr (k : Nat) : Int := ctrF 0 k
theorem ctrF_eq {a : Int} (ha : -4611686018427387904 ≤ a) : ∀ {k : Nat}, a + k ≤ 4611686018427387904 → ctrF a k = a + k
  | 0, _ => by simp [ctrF]
  | k + 1, h => by
    rw [ctrF, ctrF_eq ha (by omega), wrap64 (by omega) (by omega)]
    omega
theorem ctr_eq {k : Nat} (h : k ≤ maxL + 8) : ctr k = k := by
  rw [ctr, ctrF_eq (by omega) (by simp only [maxL] at h; omega)]
  omega
/-- down -/
def dtrF (a : Int) : Nat → Int
  | 0 => a
  | k + 1 => IntKind.i64.wrap (dtrF a k - 1)
theorem dtrF_eq {a : Int} (ha : a ≤ 4611686018427387904) : ∀ {k : Nat}, -4611686018427387904 ≤ a - k → dtrF a k = a - k
  | 0, _ => by simp [dtrF]
  | k + 1, h => by
    rw [dtrF, dtrF_eq ha (by omega), wrap64 (by omega) (by omega)]
    omega
/-- a loop test over a list of encoded things: there is an element, or all are gone -/
theorem fork_c {α : Type} {enc : α → List V} {xs : List α} {k : Nat} {A B : Prop} (hk : k ≤ xs.length) (hm : xs.length ≤ maxL) (h1 : ∀ x, xs[k]? = some x → k < xs.length → A) (h2 : k = xs.length → B) :
    (decide (ctr k < ((xs.map enc).length : Nat)) = true → A) ∧ (decide (ctr k < ((xs.map enc).length : Nat)) = false → B) := by
  rw [ctr_eq (by omega)]
  exact fork_lt hk h1 h2
theorem at_c {α : Type} {enc : α → List V} {xs : List α} {f : Bool} {sz : Nat} {K : V → Prop} {ki : IntKind} {k : Nat} {x : α} (hx : xs[k]? = some x) (hm : xs.length ≤ maxL) (hs : (enc x).length = sz) (h : K (.rp (enc x))) :
    kIaddr sz none (.l (xs.map enc) f) (.i ki (ctr k)) K :=
  at_q k hx (ctr_eq (by have := (List.getElem?_eq_some_iff.1 hx).1; omega)) hs h
theorem take_all {α : Type} {xs : List α} {k : Nat} (h : k = xs.length) : xs.take k = xs := by rw [h, List.take_length]
end Go.Gl
