/-
  GL 20: heaps as lists of objects; the steps of proofs over them; contracts over heaps and the frame.
-/
import Derived.Test.YtfbhfdaljendcaaGreatGl14w
set_option linter.all false
set_option linter.unusedVariables false
set_option linter.unusedSimpArgs false
namespace Go.Gl
variable {P : Program} {Λ : Nat → Prop} {σ σ' : Store} {env : Env}
/-! slices that grow: a literal yet, or an object of one's own -/
def Own (σ : Store) (v : V) (sz : Nat) (es : List (List V)) : Prop := (v = .l es true ∧ ∀ e ∈ es, e.length = sz) ∨ ∃ n cap, v = .sl n es.length cap ∧ σ n = some (.arr sz es cap)
theorem Own.frz {v : V} {sz : Nat} {es : List (List V)} (h : Own σ v sz es) : Frz σ emp v (.l es false) := by
  rcases h with ⟨rfl, _⟩ | ⟨n, cap, rfl, hn⟩
  · exact .l (fun h => (by cases h)) (.refl _ _ _)
  · exact .arr hn rfl rfl (.refl _ _ _)
/-- an object with its name, or a slice that grows -/
inductive At where
  | obj (n : Nat) (o : O)
  | own (v : V) (sz : Nat) (es : List (List V))
abbrev At.box (n : Nat) (vs : List V) : At := .obj n (.cs vs)
abbrev At.map (n : Nat) (kvs : List (V × V)) : At := .obj n (.map kvs)
def slName : V → Option Nat
  | .sl n _ _ => some n
  | _ => none
def At.dom : At → Option Nat
  | .obj n _ => some n
  | .own v _ _ => slName v
def At.ok (σ : Store) : At → Prop
  | .obj n o => σ n = some o
  | .own v sz es => Own σ v sz es
def apart (a b : At) : Prop := ∀ n, a.dom = some n → b.dom ≠ some n
theorem apart.symm {a b : At} (h : apart a b) : apart b a := fun n hb ha => h n ha hb
/-- the heap has these objects (and perhaps others) -/
def Sat (σ : Store) (l : List At) : Prop := (∀ a ∈ l, a.ok σ) ∧ l.Pairwise apart
theorem Sat.nil : Sat σ [] := ⟨fun _ h => (by cases h), .nil⟩
theorem Sat.get {l : List At} (h : Sat σ l) {i : Nat} {a : At} (hi : l[i]? = some a) : a.ok σ := h.1 a (List.mem_of_getElem? hi)
theorem pairwise_set {l : List At} (h : l.Pairwise apart) : ∀ {i : Nat} {a a' : At}, l[i]? = some a → (∀ b ∈ l, apart a b → apart a' b) → (l.set i a').Pairwise apart := by
  induction h with
  | nil => intro i a a' hi; cases hi
  | cons hx hl ih =>
    rename_i x r
    intro i a a' hi hb
    cases i with
    | zero =>
      simp only [List.getElem?_cons_zero, Option.some.injEq] at hi
      subst hi
      exact .cons (fun b hm => hb b (.tail _ hm) (hx b hm)) hl
    | succ i =>
      simp only [List.getElem?_cons_succ] at hi
      refine .cons (fun b hm => ?_) (ih hi fun b hm => hb b (.tail _ hm))
      rcases List.mem_or_eq_of_mem_set hm with hm | rfl
      · exact hx b hm
      · exact (hb x (.head _) (hx a (List.mem_of_getElem? hi)).symm).symm
theorem pairwise_apart {l : List At} (h : l.Pairwise apart) : ∀ {i : Nat} {a : At}, l[i]? = some a → ∀ b ∈ l.eraseIdx i, apart a b := by
  induction h with
  | nil => intro i a hi; cases hi
  | cons hx hl ih =>
    rename_i x r
    intro i a hi b hb
    cases i with
    | zero =>
      simp only [List.getElem?_cons_zero, Option.some.injEq] at hi
      subst hi
      exact hx b (by simpa using hb)
    | succ i =>
      simp only [List.getElem?_cons_succ] at hi
      simp only [List.eraseIdx_cons_succ, List.mem_cons] at hb
      rcases hb with rfl | hb
      · exact (hx a (List.mem_of_getElem? hi)).symm
      · exact ih hi b hb
theorem mem_set_of {l : List At} {i : Nat} {a b : At} (h : b ∈ l.set i a) : b = a ∨ b ∈ l.eraseIdx i := by
  induction l generalizing i with
  | nil => simp at h
  | cons x r ih =>
    cases i with
    | zero => simp at h; rcases h with rfl | h; exact .inl rfl; exact .inr (by simpa using h)
    | succ i =>
      simp only [List.set_cons_succ, List.mem_cons, List.eraseIdx_cons_succ] at *
      rcases h with rfl | h
      · exact .inr (.inl rfl)
      · rcases ih h with h | h
        · exact .inl h
        · exact .inr (.inr h)
theorem Sat.change {l : List At} (h : Sat σ l) {i : Nat} {a a' : At} (hi : l[i]? = some a) (ho : ∀ b : At, b.ok σ → apart a b → b.ok σ') (hd : ∀ b : At, b.ok σ → apart a b → apart a' b) (ha : a'.ok σ') : Sat σ' (l.set i a') := by
  refine ⟨fun b hb => ?_, pairwise_set h.2 hi fun b hb => hd b (h.1 b hb)⟩
  rcases mem_set_of hb with rfl | hb
  · exact ha
  · exact ho b (h.1 b (List.mem_of_mem_eraseIdx hb)) (pairwise_apart h.2 hi b hb)
theorem dom_some {a : At} {n : Nat} (h : a.ok σ) (hn : a.dom = some n) : ∃ o, σ n = some o := by
  cases a with
  | obj m o => cases hn; exact ⟨o, h⟩
  | own v sz es =>
    rcases h with ⟨rfl, _⟩ | ⟨m, cap, rfl, hm⟩
    · cases hn
    · cases hn; exact ⟨_, hm⟩
theorem ok_of {a : At} (h : a.ok σ) (hs : ∀ n, a.dom = some n → σ' n = σ n) : a.ok σ' := by
  cases a with
  | obj m o => exact (hs m rfl).trans h
  | own v sz es =>
    rcases h with ⟨rfl, he⟩ | ⟨m, cap, rfl, hm⟩
    · exact .inl ⟨rfl, he⟩
    · exact .inr ⟨m, cap, rfl, (hs m rfl).trans hm⟩
theorem Sat.add {l : List At} (h : Sat σ l) {a : At} (ho : ∀ b : At, b.ok σ → b.ok σ') (hd : ∀ b : At, b.ok σ → apart a b) (ha : a.ok σ') : Sat σ' (l ++ [a]) := by
  refine ⟨fun b hb => ?_, List.pairwise_append.2 ⟨h.2, List.pairwise_singleton _ _, fun x hx y hy => ?_⟩⟩
  · rcases List.mem_append.1 hb with hb | hb
    · exact ho b (h.1 b hb)
    · rw [List.mem_singleton.1 hb]; exact ha
  · rw [List.mem_singleton.1 hy]
    exact (hd x (h.1 x hx)).symm
theorem Sat.less {l l' : List At} (h : Sat σ l) (hs : l'.Sublist l) : Sat σ l' := ⟨fun a ha => h.1 a (hs.subset ha), h.2.sublist hs⟩
theorem Sat.perm {l l' : List At} (h : Sat σ l) (hp : l.Perm l') : Sat σ l' := ⟨fun a ha => h.1 a (hp.mem_iff.2 ha), (hp.pairwise_iff (fun {_ _} => apart.symm)).1 h.2⟩

/-! ### steps -/
theorem hObj {l : List At} (h : Sat σ l) {n : Nat} (hn : σ n = none) {o : O} : Sat (upd σ n o) (l ++ [.obj n o]) := by
  refine h.add (fun b hb => ok_of hb fun m hm => ?_) (fun b hb m hm hb' => ?_) (upd_same _ _ _)
  · obtain ⟨o, ho⟩ := dom_some hb hm
    rw [upd_ne]
    intro e; subst e; rw [hn] at ho; cases ho
  · cases hm
    obtain ⟨o, ho⟩ := dom_some hb hb'
    rw [hn] at ho; cases ho
/-- a slice that begins to grow -/
theorem hNew {l : List At} (h : Sat σ l) (sz : Nat) : Sat σ (l ++ [.own (.l [] true) sz []]) :=
  h.add (fun _ hb => hb) (fun b hb n hn => by cases hn) (.inl ⟨rfl, fun _ h => by cases h⟩)
/-- a literal that begins to grow -/
theorem hLit {l : List At} (h : Sat σ l) {sz : Nat} {es : List (List V)} (hs : ∀ e ∈ es, e.length = sz) : Sat σ (l ++ [.own (.l es true) sz es]) :=
  h.add (fun _ hb => hb) (fun b hb n hn => by cases hn) (.inl ⟨rfl, hs⟩)
theorem hPut {l : List At} (h : Sat σ l) {i n : Nat} {o : O} (hi : l[i]? = some (.obj n o)) (o' : O) : Sat (upd σ n o') (l.set i (.obj n o')) := by
  refine h.change hi (fun b hb ha => ok_of hb fun m hm => ?_) (fun b hb ha m hm => ha m hm) (upd_same _ _ _)
  rw [upd_ne]
  intro e; subst e; exact ha m rfl hm
theorem hStore {l : List At} (h : Sat σ l) (i : Nat) {n off sz : Nat} {vs vc : List V} {x : V} {K : Store → Prop} (hi : l[i]? = some (.box n vs)) (hc : cellsOf x = some vc) (hl : vc.length = sz) (h1 : vc.all oneV = true) (ho : off + sz ≤ vs.length)
    (hk : ∀ σ', Sat σ' (l.set i (.box n (putAt vs off vc))) → K σ') : kStore σ sz (.p n off) x K := by
  unfold kStore
  rw [hc]
  refine ⟨hl, h1, ?_⟩
  have := h.get hi
  simp only [At.ok] at this
  simp only [this]
  exact ⟨ho, hk _ (hPut h hi _)⟩
theorem hLoad {l : List At} (h : Sat σ l) (i : Nat) {n off : Nat} {agg : Option Nat} {vs : List V} {K : V → Prop} (hi : l[i]? = some (.box n vs)) (hk : cut agg vs off K) : kLoad σ agg (.p n off) K := by
  have := h.get hi
  simp only [At.ok] at this
  simp only [kLoad, loadP, this]
  exact hk
theorem hAppend {l : List At} (h : Sat σ l) (i : Nat) {v : V} {sz : Nat} {es ys : List (List V)} {f : Bool} {K : V → Store → Prop} (hi : l[i]? = some (.own v sz es)) (hl : es.length + ys.length ≤ maxL) (hys : ∀ e ∈ ys, e.length = sz) (ho : ∀ e ∈ ys, ∀ v ∈ e, oneV v = true)
    (hk : ∀ v' σ', Sat σ' (l.set i (.own v' sz (es ++ ys))) → K v' σ') : kAppend σ sz v (.l ys f) K := by
  refine ⟨hys, ho, ?_⟩
  rcases h.get hi with ⟨rfl, hel⟩ | ⟨n, cap, rfl, hn⟩
  · refine ⟨hel, hl, fun e => hk _ _ ?_, fun _ => ⟨rfl, fun n cap hn hc => hk _ _ ?_⟩⟩
    · subst e
      exact h.change hi (fun _ hb _ => hb) (fun _ _ ha => ha) (.inl ⟨by simp, by simpa using hel⟩)
    · refine h.change hi (fun b hb _ => ok_of hb fun m hm => ?_) (fun b hb _ m hm hb' => ?_) (.inr ⟨n, cap, by simp, by simp [upd]⟩)
      · obtain ⟨o, ho⟩ := dom_some hb hm
        rw [upd_ne]
        intro e; subst e; rw [hn] at ho; cases ho
      · cases hm
        obtain ⟨o, ho⟩ := dom_some hb hb'
        rw [hn] at ho; cases ho
  · simp only
    rw [hn]
    refine ⟨rfl, rfl, rfl, hl, fun n' cap' hn' _ => hk _ _ ?_⟩
    refine h.change hi (fun b hb ha => ok_of hb fun m hm => ?_) (fun b hb ha m hm hb' => ?_) (.inr ⟨n', cap', by simp, by simp [upd]⟩)
    · have hmn : m ≠ n := fun e => by subst e; exact ha m rfl hm
      obtain ⟨o, ho⟩ := dom_some hb hm
      have hmn' : m ≠ n' := fun e => by subst e; rw [del_ne _ hmn, ho] at hn'; cases hn'
      rw [upd_ne _ _ hmn', del_ne _ hmn]
    · cases hm
      have hmn : n' ≠ n := fun e => by subst e; exact ha n' rfl hb'
      obtain ⟨o, ho⟩ := dom_some hb hb'
      rw [del_ne _ hmn, ho] at hn'
      cases hn'
/-- append of what is owned itself (by value) is not here; of a new slice -/
theorem hMk {l : List At} (h : Sat σ l) {sz : Nat} {z : List V} {n : Nat} {K : V → Store → Prop} (hn : n ≤ maxL) (hk : ∀ v σ', Sat σ' (l ++ [.own v sz (List.replicate n z)]) → (∃ id, v = .sl id n n) → K v σ') {ki kj : IntKind} :
    kMkslice σ sz z (.i ki (n : Int)) (.i kj (n : Int)) K := by
  refine ⟨by omega, by omega, by omega, fun id hid => ?_⟩
  simp only [Int.toNat_natCast]
  refine hk _ _ (h.add (fun b hb => ok_of hb fun m hm => ?_) (fun b hb m hm hb' => ?_) (.inr ⟨id, n, by simp, by simp [upd]⟩)) ⟨id, rfl⟩
  · obtain ⟨o, ho⟩ := dom_some hb hm
    rw [upd_ne]
    intro e; subst e; rw [hid] at ho; cases ho
  · cases hm
    obtain ⟨o, ho⟩ := dom_some hb hb'
    rw [hid] at ho; cases ho
theorem load_rp {agg : Option Nat} {cs : List V} {K : V → Prop} (h : cut agg cs 0 K) : kLoad σ agg (.rp cs) K := h
theorem len_l {es : List (List V)} {f : Bool} {K : V → Prop} (h : K (.i .i64 es.length)) : kLen (.l es f) K := h
theorem oneO {l : List At} (h : Sat σ l) (i : Nat) {v : V} {sz : Nat} {es : List (List V)} (hi : l[i]? = some (.own v sz es)) : oneV v = true := by
  rcases h.get hi with ⟨rfl, _⟩ | ⟨n, cap, rfl, hn⟩ <;> rfl
@[simp] theorem oneV_l {es : List (List V)} {f : Bool} : oneV (.l es f) = true := rfl
@[simp] theorem oneV_i {k : IntKind} {n : Int} : oneV (.i k n) = true := rfl
@[simp] theorem oneV_b {b : Bool} : oneV (.b b) = true := rfl
@[simp] theorem oneV_p {n o : Nat} : oneV (.p n o) = true := rfl
@[simp] theorem oneV_rp {cs : List V} : oneV (.rp cs) = true := rfl
@[simp] theorem oneV_m {n : Nat} : oneV (.m n) = true := rfl
@[simp] theorem oneV_f {fn : Fn} {a b : List V} : oneV (.f fn a b) = true := rfl
@[simp] theorem oneV_sl {a b c : Nat} : oneV (.sl a b c) = true := rfl
@[simp] theorem oneV_pn : oneV .pn = true := rfl
@[simp] theorem oneV_mn : oneV .mn = true := rfl
@[simp] theorem oneV_inil : oneV .inil = true := rfl
@[simp] theorem oneV_ifc {t : TypeId} {v : V} : oneV (.ifc t v) = true := rfl
theorem cells_one {v : V} (h : oneV v = true) : cellsOf v = some [v] := by cases v <;> first | rfl | cases h
/-- a store of one value -/
theorem hStore1 {l : List At} (h : Sat σ l) (i : Nat) {n off : Nat} {vs : List V} {x : V} {K : Store → Prop} (hi : l[i]? = some (.box n vs)) (h1 : oneV x = true) (ho : off + 1 ≤ vs.length)
    (hk : ∀ σ', Sat σ' (l.set i (.box n (vs.set off x))) → K σ') : kStore σ 1 (.p n off) x K :=
  hStore h i hi (cells_one h1) rfl (by simp [h1]) ho hk
/-! letting go -/
theorem Sat.frz {l : List At} (h : Sat σ l) (i : Nat) {v : V} {sz : Nat} {es : List (List V)} (hi : l[i]? = some (.own v sz es)) : Frz σ emp v (.l es false) := (h.get hi).frz
theorem Sat.frzB {l : List At} (h : Sat σ l) (i : Nat) {n : Nat} {vs vs' : List V} (hi : l[i]? = some (.box n vs)) (hf : FrzL σ emp vs vs') : Frz σ emp (.p n 0) (.rp vs') := .cs (h.get hi) rfl hf
theorem letGo {l : List At} (h : Sat σ l) (i : Nat) {v : V} {sz : Nat} {es : List (List V)} (hi : l[i]? = some (.own v sz es)) : ∃ σ2, Sub σ2 σ ∧ Frz σ σ2 v (.l es false) ∧ Sat σ2 (l.eraseIdx i) := by
  rcases h.get hi with ⟨rfl, _⟩ | ⟨n, cap, rfl, hn⟩
  · exact ⟨σ, fun _ _ h => h, .l (fun h => (by cases h)) (.refl _ _ _), h.less (List.eraseIdx_sublist _ _)⟩
  · refine ⟨del σ n, sub_del σ n, .arr hn (del_same σ n) rfl (.refl _ _ _), ?_⟩
    refine ⟨fun b hb => ?_, h.2.sublist (List.eraseIdx_sublist _ _)⟩
    refine ok_of (h.1 b (List.mem_of_mem_eraseIdx hb)) fun m hm => ?_
    rw [del_ne]
    intro e; subst e; exact pairwise_apart h.2 hi b hb m rfl hm
theorem Done_of {v vf : V} {σ2 : Store} {Q : R → Store → Prop} (hs : Sub σ2 σ) (hf : Frz σ σ2 v vf) (hq : Q (.ret vf) σ2) : Done σ v Q := ⟨vf, σ2, hs, hf, hq⟩
/-- the end of a call that keeps objects -/
theorem Done_keep {l l' : List At} (h : Sat σ l) (hl : l'.Sublist l) {v vf : V} {Q : R → Store → Prop} (hf : Frz σ σ v vf) (hq : ∀ σ', Sat σ' l' → Q (.ret vf) σ') : Done σ v Q := ⟨vf, σ, fun _ _ h => h, hf, hq σ (h.less hl)⟩
/-- one slice becomes a value -/
theorem hLet {l : List At} (h : Sat σ l) (i : Nat) {v : V} {sz : Nat} {es : List (List V)} (hi : l[i]? = some (.own v sz es)) {K : V → Store → Prop} (hk : ∀ σ', Sat σ' (l.eraseIdx i) → K (.l es false) σ') : ∃ vf σ2, Sub σ2 σ ∧ Frz σ σ2 v vf ∧ K vf σ2 := by
  obtain ⟨σ2, h1, h2, h3⟩ := letGo h i hi
  exact ⟨_, σ2, h1, h2, hk σ2 h3⟩
/-! reading a slice that grows -/
theorem hLen {l : List At} (h : Sat σ l) (i : Nat) {v : V} {sz : Nat} {es : List (List V)} (hi : l[i]? = some (.own v sz es)) (hm : es.length ≤ maxL) {K : V → Prop} (hk : K (.i .i64 es.length)) : kLen v K := by
  rcases h.get hi with ⟨rfl, _⟩ | ⟨n, cap, rfl, hn⟩
  · exact hk
  · exact ⟨hm, hk⟩
/-- the address of an element -/
def elemP (v : V) (sz j : Nat) : V := match v with | .sl n _ _ => .pe n sz j 0 | .l es _ => .rp (es.getD j []) | _ => .pn
theorem hAt {l : List At} (h : Sat σ l) (i : Nat) {v : V} {sz : Nat} {es : List (List V)} {ki : IntKind} {j : Int} (k : Nat) (hi : l[i]? = some (.own v sz es)) (hj : j = k) (hlt : k < es.length) {K : V → Prop} (hk : K (elemP v sz k)) :
    kIaddr sz none v (.i ki j) K := by
  subst hj
  rcases h.get hi with ⟨rfl, hel⟩ | ⟨n, cap, rfl, hn⟩
  · refine ⟨Int.natCast_nonneg k, es[k], by simp [hlt], hel _ (List.getElem_mem hlt), ?_⟩
    simpa [elemP, hlt] using hk
  · exact ⟨Int.natCast_nonneg k, by omega, by simpa [elemP] using hk⟩
theorem hAtLoad {l : List At} (h : Sat σ l) (i : Nat) {v : V} {sz k : Nat} {es : List (List V)} {e : List V} {agg : Option Nat} (hi : l[i]? = some (.own v sz es)) (he : es[k]? = some e) {K : V → Prop} (hk : cut agg e 0 K) : kLoad σ agg (elemP v sz k) K := by
  rcases h.get hi with ⟨rfl, _⟩ | ⟨n', cap', rfl, hn⟩
  · simp only [elemP, kLoad, List.getD_eq_getElem?_getD, he]
    exact hk
  · simp only [elemP, kLoad, loadE, hn, he]
    exact ⟨trivial, hk⟩
theorem hAtStore {l : List At} (h : Sat σ l) (i : Nat) {v x : V} {sz k : Nat} {es : List (List V)} {e vc : List V} (hi : l[i]? = some (.own v sz es)) (he : es[k]? = some e) (hc : cellsOf x = some vc) (hl : vc.length = sz) (h1 : vc.all oneV = true) (hel : e.length = sz) (hv : (slName v).isSome = true) {K : Store → Prop}
    (hk : ∀ σ', Sat σ' (l.set i (.own v sz (es.set k vc))) → K σ') : kStore σ sz (elemP v sz k) x K := by
  rcases h.get hi with ⟨rfl, _⟩ | ⟨n, cap, rfl, hn⟩
  · cases hv
  · unfold kStore
    rw [hc]
    refine ⟨hl, h1, ?_⟩
    simp only [elemP, hn, he]
    refine ⟨trivial, by omega, hk _ ?_⟩
    have hput : ∀ (vs vc : List V), vc.length = vs.length → putAt vs 0 vc = vc := by
      have gen : ∀ (vc pre vs : List V), vc.length = vs.length → putAt (pre ++ vs) pre.length vc = pre ++ vc := by
        intro vc
        induction vc with
        | nil => intro pre vs hl; cases vs with
          | nil => rfl
          | cons _ _ => cases hl
        | cons x vc ih =>
          intro pre vs hl
          cases vs with
          | nil => cases hl
          | cons y vs =>
            simp only [putAt]
            rw [List.set_append_right _ _ (Nat.le_refl _), Nat.sub_self, List.set_cons_zero]
            have := ih (pre ++ [x]) vs (by simpa using hl)
            simp only [List.length_append, List.length_cons, List.length_nil, Nat.zero_add, List.append_assoc, List.singleton_append] at this
            exact this
      intro vs vc hl
      exact gen vc [] vs hl
    rw [hput e vc (by omega)]
    refine h.change hi (fun b hb ha => ok_of hb fun m hm => ?_) (fun b hb ha m hm => ha m hm) (.inr ⟨n, cap, by simp, by simp [upd]⟩)
    rw [upd_ne]
    intro e; subst e; exact ha m rfl hm
/-! maps -/
theorem hLookup {l : List At} (h : Sat σ l) (i : Nat) {n : Nat} {kvs : List (V × V)} {ks : KS} {z vk : V} {ok : Bool} (hi : l[i]? = some (.map n kvs)) (hk : keyOkV ks vk = true) (hks : ∀ kv ∈ kvs, keyOkV ks kv.1 = true) {K : V → Prop} (h' : K (found z ok (kvFind vk kvs))) :
    kLookup σ ks z ok (.m n) vk K := by
  refine ⟨hk, ?_⟩
  have := h.get hi
  simp only [At.ok] at this
  simp only [this]
  exact ⟨hks, h'⟩
theorem hMapset {l : List At} (h : Sat σ l) (i : Nat) {n : Nat} {kvs : List (V × V)} {ks : KS} {vk vv : V} (hi : l[i]? = some (.map n kvs)) (hk : keyOkV ks vk = true) (hks : ∀ kv ∈ kvs, keyOkV ks kv.1 = true) {K : Store → Prop}
    (h' : ∀ σ', Sat σ' (l.set i (.map n (kvPut vk vv kvs))) → K σ') : kMapset σ ks (.m n) vk vv K := by
  refine ⟨hk, ?_⟩
  have := h.get hi
  simp only [At.ok] at this
  simp only [this]
  exact ⟨hks, h' _ (hPut h hi _)⟩
/-! ### contracts over heaps -/
/-- a contract over a heap of which nothing but pre is looked at -/
def CtrS (P : Program) (f : FuncId) (args : List V) (pre : List At) (Φ : R → List At → Prop) : Prop := ∀ σ, Sat σ pre → Ctr P f args σ fun r σ' => ∃ post, Φ r post ∧ Sat σ' post
theorem ok_join {a : At} {σ1 τ : Store} (h : a.ok σ1) : a.ok (join σ1 τ) := ok_of h fun n hn => by
  obtain ⟨o, ho⟩ := dom_some h hn
  simp [join, ho]
theorem CtrS.use {f : FuncId} {args : List V} {pre rest : List At} {Φ : R → List At → Prop} (h : CtrS P f args pre Φ) (hs : Sat σ (pre ++ rest)) {Q : R → Store → Prop} (hk : ∀ r post σ', Φ r post → Sat σ' (post ++ rest) → Q r σ') : Ctr P f args σ Q := by
  have hpre : Sat σ pre := hs.less (List.sublist_append_left _ _)
  have hrest : Sat σ rest := hs.less (List.sublist_append_right _ _)
  have hap := (List.pairwise_append.1 hs.2).2.2
  let D : Nat → Prop := fun n => ∀ b ∈ rest, b.dom ≠ some n
  have h1 : Sat (restr σ D) pre := ⟨fun a ha => ok_of (hpre.1 a ha) fun n hn => restr_in fun b hb => hap a ha b hb n hn, hpre.2⟩
  refine Ctr.mono (Ctr.frame D (h _ h1)) fun r σ' ⟨σ1, ⟨post, hp, hsp⟩, hfr, he⟩ => hk r post σ' hp ?_
  subst he
  have hrn : ∀ b ∈ rest, ∀ n, b.dom = some n → σ1 n = none ∧ restr σ (fun n => ¬ D n) n = σ n := fun b hb n hn => by
    have hnd : ¬ D n := fun h => h b hb hn
    obtain ⟨o, ho⟩ := dom_some (hrest.1 b hb) hn
    exact ⟨hfr n hnd (by rw [ho]; simp), restr_in hnd⟩
  refine ⟨fun a ha => ?_, List.pairwise_append.2 ⟨hsp.2, hrest.2, fun a ha b hb n hn hb' => ?_⟩⟩
  · rcases List.mem_append.1 ha with ha | ha
    · exact ok_join (hsp.1 a ha)
    · refine ok_of (hrest.1 a ha) fun n hn => ?_
      obtain ⟨k1, k2⟩ := hrn a ha n hn
      simp only [join, k1, k2]
  · obtain ⟨o, ho⟩ := dom_some (hsp.1 a ha) hn
    rw [(hrn b hb n hb').1] at ho
    cases ho
/-! ### loops that count up, over heaps -/
/-- other values for some slots -/
def sets : List (Nat × V) → Env → Env
  | _, [] => []
  | f, (k, v) :: r => (k, (get k f).getD v) :: sets f r
/-- other values, spelled out -/
def sk : List (Nat × V) → Env → (Env → Prop) → Prop
  | _, [], k => k []
  | f, (n, v) :: r, k => match get n f with
    | some u => sk f r fun e => k ((n, u) :: e)
    | none => sk f r fun e => k ((n, v) :: e)
theorem sk_eq {f : List (Nat × V)} : ∀ {E : Env} {k : Env → Prop}, sk f E k = k (sets f E)
  | [], _ => rfl
  | (n, v) :: r, k => by
    simp only [sk, sets]
    cases get n f with
    | none => exact sk_eq (E := r)
    | some u => exact sk_eq (E := r)
theorem upH {l : List Nat} {a : ACode} {Q : AExit → Env → Store → Prop} {E : Env} (len : Nat) {X : Type} (f : Nat → X → List (Nat × V)) (H : Nat → X → List At) (Φ : Nat → X → Prop) (x0 : X) (h0 : E = sets (f 0 x0) E) (hΦ : Φ 0 x0) (hs : Sat σ (H 0 x0))
    (h : ∀ k x σ, k ≤ len → Φ k x → Sat σ (H k x) → sk (f k x) E fun E1 => W P a (AExit.andThen (fun env' σ' => pk l env' fun E' => k < len ∧ ∃ x', E' = sets (f (k + 1) x') E ∧ Φ (k + 1) x' ∧ Sat σ' (H (k + 1) x')) Q) E1 σ) : LoopG P l a Q E σ := by
  refine upW len (fun k env' σ' => ∃ x, env' = sets (f k x) E ∧ Φ k x ∧ Sat σ' (H k x)) ⟨x0, h0, hΦ, hs⟩ ?_
  rintro k _ σ hk ⟨x, rfl, h1, h2⟩
  have := h k x σ hk h1 h2
  rw [sk_eq] at this
  exact this
/-- a loop with a measure -/
theorem whileH {l : List Nat} {a : ACode} {Q : AExit → Env → Store → Prop} {E : Env} {X : Type} (μ : X → Nat) (f : X → List (Nat × V)) (H : X → List At) (Φ : X → Prop) (x0 : X) (h0 : E = sets (f x0) E) (hΦ : Φ x0) (hs : Sat σ (H x0))
    (h : ∀ x σ, Φ x → Sat σ (H x) → sk (f x) E fun E1 => W P a (AExit.andThen (fun env' σ' => pk l env' fun E' => ∃ x', μ x' < μ x ∧ E' = sets (f x') E ∧ Φ x' ∧ Sat σ' (H x')) Q) E1 σ) : LoopG P l a Q E σ := by
  refine ⟨fun n env σ => ∃ x, n = μ x ∧ env = sets (f x) E ∧ Φ x ∧ Sat σ (H x), ⟨_, x0, rfl, h0, hΦ, hs⟩, ?_⟩
  rintro n _ σ ⟨x, rfl, rfl, h1, h2⟩
  have h := h x σ h1 h2
  rw [sk_eq] at h
  refine W_mono h fun ex env' σ' hq => ?_
  cases ex with
  | normal =>
    simp only [AExit.andThen] at *
    rw [pk_eq] at *
    obtain ⟨x', k1, k2⟩ := hq
    exact ⟨_, k1, x', rfl, k2⟩
  | exit id => exact hq
  | ret => exact hq
  | pan v => exact hq
/-- the code behind a join is gone through once -/
theorem joinK {K A : Env → Store → Prop} {lx : List Nat} (hK : ∀ env σ, (pk lx env fun E => A E σ) → K env σ) {Y : Type} (fJ : Y → List (Nat × V)) (HJ : Y → List At) (ΦJ : Y → Prop) (EJ : Env)
    (hJ : ∀ y σ, ΦJ y → Sat σ (HJ y) → sk (fJ y) EJ fun E1 => A E1 σ) : ∀ y env σ, (pk lx env fun E => E = sets (fJ y) EJ) → ΦJ y → Sat σ (HJ y) → K env σ := by
  intro y env σ he h1 h2
  refine hK _ _ ?_
  rw [pk_eq] at *
  have := hJ y σ h1 h2
  rw [sk_eq, ← he] at this
  exact this
end Go.Gl
