/-
  GL 1: values, objects, stores, and how they stand in a world of the model.
-/
import Derived.OrdersIn
import Derived.Below
set_option linter.all false
set_option linter.unusedVariables false
set_option linter.unusedSimpArgs false
namespace Go.Gl
/-- the bound on lengths -/
def maxL : Nat := 1073741824
/-- abstract values -/
inductive V where
  | b (x : Bool)
  | i (k : IntKind) (n : Int)
  | s (x : ByteArray)
  | pn
  | p (n off : Nat)
  | rp (cs : List V)
  | l (es : List (List V)) (full : Bool)
  | sl (n len cap : Nat)
  | sv (n sz off len : Nat)
  | pe (n sz i off : Nat)
  | m (n : Nat)
  | mn
  | f (fn : Fn) (first cap : List V)
  | fnil
  | ifc (t : TypeId) (v : V)
  | inil
  | a (cs : List V)
  | t (vs : List V)
  | any
  deriving Inhabited

mutual
/-- an abstract value stands for a value of the model, where H are the cells that can be read (and never change) -/
def VRel (H : Nat → Nat → Option Value) : V → Value → Prop
  | .b x, c => c = .bool x
  | .i k n, c => c = .int k n ∧ k.min ≤ n ∧ n ≤ k.max
  | .s x, c => c = .string x
  | .pn, c => c = .pointer none
  | .p n off, c => c = .pointer (some ⟨n, off, none⟩)
  | .rp cs, c => ∃ b o, c = .pointer (some ⟨b, o, none⟩) ∧ VsAt H (H b) o cs
  | .l es full, c => ∃ a cap, c = .slice a es.length cap ∧ es.length ≤ cap ∧ (full = true → cap = es.length) ∧ es.length ≤ maxL ∧ (a = none → cap = 0) ∧
      (es ≠ [] → ∃ b o sz, a = some ⟨b, o, none⟩ ∧ RowsAt H (H b) sz o es)
  | .sl n len cap, c => c = .slice (some ⟨n, 0, none⟩) len cap ∧ len ≤ cap
  | .sv n sz off len, c => ∃ a cap, c = .slice a len cap ∧ len ≤ cap ∧ (len ≠ 0 → a = some ⟨n, off * sz, none⟩)
  | .pe n sz i off, c => c = .pointer (some ⟨n, i * sz + off, none⟩)
  | .m n, c => c = .map (some n)
  | .mn, c => c = .map none
  | .f fn first cap, c => ∃ f' c', c = .func fn f' c' ∧ f'.size = first.length ∧ VsAt H (fun i => f'[i]?) 0 first ∧ c'.size = cap.length ∧ VsAt H (fun i => c'[i]?) 0 cap
  | .fnil, c => c = .nilFunc
  | .ifc t v, c => ∃ c', c = .iface t c' ∧ VRel H v c'
  | .inil, c => c = .nilIface
  | .a cs, c => ∃ c', c = .agg c' ∧ c'.size = cs.length ∧ VsAt H (fun i => c'[i]?) 0 cs
  | .t vs, c => ∃ c', c = .tuple c' ∧ c'.size = vs.length ∧ VsAt H (fun i => c'[i]?) 0 vs
  | .any, _ => True
/-- a row of cells, from a place on -/
def VsAt (H : Nat → Nat → Option Value) (g : Nat → Option Value) : Nat → List V → Prop
  | _, [] => True
  | o, v :: vs => (∃ c, g o = some c ∧ VRel H v c) ∧ VsAt H g (o + 1) vs
/-- rows of so many cells each -/
def RowsAt (H : Nat → Nat → Option Value) (g : Nat → Option Value) (sz : Nat) : Nat → List (List V) → Prop
  | _, [] => True
  | o, e :: es => e.length = sz ∧ VsAt H g o e ∧ RowsAt H g sz (o + sz) es
end

/-- where a loop over a function stands: between rounds, or left -/
inductive LSt where
  | ready
  | ret
  | exit (id : Nat)
/-- objects that a call owns -/
inductive O where
  | cs (vs : List V)
  | arr (sz : Nat) (es : List (List V)) (cap : Nat)
  | map (kvs : List (V × V))
  | loop (st : LSt) (env : List (Nat × V)) (ok : FuncId → Array Tmp → Code → Code → Nat → Prop)
  deriving Inhabited
def stOk : LSt → Loop → Prop
  | .ready, lp => lp.state = .ready ∧ lp.pending = none
  | .ret, lp => lp.state = .done ∧ lp.pending = some .ret
  | .exit id, lp => lp.state = .done ∧ lp.pending = some (.exit id)

def KvRel (H : Nat → Nat → Option Value) : List (V × V) → List MapEntry → Prop
  | [], [] => True
  | (k, v) :: r, e :: es => VRel H k e.key ∧ VRel H v e.val ∧ KvRel H r es
  | _, _ => False

def ORel (H : Nat → Nat → Option Value) : O → Obj → Prop
  | .cs vs, o => ∃ c e, o = .cells c e (0, 0) ∧ c.size = vs.length ∧ VsAt H (fun i => c[i]?) 0 vs
  | .arr sz es cap, o => ∃ c e, o = .cells c e (0, 0) ∧ cap * sz ≤ c.size ∧ es.length ≤ cap ∧ es.length ≤ maxL ∧ RowsAt H (fun i => c[i]?) sz 0 es
  | .map kvs, o => ∃ es clk, o = .map es clk ∧ KvRel H kvs es.toList ∧ es.toList.Pairwise (fun a b => a.key ≠ b.key)
  | .loop st env ok, o => ∃ lp, o = .loop lp ∧ stOk st lp ∧ (∀ k v, (k, v) ∈ env → ∃ c, lp.tmps[k]? = some c ∧ VRel H v c) ∧ ok lp.fn lp.params lp.assign lp.body lp.tmps.size

abbrev Store := Nat → Option O

/-- the cells that can be read: of blocks that are neither locked nor owned -/
noncomputable def Hh (Λ : Nat → Prop) (σ : Store) (w : World) (b o : Nat) : Option Value :=
  open Classical in if Λ b ∨ (σ b).isSome = true then none else w.cell? ⟨b, o, none⟩

structure Rel (Λ : Nat → Prop) (σ : Store) (w : World) : Prop where
  own : ∀ n o, σ n = some o → ¬ Λ n ∧ ∃ ob, w.heap[n]? = some ob ∧ ORel (Hh Λ σ w) o ob
  lock : ∀ n, Λ n → n < w.heap.size

structure Adv (Λ : Nat → Prop) (σ : Store) (w : World) (σ' : Store) (w' : World) : Prop where
  frame : ∀ n, n < w.heap.size → σ n = none → w'.heap[n]? = w.heap[n]?
  size : w.heap.size ≤ w'.heap.size
  os : w'.os = w.os
  tape : w'.tape = w.tape
  output : w'.output = w.output
  names : ∀ n, σ n = none → n < w.heap.size → σ' n = none

theorem Adv.refl (Λ : Nat → Prop) (σ : Store) (w : World) : Adv Λ σ w σ w :=
  ⟨fun _ _ _ => rfl, Nat.le_refl _, rfl, rfl, rfl, fun _ h _ => h⟩
theorem Adv.trans {Λ : Nat → Prop} {σ σ' σ'' : Store} {w w' w'' : World} (h : Adv Λ σ w σ' w') (k : Adv Λ σ' w' σ'' w'') : Adv Λ σ w σ'' w'' where
  frame n hn h0 := (k.frame n (Nat.lt_of_lt_of_le hn h.size) (h.names n h0 hn)).trans (h.frame n hn h0)
  size := Nat.le_trans h.size k.size
  os := k.os.trans h.os
  tape := k.tape.trans h.tape
  output := k.output.trans h.output
  names n h0 hn := k.names n (h.names n h0 hn) (Nat.lt_of_lt_of_le hn h.size)

def HLe (H H' : Nat → Nat → Option Value) : Prop := ∀ b o c, H b o = some c → H' b o = some c

mutual
theorem VRel.mono {H H' : Nat → Nat → Option Value} (hle : HLe H H') : ∀ (v : V) (c : Value), VRel H v c → VRel H' v c
  | .b _, _, h | .i _ _, _, h | .s _, _, h | .pn, _, h | .p _ _, _, h | .sl _ _ _, _, h | .sv _ _ _ _, _, h | .pe _ _ _ _, _, h | .m _, _, h | .mn, _, h | .fnil, _, h | .inil, _, h | .any, _, h => by
    simp only [VRel] at h ⊢
    try exact h
  | .rp cs, _, h => by
    simp only [VRel] at h ⊢
    obtain ⟨b, o, rfl, h⟩ := h
    exact ⟨b, o, rfl, VsAt.mono hle (fun i c e => hle b i c e) cs o h⟩
  | .l es full, _, h => by
    simp only [VRel] at h ⊢
    obtain ⟨a, cap, h1, h2, h3, h4, h5, h6⟩ := h
    refine ⟨a, cap, h1, h2, h3, h4, h5, fun hne => ?_⟩
    obtain ⟨b, o, sz, h7, h8⟩ := h6 hne
    exact ⟨b, o, sz, h7, RowsAt.mono hle (fun i c e => hle b i c e) sz es o h8⟩
  | .f fn first cap, _, h => by
    simp only [VRel] at h ⊢
    obtain ⟨f', c', h1, h2, h3, h4, h5⟩ := h
    exact ⟨f', c', h1, h2, VsAt.mono hle (fun _ _ e => e) first 0 h3, h4, VsAt.mono hle (fun _ _ e => e) cap 0 h5⟩
  | .ifc t v, _, h => by
    simp only [VRel] at h ⊢
    obtain ⟨c', h1, h2⟩ := h
    exact ⟨c', h1, VRel.mono hle v c' h2⟩
  | .a cs, _, h => by
    simp only [VRel] at h ⊢
    obtain ⟨c', h1, h2, h3⟩ := h
    exact ⟨c', h1, h2, VsAt.mono hle (fun _ _ e => e) cs 0 h3⟩
  | .t cs, _, h => by
    simp only [VRel] at h ⊢
    obtain ⟨c', h1, h2, h3⟩ := h
    exact ⟨c', h1, h2, VsAt.mono hle (fun _ _ e => e) cs 0 h3⟩
theorem VsAt.mono {H H' : Nat → Nat → Option Value} (hle : HLe H H') {g g' : Nat → Option Value} (hg : ∀ i c, g i = some c → g' i = some c) :
    ∀ (vs : List V) (o : Nat), VsAt H g o vs → VsAt H' g' o vs
  | [], _, _ => trivial
  | v :: vs, o, h => by
    simp only [VsAt] at h ⊢
    obtain ⟨⟨c, h1, h2⟩, h3⟩ := h
    exact ⟨⟨c, hg _ _ h1, VRel.mono hle v c h2⟩, VsAt.mono hle hg vs (o + 1) h3⟩
theorem RowsAt.mono {H H' : Nat → Nat → Option Value} (hle : HLe H H') {g g' : Nat → Option Value} (hg : ∀ i c, g i = some c → g' i = some c) (sz : Nat) :
    ∀ (es : List (List V)) (o : Nat), RowsAt H g sz o es → RowsAt H' g' sz o es
  | [], _, _ => trivial
  | e :: es, o, h => by
    simp only [RowsAt] at h ⊢
    obtain ⟨h1, h2, h3⟩ := h
    exact ⟨h1, VsAt.mono hle hg e o h2, RowsAt.mono hle hg sz es (o + sz) h3⟩
end

theorem KvRel.mono {H H' : Nat → Nat → Option Value} (hle : HLe H H') : ∀ (r : List (V × V)) (es : List MapEntry), KvRel H r es → KvRel H' r es
  | [], [], _ => trivial
  | (k, v) :: r, e :: es, h => by
    simp only [KvRel] at h ⊢
    exact ⟨VRel.mono hle _ _ h.1, VRel.mono hle _ _ h.2.1, KvRel.mono hle r es h.2.2⟩
  | [], _ :: _, h => h.elim
  | _ :: _, [], h => h.elim

theorem ORel.mono {H H' : Nat → Nat → Option Value} (hle : HLe H H') {o : O} {ob : Obj} (h : ORel H o ob) : ORel H' o ob := by
  cases o with
  | cs vs => obtain ⟨c, e, h1, h2, h3⟩ := h; exact ⟨c, e, h1, h2, VsAt.mono hle (fun _ _ e => e) _ _ h3⟩
  | arr sz es cap => obtain ⟨c, e, h1, h2, h3, h4, h5⟩ := h; exact ⟨c, e, h1, h2, h3, h4, RowsAt.mono hle (fun _ _ e => e) _ _ _ h5⟩
  | map kvs => obtain ⟨es, clk, h1, h2, h3⟩ := h; exact ⟨es, clk, h1, KvRel.mono hle _ _ h2, h3⟩
  | loop st env ok => obtain ⟨lp, h1, h2, h3, h4⟩ := h; exact ⟨lp, h1, h2, fun k v hm => let ⟨c, h5, h6⟩ := h3 k v hm; ⟨c, h5, h6.mono hle⟩, h4⟩

theorem Hh_some {Λ : Nat → Prop} {σ : Store} {w : World} {b o : Nat} {c : Value} (h : Hh Λ σ w b o = some c) :
    ¬ Λ b ∧ σ b = none ∧ w.cell? ⟨b, o, none⟩ = some c := by
  unfold Hh at h
  split at h
  · cases h
  · rename_i hn
    refine ⟨fun hl => hn (.inl hl), ?_, h⟩
    cases hs : σ b with
    | none => rfl
    | some o => exact absurd (.inr (by simp [hs])) hn
theorem Hh_of {Λ : Nat → Prop} {σ : Store} {w : World} {b o : Nat} (h1 : ¬ Λ b) (h2 : σ b = none) : Hh Λ σ w b o = w.cell? ⟨b, o, none⟩ := by
  unfold Hh
  rw [if_neg]
  simp [h1, h2]
theorem cell_lt {w : World} {b o : Nat} {c : Value} (h : w.cell? ⟨b, o, none⟩ = some c) : b < w.heap.size := by
  unfold World.cell? at h
  rcases Nat.lt_or_ge b w.heap.size with h' | h'
  · exact h'
  · simp [Array.getElem?_eq_none h'] at h

theorem Adv.hle {Λ : Nat → Prop} {σ σ' : Store} {w w' : World} (h : Adv Λ σ w σ' w') : HLe (Hh Λ σ w) (Hh Λ σ' w') := by
  intro b o c hc
  obtain ⟨h1, h2, h3⟩ := Hh_some hc
  have hb := cell_lt h3
  rw [Hh_of h1 (h.names b h2 hb), World.cell?_of_block (w := w) (h.frame b hb h2)]
  exact h3

/-- fewer objects: more can be read -/
theorem Hh_less {Λ : Nat → Prop} {σ σ' : Store} {w : World} (hs : ∀ n, σ n = none → σ' n = none) : HLe (Hh Λ σ w) (Hh Λ σ' w) := by
  intro b o c hc
  obtain ⟨h1, h2, h3⟩ := Hh_some hc
  rw [Hh_of h1 (hs b h2)]
  exact h3
theorem Hh_lock {Λ Λ' : Nat → Prop} {σ : Store} {w : World} (hs : ∀ n, Λ' n → Λ n) : HLe (Hh Λ σ w) (Hh Λ' σ w) := by
  intro b o c hc
  obtain ⟨h1, h2, h3⟩ := Hh_some hc
  rw [Hh_of (fun h => h1 (hs b h)) h2]
  exact h3

def Sub (σ' σ : Store) : Prop := ∀ n o, σ' n = some o → σ n = some o
theorem Sub.none {σ' σ : Store} (h : Sub σ' σ) {n : Nat} (hn : σ n = none) : σ' n = none := by
  cases h' : σ' n with
  | none => rfl
  | some o => rw [h n o h'] at hn; cases hn
theorem Sub.refl (σ : Store) : Sub σ σ := fun _ _ h => h
theorem Sub.trans {a b c : Store} (h : Sub a b) (k : Sub b c) : Sub a c := fun n o e => k n o (h n o e)

/-- dropping objects freezes them -/
theorem Rel.drop {Λ : Nat → Prop} {σ σ' : Store} {w : World} (h : Rel Λ σ w) (hs : Sub σ' σ) : Rel Λ σ' w where
  own n o ho := by
    obtain ⟨h1, ob, h2, h3⟩ := h.own n o (hs n o ho)
    exact ⟨h1, ob, h2, ORel.mono (Hh_less fun n hn => hs.none hn) h3⟩
  lock := h.lock
theorem Adv.drop {Λ : Nat → Prop} {σ σ' : Store} (w : World) (hs : Sub σ' σ) : Adv Λ σ w σ' w :=
  ⟨fun _ _ _ => rfl, Nat.le_refl _, rfl, rfl, rfl, fun _ hn _ => hs.none hn⟩
end Go.Gl
