/-
  GL 4: an operation of the model, resolved; and that it does what the resolved one says.
-/
import Derived.Test.YtfbhfdaljendcaaGreatGl3
import Derived.OpenShut
set_option linter.all false
set_option linter.unusedVariables false
set_option linter.unusedSimpArgs false
namespace Go.Gl

/-! ### resolving -/
def toV1 : Value → Option V
  | .bool b => some (.b b)
  | .int k n => if k.min ≤ n ∧ n ≤ k.max then some (.i k n) else none
  | .string s => some (.s s)
  | .pointer none => some .pn
  | .slice none 0 0 => some (.l [] true)
  | .map none => some .mn
  | .nilFunc => some .fnil
  | .nilIface => some .inil
  | _ => none
def toVs : List Value → Option (List V)
  | [] => some []
  | c :: cs => match toV1 c, toVs cs with
    | some v, some vs => some (v :: vs)
    | _, _ => none
def toV : Value → Option V
  | .agg cs => (toVs cs.toList).map .a
  | .tuple cs => if cs.size = 0 then some (.t []) else none
  | c => toV1 c

def rOpd : Operand → Option Opd
  | .tmp t => some (.t t)
  | .const v => (toV v).map .c
  | .func f => some (.c (.f (.func f) [] []))
  | .global _ => none
def rOpds : List Operand → Option (List Opd)
  | [] => some []
  | x :: r => match rOpd x, rOpds r with
    | some v, some vs => some (v :: vs)
    | _, _ => none
def rOpt : Option Operand → Option (Option Opd)
  | none => some none
  | some x => (rOpd x).map some

def szOf (P : Program) (t : TypeId) : Option Nat := (P.info? t).map (·.size)
/-- none: no such type; some none: one cell; some (some n): an aggregate of n cells -/
def aggOf (P : Program) (t : TypeId) : Option (Option Nat) :=
  match P.underlying t with
  | some (.struct _) => (szOf P t).map some
  | some (.array _ _) => (szOf P t).map some
  | some _ => some none
  | none => none
def zeroOf (P : Program) (t : TypeId) : Option V := (((P.info? t).bind (·.zero))).bind toV
def isInt (P : Program) (t : TypeId) : Bool := match P.underlying t with | some (.int _) => true | _ => false
def isBool (P : Program) (t : TypeId) : Bool := match P.underlying t with | some .bool => true | _ => false

def rBin (P : Program) (op : BinOp) (t : TypeId) (x y : Opd) : Option AOp :=
  if isInt P t then some (.bin op x y)
  else if isBool P t then match op with
    | .eql => some (.eqb false x y)
    | .neq => some (.eqb true x y)
    | _ => none
  else none

def rParts (fields : Array Field) (P : Program) : List (Nat × Operand) → Option (List (Nat × Nat × Opd))
  | [] => some []
  | (i, x) :: r => match fields[i]?, rOpd x, rParts fields P r with
    | some f, some o, some ps => (szOf P f.type).map fun s => (f.offset, s, o) :: ps
    | _, _, _ => none
def rPartsA (sz : Nat) : List (Nat × Operand) → Option (List (Nat × Nat × Opd))
  | [] => some []
  | (i, x) :: r => match rOpd x, rPartsA sz r with
    | some o, some ps => some ((i * sz, sz, o) :: ps)
    | _, _ => none
def rPartsE : List (Nat × Operand) → Option (List (Nat × Opd))
  | [] => some []
  | (i, x) :: r => match rOpd x, rPartsE r with
    | some o, some ps => some ((i, o) :: ps)
    | _, _ => none

def cellsZ : Option V → Option (List V)
  | some (.a cs) => some cs
  | some (.t _) => none
  | some .any => none
  | some v => some [v]
  | none => none

def rCall (P : Program) (c : Call) : Option AOp :=
  match c.callee, c.args.toList, c.argTypes.toList with
  | .builtin .len, [x], [t] => match P.underlying t with
    | some (.slice _) => (rOpd x).map .len
    | some (.map _ _) => (rOpd x).map .lenm
    | some (.array n _) => if (n : Int) ≤ IntKind.i64.max then some (.mv (.c (.i .i64 n))) else none
    | _ => none
  | .builtin .append, [x, y], [t, u] => match P.underlying t, P.underlying u with
    | some (.slice e), some (.slice _) => match rOpd x, rOpd y, P.info? e with
      | some x', some y', some i => if t = u ∧ i.bytes ≤ 4096 ∧ i.zero.map (fun z => z.cells.size) = some i.size then some (.append i.size i.bytes x' y') else none
      | _, _, _ => none
    | _, _ => none
  | .builtin .max, [x, y], _ => match rOpd x, rOpd y with | some x', some y' => some (.mmax x' y') | _, _ => none
  | .builtin .min, [x, y], _ => match rOpd x, rOpd y with | some x', some y' => some (.mmin x' y') | _, _ => none
  | .value (.func f), _, _ => (rOpds c.args.toList).map (.call f)
  | .value x, _, _ => match rOpd x, rOpds c.args.toList with | some x', some as => some (.callv x' as) | _, _ => none
  | _, _, _ => none

def rOp (P : Program) : Op → Option AOp
  | .move x => (rOpd x).map .mv
  | .assign x => (rOpd x).map .mv
  | .pick c a b => match rOpd c, rOpd a, rOpd b with | some c, some a, some b => some (.pick c a b) | _, _, _ => none
  | .box _ x => (rOpd x).map .box
  | .alloc e => (cellsZ (zeroOf P e)).map .alloc
  | .build t parts => match cellsZ (zeroOf P t), P.underlying t with
    | some z, some (.struct fields) => if fields.toList.all (fun f => (szOf P f.type).isSome) then (rParts fields P parts.toList).map (.build z) else none
    | some z, some (.array _ e) => (szOf P e).bind fun sz => (rPartsA sz parts.toList).map (.build z)
    | _, _ => none
  | .buildSlice t len parts => match P.underlying t with
    | some (.slice e) => match cellsZ (zeroOf P e), szOf P e with
      | some z, some sz => if z.length = sz ∧ 0 < sz ∧ 0 < len ∧ len * sz ≤ 2 ^ 24 then (rPartsE parts.toList).map (.bslice sz len z) else none
      | _, _ => none
    | _ => none
  | .load t x => match aggOf P t, rOpd x with | some a, some x => some (.load a x) | _, _ => none
  | .store t a x => match szOf P t, rOpd a, rOpd x with | some s, some a, some x => some (.store s a x) | _, _, _ => none
  | .binOp op t x y _ => match rOpd x, rOpd y with | some x, some y => rBin P op t x y | _, _ => none
  | .unOp .not _ x => (rOpd x).map .not
  | .unOp .neg t x => if isInt P t then (rOpd x).map (.neg false) else none
  | .unOp .xor t x => if isInt P t then (rOpd x).map (.neg true) else none
  | .convert s d x => match P.underlying s, P.underlying d with
    | some (.int _), some (.int k) => (rOpd x).map (.conv k)
    | _, _ => none
  | .makeInterface t x => match P.underlying t with
    | some (.interface _) => none
    | some _ => (rOpd x).map (.mkifc t)
    | none => none
  | .makeFunc (.func f) first cap => match rOpds first.toList, rOpds cap.toList with | some a, some b => some (.mkf (.func f) a b) | _, _ => none
  | .slice t x lo hi mx => match P.underlying t with
    | some (.slice e) => match szOf P e, rOpd x, rOpt lo, rOpt hi, rOpt mx with
      | some s, some x, some l, some h, some m => if 0 < s ∧ (m.isSome → h.isSome) then some (.slice s x l h m) else none
      | _, _, _, _, _ => none
    | _ => none
  | .fieldAddr s x f => match P.underlying s with
    | some (.struct fields) => match fields[f]? with
      | some fd => match szOf P fd.type with
        | some sz => if sz = 0 then none else (rOpd x).map (.faddr fd.offset)
        | none => none
      | none => none
    | _ => none
  | .field t x f => match P.underlying t with
    | some (.struct fields) => match fields[f]? with
      | some fd => match aggOf P fd.type, rOpd x with | some a, some x => some (.field a fd.offset x) | _, _ => none
      | none => none
    | _ => none
  | .indexAddr t x i => match P.underlying t with
    | some (.slice e) => match szOf P e, rOpd x, rOpd i with | some s, some x, some i => some (.iaddr s none x i) | _, _, _ => none
    | some (.array n e) => match szOf P e, rOpd x, rOpd i with | some s, some x, some i => some (.iaddr s (some n) x i) | _, _, _ => none
    | _ => none
  | .index t x i => match P.underlying t with
    | some (.array n e) => match szOf P e, aggOf P e, rOpd x, rOpd i with | some s, some a, some x, some i => some (.index n s a x i) | _, _, _, _ => none
    | _ => none
  | .extract x i => (rOpd x).map (.extract i)
  | .nilCheck x => (rOpd x).map .nilck
  | .typeAssert x _ t ok => match P.underlying t with
    | some (.interface _) => none
    | some _ => match rOpd x, zeroOf P t with | some x, some z => some (.tas t z ok x) | _, _ => none
    | none => none
  | .panic x => (rOpd x).map .panic
  | .call c => rCall P c
  | _ => none

/-! ### what 'does the same' says -/
def GoodV (Λ : Nat → Prop) (σ : Store) (w : World) (k kp : V → Store → Prop) : Result Value → Prop
  | .ok c w' => ∃ v σ', k v σ' ∧ VRel (Hh Λ σ' w') v c ∧ Rel Λ σ' w' ∧ Adv Λ σ w σ' w'
  | .halt (.panic c) w' => ∃ v σ', kp v σ' ∧ VRel (Hh Λ σ' w') v c ∧ Rel Λ σ' w' ∧ Adv Λ σ w σ' w'
  | _ => False
def Good (P : Program) (Λ : Nat → Prop) (σ : Store) (w : World) (k kp : V → Store → Prop) : Result Next → Prop
  | .ok (.value c) w' => ∃ v σ', k v σ' ∧ VRel (Hh Λ σ' w') v c ∧ Rel Λ σ' w' ∧ Adv Λ σ w σ' w'
  | .ok .skip w' => ∃ σ', k (.t []) σ' ∧ Rel Λ σ' w' ∧ Adv Λ σ w σ' w'
  | .ok (.enter f args) w' => Calls P f args w' fun e w'' => ∃ r σ', qk k kp r σ' ∧ RRel (Hh Λ σ' w'') r e ∧ Rel Λ σ' w'' ∧ Adv Λ σ w σ' w''
  | .ok (.round l f tmps assign body) w' => RoundIn Fence.wide 0 P l f tmps assign body w' fun e w'' => ∃ r σ', qk k kp r σ' ∧ RRel (Hh Λ σ' w'') r e ∧ Rel Λ σ' w'' ∧ Adv Λ σ w σ' w''
  | .halt (.panic c) w' => ∃ v σ', kp v σ' ∧ VRel (Hh Λ σ' w') v c ∧ Rel Λ σ' w' ∧ Adv Λ σ w σ' w'
  | _ => False
theorem good_of_v {P : Program} {Λ : Nat → Prop} {σ : Store} {w : World} {k kp : V → Store → Prop} {s : Sem Value} (h : GoodV Λ σ w k kp (s.run P w)) :
    Good P Λ σ w k kp ((do pure (.value (← s)) : Sem Next).run P w) := by
  simp only [Sem.run_bind]
  generalize s.run P w = r at *
  cases r with
  | ok c w' => exact h
  | halt x w' => cases x <;> first | exact h | exact h.elim
/-- the plain case: a value, nothing turned -/
theorem goodV_pure {Λ : Nat → Prop} {σ : Store} {w : World} {k kp : V → Store → Prop} (hR : Rel Λ σ w) {v : V} {c : Value} (hv : VRel (Hh Λ σ w) v c) (hk : k v σ) : GoodV Λ σ w k kp (.ok c w) :=
  ⟨v, σ, hk, hv, hR, Adv.refl _ _ _⟩

theorem goodV_k {Λ : Nat → Prop} {σ : Store} {w : World} {k kp : V → Store → Prop} (hR : Rel Λ σ w) {v : V} {c : Value} (hk : k v σ) (hv : VRel (Hh Λ σ w) v c) : GoodV Λ σ w k kp (.ok c w) :=
  goodV_pure hR hv hk

/-- the frame: what is known of the temporaries -/
def ERel (H : Nat → Nat → Option Value) (env : Env) (tmps : Array Value) : Prop := ∀ k v, get k env = some v → ∃ c, tmps[k]? = some c ∧ VRel H v c
theorem ERel.mono {H H' : Nat → Nat → Option Value} (hle : HLe H H') {env : Env} {tmps : Array Value} (h : ERel H env tmps) : ERel H' env tmps :=
  fun k v hv => let ⟨c, h1, h2⟩ := h k v hv; ⟨c, h1, h2.mono hle⟩

theorem toV1_rel {H : Nat → Nat → Option Value} {c : Value} {v : V} (h : toV1 c = some v) : VRel H v c := by
  unfold toV1 at h
  split at h <;> first
    | (cases h; simp [VRel]; done)
    | (split at h <;> first | (rename_i hc; cases h; simpa [VRel] using hc) | cases h)
    | cases h
  · exact ⟨none, 0, rfl, by simp, by simp, by simp [maxL], by simp, by simp⟩
theorem toVs_rel {H : Nat → Nat → Option Value} : ∀ {cs : List Value} {vs : List V}, toVs cs = some vs → cs.length = vs.length ∧ VsAt H (fun i => cs[i]?) 0 vs
  | [], vs, h => by cases h; exact ⟨rfl, trivial⟩
  | c :: cs, vs, h => by
    simp only [toVs] at h
    split at h
    · rename_i v vs' h1 h2
      cases h
      obtain ⟨h3, h4⟩ := toVs_rel (H := H) h2
      refine ⟨by simp [h3], ⟨c, by simp, toV1_rel h1⟩, ?_⟩
      exact vsAt_shift h4 (fun i _ => by rw [show 0 + 1 + i = i + 1 by omega]; simp)
    · cases h
theorem toV_rel {H : Nat → Nat → Option Value} {c : Value} {v : V} (h : toV c = some v) : VRel H v c := by
  unfold toV at h
  split at h
  · rename_i cs
    cases hq : toVs cs.toList with
    | none => rw [hq] at h; cases h
    | some vs =>
      rw [hq] at h
      cases h
      obtain ⟨h1, h2⟩ := toVs_rel (H := H) hq
      refine ⟨cs, rfl, by simpa using h1, vsAt_shift h2 (fun i _ => by simp)⟩
  · rename_i cs
    split at h
    · rename_i h0
      cases h
      exact ⟨cs, rfl, by simpa using h0, trivial⟩
    · cases h
  · exact toV1_rel h

theorem ev_rel {H : Nat → Nat → Option Value} {env : Env} {a : Act} (he : ERel H env a.tmps) {x : Operand} {o : Opd} (ho : rOpd x = some o) {v : V} (hv : ev env o = some v) : VRel H v (a.eval x) := by
  cases x with
  | tmp t =>
    cases ho
    obtain ⟨c, h1, h2⟩ := he t v hv
    simp only [Act.eval, Array.getD_eq_getD_getElem?, h1, Option.getD_some]
    exact h2
  | const c =>
    simp only [rOpd] at ho
    cases hq : toV c with
    | none => rw [hq] at ho; cases ho
    | some u =>
      rw [hq] at ho
      cases ho
      cases hv
      exact toV_rel hq
  | func f =>
    cases ho
    cases hv
    exact ⟨#[], #[], rfl, rfl, trivial, rfl, trivial⟩
  | global g => cases ho
theorem evs_rel {H : Nat → Nat → Option Value} {env : Env} {a : Act} (he : ERel H env a.tmps) : ∀ {xs : List Operand} {os : List Opd}, rOpds xs = some os → ∀ {vs : List V}, evs env os = some vs →
    xs.length = vs.length ∧ VsAt H (fun i => (xs.map a.eval)[i]?) 0 vs
  | [], os, ho, vs, hv => by cases ho; cases hv; exact ⟨rfl, trivial⟩
  | x :: xs, os, ho, vs, hv => by
    simp only [rOpds] at ho
    split at ho
    · rename_i o os' h1 h2
      cases ho
      simp only [evs] at hv
      split at hv
      · rename_i v vs' h3 h4
        cases hv
        obtain ⟨h5, h6⟩ := evs_rel he h2 h4
        refine ⟨by simp [h5], ⟨a.eval x, by simp, ev_rel he h1 h3⟩, ?_⟩
        exact vsAt_shift h6 (fun i _ => by rw [show 0 + 1 + i = i + 1 by omega]; simp)
      · cases hv
    · cases ho
theorem wv_elim {o : Option V} {k : V → Prop} (h : wv o k) : ∃ v, o = some v ∧ k v := by
  cases o with
  | none => exact h.elim
  | some v => exact ⟨v, rfl, h⟩
theorem ws_elim {o : Option (List V)} {k : List V → Prop} (h : ws o k) : ∃ v, o = some v ∧ k v := by
  cases o with
  | none => exact h.elim
  | some v => exact ⟨v, rfl, h⟩
theorem wr_elim {o : Option (List (List V))} {k : List (List V) → Prop} (h : wr o k) : ∃ v, o = some v ∧ k v := by
  cases o with
  | none => exact h.elim
  | some v => exact ⟨v, rfl, h⟩
theorem wo_elim {o : Option (Option V)} {k : Option V → Prop} (h : wo o k) : ∃ v, o = some v ∧ k v := by
  cases o with
  | none => exact h.elim
  | some v => exact ⟨v, rfl, h⟩
end Go.Gl
