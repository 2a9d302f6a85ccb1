/-
  GL 2: resolved operations, and what they come to on abstract values.
-/
import Derived.Test.YtfbhfdaljendcaaGreatGl1
set_option linter.all false
set_option linter.unusedVariables false
set_option linter.unusedSimpArgs false
namespace Go.Gl
abbrev Env := List (Nat × V)
def get (k : Nat) : Env → Option V
  | [] => none
  | (j, v) :: r => bif Nat.beq j k then some v else get k r
inductive Opd where
  | t (n : Nat)
  | c (v : V)
  deriving Inhabited
def ev (env : Env) : Opd → Option V
  | .t n => get n env
  | .c v => some v
def evs (env : Env) : List Opd → Option (List V)
  | [] => some []
  | x :: r => match ev env x, evs env r with
    | some v, some vs => some (v :: vs)
    | _, _ => none

def upd (σ : Store) (n : Nat) (o : O) : Store := fun k => if k = n then some o else σ k
def del (σ : Store) (n : Nat) : Store := fun k => if k = n then none else σ k

mutual
/-- what a value is once objects have been let go -/
inductive Frz (σ σ' : Store) : V → V → Prop
  | refl (v : V) : Frz σ σ' v v
  | arr {n sz cap len : Nat} {es es' : List (List V)} : σ n = some (.arr sz es cap) → σ' n = none → len = es.length → FrzR σ σ' es es' → Frz σ σ' (.sl n len cap) (.l es' false)
  | cs {n : Nat} {vs vs' : List V} : σ n = some (.cs vs) → σ' n = none → FrzL σ σ' vs vs' → Frz σ σ' (.p n 0) (.rp vs')
  | a {vs vs' : List V} : FrzL σ σ' vs vs' → Frz σ σ' (.a vs) (.a vs')
  | t {vs vs' : List V} : FrzL σ σ' vs vs' → Frz σ σ' (.t vs) (.t vs')
  | ifc {t : TypeId} {v v' : V} : Frz σ σ' v v' → Frz σ σ' (.ifc t v) (.ifc t v')
  | l {es es' : List (List V)} {f f' : Bool} : (f' = true → f = true) → FrzR σ σ' es es' → Frz σ σ' (.l es f) (.l es' f')
  | rp {vs vs' : List V} : FrzL σ σ' vs vs' → Frz σ σ' (.rp vs) (.rp vs')
  | f {fn : Fn} {a a' b b' : List V} : FrzL σ σ' a a' → FrzL σ σ' b b' → Frz σ σ' (.f fn a b) (.f fn a' b')
  | any {v : V} : Frz σ σ' v .any
inductive FrzL (σ σ' : Store) : List V → List V → Prop
  | nil : FrzL σ σ' [] []
  | cons {v v' : V} {vs vs' : List V} : Frz σ σ' v v' → FrzL σ σ' vs vs' → FrzL σ σ' (v :: vs) (v' :: vs')
inductive FrzR (σ σ' : Store) : List (List V) → List (List V) → Prop
  | nil : FrzR σ σ' [] []
  | cons {v v' : List V} {vs vs' : List (List V)} : FrzL σ σ' v v' → FrzR σ σ' vs vs' → FrzR σ σ' (v :: vs) (v' :: vs')
end

/-- what keys look like -/
inductive KS where
  | i (k : IntKind)
  | a (l : List IntKind)
  | s
  deriving Inhabited
/-- resolved operations: sizes and zero values in place of types -/
inductive AOp where
  | mv (x : Opd)
  | mvf (x : Opd)
  | pick (c a b : Opd)
  | bin (op : BinOp) (x y : Opd)
  | eqb (neg : Bool) (x y : Opd)
  | eqf (len : Nat) (neg : Bool) (x y : Opd)
  | eqn (kind : Nat) (neg : Bool) (x : Opd)
  | not (x : Opd)
  | neg (xor : Bool) (x : Opd)
  | conv (k : IntKind) (x : Opd)
  | box (x : Opd)
  | boxf (x : Opd)
  | appf (sz bytes : Nat) (x y : Opd)
  | alloc (zero : List V)
  | build (zero : List V) (parts : List (Nat × Nat × Opd))
  | bslice (sz len : Nat) (zero : List V) (parts : List (Nat × Opd))
  | load (agg : Option Nat) (x : Opd)
  | store (sz : Nat) (a x : Opd)
  | faddr (off : Nat) (x : Opd)
  | field (agg : Option Nat) (off : Nat) (x : Opd)
  | iaddr (sz : Nat) (arr : Option Nat) (x i : Opd)
  | index (len sz : Nat) (agg : Option Nat) (x i : Opd)
  | slice (sz : Nat) (x : Opd) (lo hi mx : Option Opd)
  | len (x : Opd)
  | lenm (x : Opd)
  | str (x : Opd)
  | sidx (x i : Opd)
  | append (sz bytes : Nat) (x y : Opd)
  | copy (sz : Nat) (x y : Opd)
  | mmax (x y : Opd)
  | mmin (x y : Opd)
  | extract (i : Nat) (x : Opd)
  | nilck (x : Opd)
  | mkf (f : Fn) (first cap : List Opd)
  | mkmap
  | mkslice (sz bytes : Nat) (zero : List V) (len cap : Opd)
  | lookup (ks : KS) (zero : V) (ok : Bool) (m k : Opd)
  | mapset (ks : KS) (m k v : Opd)
  | mkifc (t : TypeId) (x : Opd)
  | tas (t : TypeId) (zero : V) (ok : Bool) (x : Opd)
  | panic (x : Opd)
  | call (f : FuncId) (args : List Opd)
  | callp (f : FuncId) (args : List Opd)
  | callv (x : Opd) (args : List Opd)
  | callvp (x : Opd) (args : List Opd)
  | inv (tab : List (TypeId × FuncId)) (x : Opd) (args : List Opd)
  deriving Inhabited

abbrev wv (o : Option V) (k : V → Prop) : Prop := match o with | some v => k v | none => False
@[simp] theorem wv_some (v : V) (k : V → Prop) : wv (some v) k = k v := rfl
@[simp] theorem wv_none (k : V → Prop) : wv none k = False := rfl

def bits (op : BinOp) (k : IntKind) (x y : Int) : Int :=
  let a := BitVec.ofInt k.bits x
  let b := BitVec.ofInt k.bits y
  k.wrap (match op with
    | .and => a &&& b
    | .or => a ||| b
    | .xor => a ^^^ b
    | _ => a &&& ~~~b : BitVec k.bits).toNat

/-- a binary operation on integers; what is asked first -/
def kBin (op : BinOp) (x y : V) (k : V → Prop) : Prop :=
  match x, y with
  | .i ka a, .i kb b =>
    match op with
    | .add => ka = kb ∧ k (.i ka (ka.wrap (a + b)))
    | .sub => ka = kb ∧ k (.i ka (ka.wrap (a - b)))
    | .mul => ka = kb ∧ k (.i ka (ka.wrap (a * b)))
    | .quo => ka = kb ∧ b ≠ 0 ∧ k (.i ka (ka.wrap (a.tdiv b)))
    | .rem => ka = kb ∧ b ≠ 0 ∧ k (.i ka (a.tmod b))
    | .eql => ka = kb ∧ k (.b (a == b))
    | .neq => ka = kb ∧ k (.b (a != b))
    | .lss => ka = kb ∧ k (.b (decide (a < b)))
    | .leq => ka = kb ∧ k (.b (decide (a ≤ b)))
    | .gtr => ka = kb ∧ k (.b (decide (a > b)))
    | .geq => ka = kb ∧ k (.b (decide (a ≥ b)))
    | .shl => 0 ≤ b ∧ k (.i ka (ka.wrap (a * 2 ^ (min b.toNat ka.bits))))
    | .shr => 0 ≤ b ∧ k (.i ka (a.fdiv (2 ^ (min b.toNat ka.bits))))
    | op => ka = kb ∧ k (.i ka (bits op ka a b))
  | _, _ => False

/-- cells of a value -/
def cellsOf : V → Option (List V)
  | .a cs => some cs
  | .t _ => none
  | .any => none
  | v => some [v]
/-- may it lie in a cell -/
def oneV : V → Bool
  | .a _ => false
  | .t _ => false
  | .any => false
  | _ => true

def putAt : List V → Nat → List V → List V
  | cs, _, [] => cs
  | cs, o, v :: vs => putAt (cs.set o v) (o + 1) vs

def fillV (env : Env) : List V → List (Nat × Nat × Opd) → Option (List V)
  | cs, [] => some cs
  | cs, (off, sz, x) :: r =>
    match ev env x with
    | some v => match cellsOf v with
      | some vc => bif Nat.beq vc.length sz && Nat.ble (off + sz) cs.length then fillV env (putAt cs off vc) r else none
      | none => none
    | none => none
def fillE (env : Env) (sz : Nat) : List (List V) → List (Nat × Opd) → Option (List (List V))
  | es, [] => some es
  | es, (i, x) :: r =>
    match ev env x with
    | some v => match cellsOf v with
      | some vc => bif Nat.beq vc.length sz && Nat.blt i es.length then fillE env sz (es.set i vc) r else none
      | none => none
    | none => none

/-- what stands in so many cells from a place on: one value, or an aggregate -/
def cut (agg : Option Nat) (cs : List V) (off : Nat) (k : V → Prop) : Prop :=
  match agg with
  | none => match cs[off]? with | some v => k v | none => False
  | some n => off + n ≤ cs.length ∧ k (.a ((cs.drop off).take n))

def loadP (σ : Store) (n off : Nat) (agg : Option Nat) (k : V → Prop) : Prop :=
  match σ n with
  | some (.cs vs) => cut agg vs off k
  | _ => False
def loadE (σ : Store) (n sz i off : Nat) (agg : Option Nat) (k : V → Prop) : Prop :=
  match σ n with
  | some (.arr sz' es _) => sz = sz' ∧ match es[i]? with | some e => cut agg e off k | none => False
  | _ => False
def kLoad (σ : Store) (agg : Option Nat) (x : V) (k : V → Prop) : Prop :=
  match x with
  | .rp cs => cut agg cs 0 k
  | .p n off => loadP σ n off agg k
  | .pe n sz i off => loadE σ n sz i off agg k
  | _ => False

def kStore (σ : Store) (sz : Nat) (a x : V) (k : Store → Prop) : Prop :=
  match cellsOf x with
  | some vc =>
    vc.length = sz ∧ vc.all oneV = true ∧ match a with
    | .p n off => match σ n with
      | some (.cs vs) => off + sz ≤ vs.length ∧ k (upd σ n (.cs (putAt vs off vc)))
      | _ => False
    | .pe n s i off => match σ n with
      | some (.arr s' es cap) => s = s' ∧ match es[i]? with
        | some e => off + sz ≤ s ∧ k (upd σ n (.arr s (es.set i (putAt e off vc)) cap))
        | none => False
      | _ => False
    | _ => False
  | none => False

def kFaddr (off : Nat) (x : V) (k : V → Prop) : Prop :=
  match x with
  | .rp cs => k (.rp (cs.drop off))
  | .p n o => k (.p n (o + off))
  | .pe n sz i o => k (.pe n sz i (o + off))
  | _ => False

def kIaddr (sz : Nat) (arr : Option Nat) (x i : V) (k : V → Prop) : Prop :=
  match i with
  | .i _ j => match arr, x with
    | none, .l es _ => 0 ≤ j ∧ ∃ e, es[j.toNat]? = some e ∧ e.length = sz ∧ k (.rp e)
    | none, .sl n len _ => 0 ≤ j ∧ j < len ∧ k (.pe n sz j.toNat 0)
    | none, .sv n s off len => s = sz ∧ 0 ≤ j ∧ j < len ∧ k (.pe n sz (off + j.toNat) 0)
    | some m, .rp cs => 0 ≤ j ∧ j < m ∧ k (.rp (cs.drop (j.toNat * sz)))
    | some m, .p n o => 0 ≤ j ∧ j < m ∧ k (.p n (o + j.toNat * sz))
    | some m, .pe n s q o => 0 ≤ j ∧ j < m ∧ k (.pe n s q (o + j.toNat * sz))
    | _, _ => False
  | _ => False

def kIndex (len sz : Nat) (agg : Option Nat) (x i : V) (k : V → Prop) : Prop :=
  match x, i with
  | .a cs, .i _ j => 0 ≤ j ∧ j < len ∧ cut agg cs (j.toNat * sz) k
  | _, _ => False

/-- a byte of a string -/
def kSidx (x i : V) (k : V → Prop) : Prop :=
  match x, i with
  | .s b, .i _ j => 0 ≤ j ∧ match b.data.toList[j.toNat]? with | some c => k (.i .u8 c.toNat) | none => False
  | _, _ => False
def kLen (x : V) (k : V → Prop) : Prop :=
  match x with
  | .l es _ => k (.i .i64 es.length)
  | .sl _ len _ => len ≤ maxL ∧ k (.i .i64 len)
  | .sv _ _ _ len => len ≤ maxL ∧ k (.i .i64 len)
  | _ => False
def kLenM (σ : Store) (x : V) (k : V → Prop) : Prop :=
  match x with
  | .m n => match σ n with
    | some (.map kvs) => kvs.length ≤ maxL ∧ k (.i .i64 kvs.length)
    | _ => False
  | .mn => k (.i .i64 0)
  | _ => False

/-- what is appended, by value -/
def rowsOf (σ : Store) (sz : Nat) (y : V) (k : List (List V) → Prop) : Prop :=
  match y with
  | .l ys _ => (∀ e ∈ ys, e.length = sz) ∧ k ys
  | .sl m len _ => match σ m with
    | some (.arr s ys _) => s = sz ∧ len ≤ ys.length ∧ k (ys.take len)
    | _ => False
  | .sv m s off len => match σ m with
    | some (.arr s' ys _) => s = sz ∧ s' = sz ∧ off + len ≤ ys.length ∧ k ((ys.drop off).take len)
    | _ => False
  | _ => False

def numsOf : List (List V) → Option (List Int)
  | [] => some []
  | [.i .u8 n] :: r => match numsOf r with | some l => some (n :: l) | none => none
  | _ => none
/-- bytes as a string -/
def kStr (σ : Store) (x : V) (k : V → Prop) : Prop := rowsOf σ 1 x fun ys => match numsOf ys with | some ns => k (.s ⟨(ns.map fun n => UInt8.ofNat n.toNat).toArray⟩) | none => False
def kAppend (σ : Store) (sz : Nat) (x y : V) (k : V → Store → Prop) : Prop :=
  rowsOf σ sz y fun ys =>
  (∀ e ∈ ys, ∀ v ∈ e, oneV v = true) ∧ match x with
  | .l es full => (∀ e ∈ es, e.length = sz) ∧ es.length + ys.length ≤ maxL ∧ (ys = [] → k (.l es full) σ) ∧
      (ys ≠ [] → full = true ∧ ∀ n cap, σ n = none → es.length + ys.length ≤ cap → k (.sl n (es.length + ys.length) cap) (upd σ n (.arr sz (es ++ ys) cap)))
  | .sl n len cap => match σ n with
    | some (.arr s es c) => s = sz ∧ c = cap ∧ len = es.length ∧ es.length + ys.length ≤ maxL ∧
        ∀ n' cap', del σ n n' = none → es.length + ys.length ≤ cap' →
          k (.sl n' (es.length + ys.length) cap') (upd (del σ n) n' (.arr sz (es ++ ys) cap'))
    | _ => False
  | _ => False

/-- copy: rows into a part of an object -/
def kCpy (σ : Store) (sz : Nat) (ys : List (List V)) (n off len : Nat) (k : V → Store → Prop) : Prop :=
  match σ n with
  | some (.arr s es c) => s = sz ∧ off + len ≤ es.length ∧ k (.i .i64 (min ys.length len : Nat)) (upd σ n (.arr s (es.take off ++ (ys.take (min ys.length len) ++ es.drop (off + min ys.length len))) c))
  | _ => False
def kCopy (σ : Store) (sz : Nat) (x y : V) (k : V → Store → Prop) : Prop :=
  rowsOf σ sz y fun ys => (∀ e ∈ ys, ∀ v ∈ e, oneV v = true) ∧ match x with
  | .sl n len _ => kCpy σ sz ys n 0 len k
  | .sv n s off len => s = sz ∧ kCpy σ sz ys n off len k
  | _ => False

/-- append whose result nobody changes again -/
def kAppf (σ : Store) (sz : Nat) (x y : V) (k : V → Prop) : Prop :=
  rowsOf σ sz y fun ys =>
  (∀ e ∈ ys, ∀ v ∈ e, oneV v = true) ∧ match x with
  | .l es full => (∀ e ∈ es, e.length = sz) ∧ es.length + ys.length ≤ maxL ∧ (ys ≠ [] → full = true) ∧ k (.l (es ++ ys) false)
  | _ => False

/-- the bounds of a slice expression -/
def bnd (o : Option V) (d : Int) (k : Int → Prop) : Prop :=
  match o with
  | none => k d
  | some (.i _ n) => k n
  | _ => False

def kSlice (σ : Store) (sz : Nat) (x : V) (lo hi mx : Option V) (k : V → Store → Prop) : Prop :=
  match x with
  | .l es full => (∀ e ∈ es, e.length = sz) ∧ bnd hi es.length fun h => bnd lo 0 fun l => 0 ≤ l ∧ l ≤ h ∧ h ≤ es.length ∧
      match mx with
      | none => k (.l ((es.take h.toNat).drop l.toNat) (full && decide (h = es.length))) σ
      | some (.i _ m) => m = h ∧ k (.l ((es.take h.toNat).drop l.toNat) true) σ
      | _ => False
  | .sl n len cap => bnd hi len fun h => bnd lo 0 fun l => 0 ≤ l ∧ l ≤ h ∧ h ≤ len ∧
      match mx with
      | none => k (.sv n sz l.toNat (h - l).toNat) σ
      | some (.i _ m) => m = h ∧ h = len ∧ l = 0 ∧ match σ n with
        | some (.arr s es c) => s = sz ∧ c = cap ∧ len = es.length ∧ (k (.l es true) (del σ n) ∨ k (.sl n len len) (upd σ n (.arr s es len)))
        | _ => False
      | _ => False
  | .sv n s off len => bnd hi len fun h => bnd lo 0 fun l => 0 ≤ l ∧ l ≤ h ∧ h ≤ len ∧ s = sz ∧ mx = none ∧ k (.sv n sz (off + l.toNat) (h - l).toNat) σ
  | _ => False

def optEv (env : Env) : Option Opd → Option (Option V)
  | none => some none
  | some x => match ev env x with | some v => some (some v) | none => none
abbrev wo (o : Option (Option V)) (k : Option V → Prop) : Prop := match o with | some v => k v | none => False
@[simp] theorem wo_some (v : Option V) (k : Option V → Prop) : wo (some v) k = k v := rfl
abbrev ws (o : Option (List V)) (k : List V → Prop) : Prop := match o with | some v => k v | none => False
@[simp] theorem ws_some (v : List V) (k : List V → Prop) : ws (some v) k = k v := rfl
abbrev wr (o : Option (List (List V))) (k : List (List V) → Prop) : Prop := match o with | some v => k v | none => False
@[simp] theorem wr_some (v : List (List V)) (k : List (List V) → Prop) : wr (some v) k = k v := rfl

/-- cells that are integers, one by one -/
def eqCells : List V → List V → Option Bool
  | [], [] => some true
  | .i k a :: r, .i k' b :: s => if k = k' then (eqCells r s).map ((a == b) && ·) else none
  | _, _ => none
def kEqf (len : Nat) (neg : Bool) (x y : V) (k : V → Prop) : Prop :=
  match x, y with
  | .a cs, .a ds => match Nat.beq cs.length len, eqCells cs ds with | true, some t => k (.b (bif neg then !t else t)) | _, _ => False
  | _, _ => False
/-- is it nil (an empty slice: nobody knows) -/
def kEqn (kind : Nat) (neg : Bool) (x : V) (k : V → Prop) : Prop :=
  match kind, x with
  | 0, .pn => k (.b (!neg))
  | 0, .rp _ | 0, .p _ _ | 0, .pe _ _ _ _ => k (.b neg)
  | 1, .sl _ _ _ => k (.b neg)
  | 1, .l es _ => (es = [] → ∀ t, k (.b t)) ∧ (es ≠ [] → k (.b neg))
  | 2, .inil => k (.b (!neg))
  | 2, .ifc _ _ => k (.b neg)
  | 3, .mn => k (.b (!neg))
  | 3, .m _ => k (.b neg)
  | 4, .fnil => k (.b (!neg))
  | 4, .f _ _ _ => k (.b neg)
  | _, _ => False
def kMkslice (σ : Store) (sz : Nat) (z : List V) (x y : V) (k : V → Store → Prop) : Prop :=
  match x, y with
  | .i _ n, .i _ m => 0 ≤ n ∧ n ≤ m ∧ m ≤ maxL ∧ ∀ id, σ id = none → k (.sl id n.toNat m.toNat) (upd σ id (.arr sz (List.replicate n.toNat z) m.toNat))
  | _, _ => False

/-! maps: keys are integers, or so many cells of integers -/
def kindsB : List IntKind → List V → Bool
  | [], [] => true
  | q :: l, .i q' _ :: cs => decide (q = q') && kindsB l cs
  | _, _ => false
def keyOkV (ks : KS) (v : V) : Bool :=
  match ks, v with
  | .i k, .i k' _ => decide (k = k')
  | .a l, .a cs => kindsB l cs
  | .s, .s b => Nat.ble b.size 1048576
  | _, _ => false
def eqKey (x y : V) : Bool :=
  match x, y with
  | .i _ a, .i _ b => a == b
  | .s b, .s c => decide (b = c)
  | .a cs, .a ds => (eqCells cs ds).getD false
  | _, _ => false
def kvFind (key : V) : List (V × V) → Option V
  | [] => none
  | (k, v) :: r => bif eqKey key k then some v else kvFind key r
def kvPut (key val : V) : List (V × V) → List (V × V)
  | [] => [(key, val)]
  | (k, v) :: r => bif eqKey key k then (key, val) :: r else (k, v) :: kvPut key val r
def found (z : V) (ok : Bool) (o : Option V) : V := match o with | some v => bif ok then .t [v, .b true] else v | none => bif ok then .t [z, .b false] else z
def kLookup (σ : Store) (ks : KS) (z : V) (ok : Bool) (vm vk : V) (k : V → Prop) : Prop :=
  keyOkV ks vk = true ∧ match vm with
  | .m n => match σ n with
    | some (.map kvs) => (∀ kv ∈ kvs, keyOkV ks kv.1 = true) ∧ k (found z ok (kvFind vk kvs))
    | _ => False
  | .mn => k (found z ok none)
  | _ => False
def kMapset (σ : Store) (ks : KS) (vm vk vv : V) (k : Store → Prop) : Prop :=
  keyOkV ks vk = true ∧ match vm with
  | .m n => match σ n with
    | some (.map kvs) => (∀ kv ∈ kvs, keyOkV ks kv.1 = true) ∧ k (upd σ n (.map (kvPut vk vv kvs)))
    | _ => False
  | _ => False

/-- endings of calls -/
inductive R where
  | ret (v : V)
  | pan (v : V)

def RRel (H : Nat → Nat → Option Value) : R → Ending → Prop
  | .ret v, e => ∃ c, e = .returned c ∧ VRel H v c
  | .pan v, e => ∃ c, e = .panicked [{ v := c, recovered := false }] ∧ VRel H v c

/-- may a call of this number enter its body -/
def okF (P : Program) (f : FuncId) : Bool :=
  match P.funcs[f]? with
  | some fn => fn.body.isSome && fn.name != "runtime.NumGoroutine"
  | none => false

def VsL (H : Nat → Nat → Option Value) (vs : List V) (cs : Array Value) : Prop := cs.size = vs.length ∧ VsAt H (fun i => cs[i]?) 0 vs

/-- **the contract**: what a call of f with such arguments, over such objects, comes to -/
def Ctr (P : Program) (f : FuncId) (args : List V) (σ : Store) (Q : R → Store → Prop) : Prop :=
  okF P f = true ∧ ∀ (Λ : Nat → Prop) (w : World) (cs : Array Value), Rel Λ σ w → VsL (Hh Λ σ w) args cs →
    Calls P f cs w fun e w' => ∃ r σ', Q r σ' ∧ RRel (Hh Λ σ' w') r e ∧ Rel Λ σ' w' ∧ Adv Λ σ w σ' w'

/-- the contract of a round of the loop l over a function: what a call of its yield comes to -/
def CtrY (P : Program) (l : Nat) (args : List V) (σ : Store) (Q : R → Store → Prop) : Prop :=
  ∀ (Λ : Nat → Prop) (w : World) (cs : Array Value), Rel Λ σ w → VsL (Hh Λ σ w) args cs →
    ∃ f tmps assign body, (Instr.yield l cs).run P w = .ok (.round l f tmps assign body) w ∧
      RoundIn Fence.wide 0 P l f tmps assign body w fun e w' => ∃ r σ', Q r σ' ∧ RRel (Hh Λ σ' w') r e ∧ Rel Λ σ' w' ∧ Adv Λ σ w σ' w'
/-- the contract of a call of a function value -/
def CtrF (P : Program) (x : V) (args : List V) (σ : Store) (Q : R → Store → Prop) : Prop :=
  match x with
  | .f (.func f) first cap => Ctr P f (first ++ args ++ cap) σ Q
  | .f (.yield l) [] [] => CtrY P l args σ Q
  | _ => False

def look (t : TypeId) : List (TypeId × FuncId) → Option FuncId
  | [] => none
  | (u, f) :: r => bif Nat.beq u t then some f else look t r
/-- the contract of a call of a method of an interface's value -/
def CtrI (P : Program) (tab : List (TypeId × FuncId)) (x : V) (args : List V) (σ : Store) (Q : R → Store → Prop) : Prop :=
  match x with
  | .ifc t v => match look t tab with
    | some f => Ctr P f (v :: args) σ Q
    | none => False
  | _ => False

def qk (k kp : V → Store → Prop) : R → Store → Prop
  | .ret v, σ => k v σ
  | .pan v, σ => kp v σ

/-- what one operation comes to -/
def Top (P : Program) (o : AOp) (env : Env) (σ : Store) (k kp : V → Store → Prop) : Prop :=
  match o with
  | .mv x => wv (ev env x) fun v => k v σ
  | .mvf x => wv (ev env x) fun v => ∃ vf σ2, Sub σ2 σ ∧ Frz σ σ2 v vf ∧ k vf σ2
  | .pick c a b => wv (ev env c) fun vc => wv (ev env a) fun va => wv (ev env b) fun vb =>
      match vc with | .b t => (match va, vb with | .b x, .b y => k (.b (bif t then x else y)) σ | _, _ => k (bif t then va else vb) σ) | _ => False
  | .bin op x y => wv (ev env x) fun vx => wv (ev env y) fun vy => kBin op vx vy fun v => k v σ
  | .eqb neg x y => wv (ev env x) fun vx => wv (ev env y) fun vy =>
      match vx, vy with | .b p, .b q => k (.b (bif neg then p != q else p == q)) σ | _, _ => False
  | .not x => wv (ev env x) fun vx => match vx with | .b p => k (.b (!p)) σ | _ => False
  | .neg xor x => wv (ev env x) fun vx => match vx with
      | .i ka a => k (.i ka (bif xor then bits .xor ka (bif ka.signed then -1 else ka.max) a else ka.wrap (0 - a))) σ
      | _ => False
  | .conv ka x => wv (ev env x) fun vx => match vx with | .i _ a => k (.i ka (ka.wrap a)) σ | _ => False
  | .box x => wv (ev env x) fun vx => match cellsOf vx with
      | some cs => ∀ n, σ n = none → k (.p n 0) (upd σ n (.cs cs))
      | none => False
  | .boxf x => wv (ev env x) fun vx => match cellsOf vx with
      | some cs => k (.rp cs) σ
      | none => False
  | .appf sz _ x y => wv (ev env x) fun vx => wv (ev env y) fun vy => kAppf σ sz vx vy fun v => k v σ
  | .alloc z => ∀ n, σ n = none → k (.p n 0) (upd σ n (.cs z))
  | .build z parts => ws (fillV env z parts) fun cs => k (.a cs) σ
  | .bslice _ len z parts => wr (fillE env z.length (List.replicate len z) parts) fun es => k (.l es true) σ
  | .load agg x => wv (ev env x) fun vx => kLoad σ agg vx fun v => k v σ
  | .store sz a x => wv (ev env a) fun va => wv (ev env x) fun vx => kStore σ sz va vx fun σ' => k (.t []) σ'
  | .faddr off x => wv (ev env x) fun vx => kFaddr off vx fun v => k v σ
  | .field agg off x => wv (ev env x) fun vx => match vx with | .a cs => cut agg cs off fun v => k v σ | _ => False
  | .iaddr sz arr x i => wv (ev env x) fun vx => wv (ev env i) fun vi => kIaddr sz arr vx vi fun v => k v σ
  | .index len sz agg x i => wv (ev env x) fun vx => wv (ev env i) fun vi => kIndex len sz agg vx vi fun v => k v σ
  | .slice sz x lo hi mx => wv (ev env x) fun vx => wo (optEv env lo) fun l => wo (optEv env hi) fun h => wo (optEv env mx) fun m => kSlice σ sz vx l h m k
  | .len x => wv (ev env x) fun vx => kLen vx fun v => k v σ
  | .lenm x => wv (ev env x) fun vx => kLenM σ vx fun v => k v σ
  | .sidx x i => wv (ev env x) fun vx => wv (ev env i) fun vi => kSidx vx vi fun v => k v σ
  | .str x => wv (ev env x) fun vx => kStr σ vx fun v => k v σ
  | .append sz _ x y => wv (ev env x) fun vx => wv (ev env y) fun vy => kAppend σ sz vx vy k
  | .copy sz x y => wv (ev env x) fun vx => wv (ev env y) fun vy => kCopy σ sz vx vy k
  | .mmax x y => wv (ev env x) fun vx => wv (ev env y) fun vy => match vx, vy with
      | .i ka a, .i kb b => ka = kb ∧ k (.i ka (if b > a then b else a)) σ
      | _, _ => False
  | .mmin x y => wv (ev env x) fun vx => wv (ev env y) fun vy => match vx, vy with
      | .i ka a, .i kb b => ka = kb ∧ k (.i ka (if b < a then b else a)) σ
      | _, _ => False
  | .extract i x => wv (ev env x) fun vx => match vx with | .t vs => (match vs[i]? with | some v => k v σ | none => False) | _ => False
  | .nilck x => wv (ev env x) fun vx => match vx with
      | .p n off => k (.p n off) σ
      | .rp cs => k (.rp cs) σ
      | .pe n sz i off => k (.pe n sz i off) σ
      | .f (.func f) first cap => k (.f (.func f) first cap) σ
      | .f (.yield l) first cap => k (.f (.yield l) first cap) σ
      | _ => False
  | .mkf f first cap => ws (evs env first) fun vf => ws (evs env cap) fun vc => k (.f f vf vc) σ
  | .mkifc t x => wv (ev env x) fun vx => k (.ifc t vx) σ
  | .tas t z ok x => wv (ev env x) fun vx => match vx with
      | .ifc t' v => (t' = t → k (bif ok then .t [v, .b true] else v) σ) ∧ (t' ≠ t → ok = true ∧ k (.t [z, .b false]) σ)
      | .inil => ok = true ∧ k (.t [z, .b false]) σ
      | _ => False
  | .panic x => wv (ev env x) fun vx => match vx with | .ifc t v => kp (.ifc t v) σ | _ => False
  | .call f args => ws (evs env args) fun vs => Ctr P f vs σ (qk k kp)
  | .eqf len neg x y => wv (ev env x) fun vx => wv (ev env y) fun vy => kEqf len neg vx vy fun v => k v σ
  | .eqn kind neg x => wv (ev env x) fun vx => kEqn kind neg vx fun v => k v σ
  | .mkslice sz _ z x y => wv (ev env x) fun vx => wv (ev env y) fun vy => kMkslice σ sz z vx vy k
  | .mkmap => ∀ n, σ n = none → k (.m n) (upd σ n (.map []))
  | .lookup ks z ok m key => wv (ev env m) fun vm => wv (ev env key) fun vk => kLookup σ ks z ok vm vk fun v => k v σ
  | .mapset ks m key x => wv (ev env m) fun vm => wv (ev env key) fun vk => wv (ev env x) fun vx => kMapset σ ks vm vk vx fun σ' => k (.t []) σ'
  | .callp f args => ws (evs env args) fun vs => ∃ v, Ctr P f vs (fun _ => none) (fun r σ' => r = .ret v ∧ σ' = fun _ => none) ∧ k v σ
  | .callv x args => wv (ev env x) fun vx => ws (evs env args) fun vs => CtrF P vx vs σ (qk k kp)
  | .inv tab x args => wv (ev env x) fun vx => ws (evs env args) fun vs => CtrI P tab vx vs σ (qk k kp)
  | _ => False
end Go.Gl
