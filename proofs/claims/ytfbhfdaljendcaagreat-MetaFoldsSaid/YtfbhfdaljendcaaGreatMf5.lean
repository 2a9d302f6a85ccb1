/-
  MF 5: what the statement asks of folds.
-/
import Derived.Test.YtfbhfdaljendcaaGreatGl23
import Derived.Test.YtfbhfdaljendcaaGreatMf0
set_option linter.all false
set_option linter.unusedVariables false
set_option linter.unusedSimpArgs false
/-
  MF 1: contracts of the functions of the statement MetaFolds.
-/
namespace Go.Gl
open Go.Proofs
theorem callvP {P : Program} {g : FuncId} {cap vs : List V} {v : V} {σ : Store} {k kp : V → Store → Prop} (h : Pure P g (vs ++ cap) v) (hk : k v σ) : CtrF P (.f (.func g) [] cap) vs σ (qk k kp) := by
  show Ctr P g ([] ++ vs ++ cap) σ (qk k kp)
  rw [List.nil_append]
  exact h.use hk
attribute [local irreducible] Ctr Done DoneP kIaddr kAppend kAppf kSlice kStore kMkslice kCopy kLookup kMapset CtrF CtrI Sat kLoad kLen LoopR W
/-- a value: its kind, its number -/
abbrev MV := Int × Int
abbrev eM (v : MV) : List V := [.i .i64 v.1, .i .i64 v.2]
def valM (v : MV) (objs : Int) : Bool := bif v.1 == 1 then decide (-1000000000 ≤ v.2) && decide (v.2 ≤ 1000000000) else bif v.1 == 2 then v.2 == 0 else bif v.1 == 3 then decide (0 ≤ v.2) && decide (v.2 < objs) else false
def countM (v : MV) : Int := bif v.1 == 1 then v.2 else 0
theorem val75 (v : MV) (objs : Int) : Pure Tryz.prog 75 [.a (eM v), eI objs] (.b (valM v objs)) := by
  refine ctr75 (Nat.le_of_ble_eq_true rfl) ?_
  try (conv => whnf)
  repeat' ((first | refine st ?_ | (refine sq ?_; intro K hK) | (refine si ?_; intro A B hA hB) | (refine hA _ _ ?_; clear hB B hA A) | (refine hB _ _ _ ?_; clear hB B hA A) | (refine hB _ _ fun σ hsub => ?_; clear hB B hA A) | (refine hK _ _ ?_; clear hK K) | refine dr ?_ | refine rk ?_ ?_ | exact fun s e => by cases e; rfl | refine ⟨rfl, ?_⟩ | refine ⟨Nat.le_of_ble_eq_true rfl, ?_⟩ | refine ix ?_ | refine ixF ?_ | refine sk1 ?_ | refine iq fun x hx => ?_ | refine ld ?_ | refine s1 fun σ hs => ?_ | refine sn fun σ hs => ?_ | refine oi ?_ | refine oc ?_ | refine ol fun x hx => ?_ | refine oset fun σ hs => ?_ | refine ap fun v σ hs => ?_ | refine af ?_ | (refine fc (fun x hx hlt hc => ?_) (fun hk hc => ?_) <;> (try rw [hc]) <;> clear hc) | refine Pure.use (formed78 _) ?_ | refine Pure.use (count124 _) ?_ | refine Pure.use (counts22 _) ?_ | refine Pure.use (number83 _) ?_ | refine Pure.use (clamp84 _) ?_ | refine Pure.use (int26 _) ?_ | refine Pure.use (num126 _) ?_ | refine Pure.use (isFold76 _) ?_ | refine Pure.use (enough81 _ _) ?_ | refine Pure.use (val75 _ _) ?_ | refine callvP (hg _) ?_ | refine Pure.use (index79 _ _ hl hg) ?_ | (constructor <;> intro hc <;> (try rw [hc]) <;> (replace hc := bp hc) <;> (try simp (disch := omega) only [List.length_map, wrap64, ctr_eq] at hc) <;> try (exfalso; omega)) | (intro nn hnn; generalize hg : upd _ nn _ = σ; refine al hg fun hs => ?_; clear hg) | refine Pure.use (by assumption) ?_ | clear hK K) <;> try (conv => whnf))
  all_goals exact Done_eq (by simp [valM, *] <;> omega)
theorem counts22 (v : MV) : Pure Tryz.prog 22 [.a (eM v)] (eI (countM v)) := by
  refine ctr22 (Nat.le_of_ble_eq_true rfl) ?_
  try (conv => whnf)
  repeat' ((first | refine st ?_ | (refine sq ?_; intro K hK) | (refine si ?_; intro A B hA hB) | (refine hA _ _ ?_; clear hB B hA A) | (refine hB _ _ _ ?_; clear hB B hA A) | (refine hB _ _ fun σ hsub => ?_; clear hB B hA A) | (refine hK _ _ ?_; clear hK K) | refine dr ?_ | refine rk ?_ ?_ | exact fun s e => by cases e; rfl | refine ⟨rfl, ?_⟩ | refine ⟨Nat.le_of_ble_eq_true rfl, ?_⟩ | refine ix ?_ | refine ixF ?_ | refine sk1 ?_ | refine iq fun x hx => ?_ | refine ld ?_ | refine s1 fun σ hs => ?_ | refine sn fun σ hs => ?_ | refine oi ?_ | refine oc ?_ | refine ol fun x hx => ?_ | refine oset fun σ hs => ?_ | refine ap fun v σ hs => ?_ | refine af ?_ | (refine fc (fun x hx hlt hc => ?_) (fun hk hc => ?_) <;> (try rw [hc]) <;> clear hc) | refine Pure.use (formed78 _) ?_ | refine Pure.use (count124 _) ?_ | refine Pure.use (counts22 _) ?_ | refine Pure.use (number83 _) ?_ | refine Pure.use (clamp84 _) ?_ | refine Pure.use (int26 _) ?_ | refine Pure.use (num126 _) ?_ | refine Pure.use (isFold76 _) ?_ | refine Pure.use (enough81 _ _) ?_ | refine Pure.use (val75 _ _) ?_ | refine callvP (hg _) ?_ | refine Pure.use (index79 _ _ hl hg) ?_ | (constructor <;> intro hc <;> (try rw [hc]) <;> (replace hc := bp hc) <;> (try simp (disch := omega) only [List.length_map, wrap64, ctr_eq] at hc) <;> try (exfalso; omega)) | (intro nn hnn; generalize hg : upd _ nn _ = σ; refine al hg fun hs => ?_; clear hg) | refine Pure.use (by assumption) ?_ | clear hK K) <;> try (conv => whnf))
  all_goals exact Done_eq (by first | (simp [countM, *]; done) | (simp only [countM, beq_false_of_ne ‹_ ≠ _›]; rfl))
theorem number83 (v : MV) : Pure Tryz.prog 83 [.a (eM v)] (eI (countM v)) := by
  refine ctr83 (Nat.le_of_ble_eq_true rfl) ?_
  try (conv => whnf)
  repeat' ((first | refine st ?_ | (refine sq ?_; intro K hK) | (refine si ?_; intro A B hA hB) | (refine hA _ _ ?_; clear hB B hA A) | (refine hB _ _ _ ?_; clear hB B hA A) | (refine hB _ _ fun σ hsub => ?_; clear hB B hA A) | (refine hK _ _ ?_; clear hK K) | refine dr ?_ | refine rk ?_ ?_ | exact fun s e => by cases e; rfl | refine ⟨rfl, ?_⟩ | refine ⟨Nat.le_of_ble_eq_true rfl, ?_⟩ | refine ix ?_ | refine ixF ?_ | refine sk1 ?_ | refine iq fun x hx => ?_ | refine ld ?_ | refine s1 fun σ hs => ?_ | refine sn fun σ hs => ?_ | refine oi ?_ | refine oc ?_ | refine ol fun x hx => ?_ | refine oset fun σ hs => ?_ | refine ap fun v σ hs => ?_ | refine af ?_ | (refine fc (fun x hx hlt hc => ?_) (fun hk hc => ?_) <;> (try rw [hc]) <;> clear hc) | refine Pure.use (formed78 _) ?_ | refine Pure.use (count124 _) ?_ | refine Pure.use (counts22 _) ?_ | refine Pure.use (number83 _) ?_ | refine Pure.use (clamp84 _) ?_ | refine Pure.use (int26 _) ?_ | refine Pure.use (num126 _) ?_ | refine Pure.use (isFold76 _) ?_ | refine Pure.use (enough81 _ _) ?_ | refine Pure.use (val75 _ _) ?_ | refine callvP (hg _) ?_ | refine Pure.use (index79 _ _ hl hg) ?_ | (constructor <;> intro hc <;> (try rw [hc]) <;> (replace hc := bp hc) <;> (try simp (disch := omega) only [List.length_map, wrap64, ctr_eq] at hc) <;> try (exfalso; omega)) | (intro nn hnn; generalize hg : upd _ nn _ = σ; refine al hg fun hs => ?_; clear hg) | refine Pure.use (by assumption) ?_ | clear hK K) <;> try (conv => whnf))
  all_goals exact Done_eq (by first | (simp [countM, *]; done) | (simp only [countM, beq_false_of_ne ‹_ ≠ _›]; rfl))
theorem count124 (v : MV) : Pure Tryz.prog 124 [.a (eM v)] (eI (countM v)) := by
  refine ctr124 (Nat.le_of_ble_eq_true rfl) ?_
  try (conv => whnf)
  repeat' ((first | refine st ?_ | (refine sq ?_; intro K hK) | (refine si ?_; intro A B hA hB) | (refine hA _ _ ?_; clear hB B hA A) | (refine hB _ _ _ ?_; clear hB B hA A) | (refine hB _ _ fun σ hsub => ?_; clear hB B hA A) | (refine hK _ _ ?_; clear hK K) | refine dr ?_ | refine rk ?_ ?_ | exact fun s e => by cases e; rfl | refine ⟨rfl, ?_⟩ | refine ⟨Nat.le_of_ble_eq_true rfl, ?_⟩ | refine ix ?_ | refine ixF ?_ | refine sk1 ?_ | refine iq fun x hx => ?_ | refine ld ?_ | refine s1 fun σ hs => ?_ | refine sn fun σ hs => ?_ | refine oi ?_ | refine oc ?_ | refine ol fun x hx => ?_ | refine oset fun σ hs => ?_ | refine ap fun v σ hs => ?_ | refine af ?_ | (refine fc (fun x hx hlt hc => ?_) (fun hk hc => ?_) <;> (try rw [hc]) <;> clear hc) | refine Pure.use (formed78 _) ?_ | refine Pure.use (count124 _) ?_ | refine Pure.use (counts22 _) ?_ | refine Pure.use (number83 _) ?_ | refine Pure.use (clamp84 _) ?_ | refine Pure.use (int26 _) ?_ | refine Pure.use (num126 _) ?_ | refine Pure.use (isFold76 _) ?_ | refine Pure.use (enough81 _ _) ?_ | refine Pure.use (val75 _ _) ?_ | refine callvP (hg _) ?_ | refine Pure.use (index79 _ _ hl hg) ?_ | (constructor <;> intro hc <;> (try rw [hc]) <;> (replace hc := bp hc) <;> (try simp (disch := omega) only [List.length_map, wrap64, ctr_eq] at hc) <;> try (exfalso; omega)) | (intro nn hnn; generalize hg : upd _ nn _ = σ; refine al hg fun hs => ?_; clear hg) | refine Pure.use (by assumption) ?_ | clear hK K) <;> try (conv => whnf))
  all_goals exact Done_eq (by first | (simp [countM, *]; done) | (simp only [countM, beq_false_of_ne ‹_ ≠ _›]; rfl))
def clampM (n : Int) : Int := min (max n (-1000000000)) 1000000000
theorem clamp84 (n : Int) : Pure Tryz.prog 84 [eI n] (eI (clampM n)) := by
  refine ctr84 (Nat.le_of_ble_eq_true rfl) ?_
  try (conv => whnf)
  repeat' ((first | refine st ?_ | (refine sq ?_; intro K hK) | (refine si ?_; intro A B hA hB) | (refine hA _ _ ?_; clear hB B hA A) | (refine hB _ _ _ ?_; clear hB B hA A) | (refine hB _ _ fun σ hsub => ?_; clear hB B hA A) | (refine hK _ _ ?_; clear hK K) | refine dr ?_ | refine rk ?_ ?_ | exact fun s e => by cases e; rfl | refine ⟨rfl, ?_⟩ | refine ⟨Nat.le_of_ble_eq_true rfl, ?_⟩ | refine ix ?_ | refine ixF ?_ | refine sk1 ?_ | refine iq fun x hx => ?_ | refine ld ?_ | refine s1 fun σ hs => ?_ | refine sn fun σ hs => ?_ | refine oi ?_ | refine oc ?_ | refine ol fun x hx => ?_ | refine oset fun σ hs => ?_ | refine ap fun v σ hs => ?_ | refine af ?_ | (refine fc (fun x hx hlt hc => ?_) (fun hk hc => ?_) <;> (try rw [hc]) <;> clear hc) | refine Pure.use (formed78 _) ?_ | refine Pure.use (count124 _) ?_ | refine Pure.use (counts22 _) ?_ | refine Pure.use (number83 _) ?_ | refine Pure.use (clamp84 _) ?_ | refine Pure.use (int26 _) ?_ | refine Pure.use (num126 _) ?_ | refine Pure.use (isFold76 _) ?_ | refine Pure.use (enough81 _ _) ?_ | refine Pure.use (val75 _ _) ?_ | refine callvP (hg _) ?_ | refine Pure.use (index79 _ _ hl hg) ?_ | (constructor <;> intro hc <;> (try rw [hc]) <;> (replace hc := bp hc) <;> (try simp (disch := omega) only [List.length_map, wrap64, ctr_eq] at hc) <;> try (exfalso; omega)) | (intro nn hnn; generalize hg : upd _ nn _ = σ; refine al hg fun hs => ?_; clear hg) | refine Pure.use (by assumption) ?_ | clear hK K) <;> try (conv => whnf))
  refine Done_eq (congrArg (V.i _) ?_)
  simp only [clampM]
  omega
theorem int26 (n : Int) : Pure Tryz.prog 26 [eI n] (.a (eM (1, n))) := by
  refine ctr26 (Nat.le_of_ble_eq_true rfl) ?_
  have hs : Sat emp [] := Sat.nil
  try (conv => whnf)
  repeat' ((first | refine st ?_ | (refine sq ?_; intro K hK) | (refine si ?_; intro A B hA hB) | (refine hA _ _ ?_; clear hB B hA A) | (refine hB _ _ _ ?_; clear hB B hA A) | (refine hB _ _ fun σ hsub => ?_; clear hB B hA A) | (refine hK _ _ ?_; clear hK K) | refine dr ?_ | refine rk ?_ ?_ | exact fun s e => by cases e; rfl | refine ⟨rfl, ?_⟩ | refine ⟨Nat.le_of_ble_eq_true rfl, ?_⟩ | refine ix ?_ | refine ixF ?_ | refine sk1 ?_ | refine iq fun x hx => ?_ | refine ld ?_ | refine s1 fun σ hs => ?_ | refine sn fun σ hs => ?_ | refine oi ?_ | refine oc ?_ | refine ol fun x hx => ?_ | refine oset fun σ hs => ?_ | refine ap fun v σ hs => ?_ | refine af ?_ | (refine fc (fun x hx hlt hc => ?_) (fun hk hc => ?_) <;> (try rw [hc]) <;> clear hc) | refine Pure.use (formed78 _) ?_ | refine Pure.use (count124 _) ?_ | refine Pure.use (counts22 _) ?_ | refine Pure.use (number83 _) ?_ | refine Pure.use (clamp84 _) ?_ | refine Pure.use (int26 _) ?_ | refine Pure.use (num126 _) ?_ | refine Pure.use (isFold76 _) ?_ | refine Pure.use (enough81 _ _) ?_ | refine Pure.use (val75 _ _) ?_ | refine callvP (hg _) ?_ | refine Pure.use (index79 _ _ hl hg) ?_ | (constructor <;> intro hc <;> (try rw [hc]) <;> (replace hc := bp hc) <;> (try simp (disch := omega) only [List.length_map, wrap64, ctr_eq] at hc) <;> try (exfalso; omega)) | (intro nn hnn; generalize hg : upd _ nn _ = σ; refine al hg fun hs => ?_; clear hg) | refine Pure.use (by assumption) ?_ | clear hK K) <;> try (conv => whnf))
  exact Done_eq rfl
theorem clamp_eq (n : Int) : (if 1000000000 < (if -1000000000 > n then -1000000000 else n) then 1000000000 else (if -1000000000 > n then -1000000000 else n)) = clampM n := by
  simp only [clampM]
  omega
theorem num126 (n : Int) : Pure Tryz.prog 126 [eI n] (.a (eM (1, clampM n))) := by
  refine ctr126 (Nat.le_of_ble_eq_true rfl) ?_
  have hs : Sat emp [] := Sat.nil
  try (conv => whnf)
  repeat' ((first | refine st ?_ | (refine sq ?_; intro K hK) | (refine si ?_; intro A B hA hB) | (refine hA _ _ ?_; clear hB B hA A) | (refine hB _ _ _ ?_; clear hB B hA A) | (refine hB _ _ fun σ hsub => ?_; clear hB B hA A) | (refine hK _ _ ?_; clear hK K) | refine dr ?_ | refine rk ?_ ?_ | exact fun s e => by cases e; rfl | refine ⟨rfl, ?_⟩ | refine ⟨Nat.le_of_ble_eq_true rfl, ?_⟩ | refine ix ?_ | refine ixF ?_ | refine sk1 ?_ | refine iq fun x hx => ?_ | refine ld ?_ | refine s1 fun σ hs => ?_ | refine sn fun σ hs => ?_ | refine oi ?_ | refine oc ?_ | refine ol fun x hx => ?_ | refine oset fun σ hs => ?_ | refine ap fun v σ hs => ?_ | refine af ?_ | (refine fc (fun x hx hlt hc => ?_) (fun hk hc => ?_) <;> (try rw [hc]) <;> clear hc) | refine Pure.use (formed78 _) ?_ | refine Pure.use (count124 _) ?_ | refine Pure.use (counts22 _) ?_ | refine Pure.use (number83 _) ?_ | refine Pure.use (clamp84 _) ?_ | refine Pure.use (int26 _) ?_ | refine Pure.use (num126 _) ?_ | refine Pure.use (isFold76 _) ?_ | refine Pure.use (enough81 _ _) ?_ | refine Pure.use (val75 _ _) ?_ | refine callvP (hg _) ?_ | refine Pure.use (index79 _ _ hl hg) ?_ | (constructor <;> intro hc <;> (try rw [hc]) <;> (replace hc := bp hc) <;> (try simp (disch := omega) only [List.length_map, wrap64, ctr_eq] at hc) <;> try (exfalso; omega)) | (intro nn hnn; generalize hg : upd _ nn _ = σ; refine al hg fun hs => ?_; clear hg) | refine Pure.use (by assumption) ?_ | clear hK K) <;> try (conv => whnf))
  rw [clamp_eq]
  exact Done_eq rfl
theorem isFold76 (f : Int) : Pure Tryz.prog 76 [eI f] (.b (decide (1 ≤ f) && decide (f ≤ 6))) := by
  refine ctr76 (Nat.le_of_ble_eq_true rfl) ?_
  try (conv => whnf)
  repeat' ((first | refine st ?_ | (refine sq ?_; intro K hK) | (refine si ?_; intro A B hA hB) | (refine hA _ _ ?_; clear hB B hA A) | (refine hB _ _ _ ?_; clear hB B hA A) | (refine hB _ _ fun σ hsub => ?_; clear hB B hA A) | (refine hK _ _ ?_; clear hK K) | refine dr ?_ | refine rk ?_ ?_ | exact fun s e => by cases e; rfl | refine ⟨rfl, ?_⟩ | refine ⟨Nat.le_of_ble_eq_true rfl, ?_⟩ | refine ix ?_ | refine ixF ?_ | refine sk1 ?_ | refine iq fun x hx => ?_ | refine ld ?_ | refine s1 fun σ hs => ?_ | refine sn fun σ hs => ?_ | refine oi ?_ | refine oc ?_ | refine ol fun x hx => ?_ | refine oset fun σ hs => ?_ | refine ap fun v σ hs => ?_ | refine af ?_ | (refine fc (fun x hx hlt hc => ?_) (fun hk hc => ?_) <;> (try rw [hc]) <;> clear hc) | refine Pure.use (formed78 _) ?_ | refine Pure.use (count124 _) ?_ | refine Pure.use (counts22 _) ?_ | refine Pure.use (number83 _) ?_ | refine Pure.use (clamp84 _) ?_ | refine Pure.use (int26 _) ?_ | refine Pure.use (num126 _) ?_ | refine Pure.use (isFold76 _) ?_ | refine Pure.use (enough81 _ _) ?_ | refine Pure.use (val75 _ _) ?_ | refine callvP (hg _) ?_ | refine Pure.use (index79 _ _ hl hg) ?_ | (constructor <;> intro hc <;> (try rw [hc]) <;> (replace hc := bp hc) <;> (try simp (disch := omega) only [List.length_map, wrap64, ctr_eq] at hc) <;> try (exfalso; omega)) | (intro nn hnn; generalize hg : upd _ nn _ = σ; refine al hg fun hs => ?_; clear hg) | refine Pure.use (by assumption) ?_ | clear hK K) <;> try (conv => whnf))
  all_goals exact Done_eq (by simp [*] <;> omega)
theorem formed78 (v : MV) : Pure Tryz.prog 78 [.a (eM v)] (.b (valM v 40)) := by
  refine ctr78 (Nat.le_of_ble_eq_true rfl) ?_
  try (conv => whnf)
  repeat' ((first | refine st ?_ | (refine sq ?_; intro K hK) | (refine si ?_; intro A B hA hB) | (refine hA _ _ ?_; clear hB B hA A) | (refine hB _ _ _ ?_; clear hB B hA A) | (refine hB _ _ fun σ hsub => ?_; clear hB B hA A) | (refine hK _ _ ?_; clear hK K) | refine dr ?_ | refine rk ?_ ?_ | exact fun s e => by cases e; rfl | refine ⟨rfl, ?_⟩ | refine ⟨Nat.le_of_ble_eq_true rfl, ?_⟩ | refine ix ?_ | refine ixF ?_ | refine sk1 ?_ | refine iq fun x hx => ?_ | refine ld ?_ | refine s1 fun σ hs => ?_ | refine sn fun σ hs => ?_ | refine oi ?_ | refine oc ?_ | refine ol fun x hx => ?_ | refine oset fun σ hs => ?_ | refine ap fun v σ hs => ?_ | refine af ?_ | (refine fc (fun x hx hlt hc => ?_) (fun hk hc => ?_) <;> (try rw [hc]) <;> clear hc) | refine Pure.use (formed78 _) ?_ | refine Pure.use (count124 _) ?_ | refine Pure.use (counts22 _) ?_ | refine Pure.use (number83 _) ?_ | refine Pure.use (clamp84 _) ?_ | refine Pure.use (int26 _) ?_ | refine Pure.use (num126 _) ?_ | refine Pure.use (isFold76 _) ?_ | refine Pure.use (enough81 _ _) ?_ | refine Pure.use (val75 _ _) ?_ | refine callvP (hg _) ?_ | refine Pure.use (index79 _ _ hl hg) ?_ | (constructor <;> intro hc <;> (try rw [hc]) <;> (replace hc := bp hc) <;> (try simp (disch := omega) only [List.length_map, wrap64, ctr_eq] at hc) <;> try (exfalso; omega)) | (intro nn hnn; generalize hg : upd _ nn _ = σ; refine al hg fun hs => ?_; clear hg) | refine Pure.use (by assumption) ?_ | clear hK K) <;> try (conv => whnf))
  all_goals exact Done_eq (by simp [valM, *] <;> omega)
theorem un77 (v : MV) : Pure Tryz.prog 77 [.a (eM v)] (.b (!valM v 40)) := by
  refine ctr77 (Nat.le_of_ble_eq_true rfl) ?_
  try (conv => whnf)
  repeat' ((first | refine st ?_ | (refine sq ?_; intro K hK) | (refine si ?_; intro A B hA hB) | (refine hA _ _ ?_; clear hB B hA A) | (refine hB _ _ _ ?_; clear hB B hA A) | (refine hB _ _ fun σ hsub => ?_; clear hB B hA A) | (refine hK _ _ ?_; clear hK K) | refine dr ?_ | refine rk ?_ ?_ | exact fun s e => by cases e; rfl | refine ⟨rfl, ?_⟩ | refine ⟨Nat.le_of_ble_eq_true rfl, ?_⟩ | refine ix ?_ | refine ixF ?_ | refine sk1 ?_ | refine iq fun x hx => ?_ | refine ld ?_ | refine s1 fun σ hs => ?_ | refine sn fun σ hs => ?_ | refine oi ?_ | refine oc ?_ | refine ol fun x hx => ?_ | refine oset fun σ hs => ?_ | refine ap fun v σ hs => ?_ | refine af ?_ | (refine fc (fun x hx hlt hc => ?_) (fun hk hc => ?_) <;> (try rw [hc]) <;> clear hc) | refine Pure.use (formed78 _) ?_ | refine Pure.use (count124 _) ?_ | refine Pure.use (counts22 _) ?_ | refine Pure.use (number83 _) ?_ | refine Pure.use (clamp84 _) ?_ | refine Pure.use (int26 _) ?_ | refine Pure.use (num126 _) ?_ | refine Pure.use (isFold76 _) ?_ | refine Pure.use (enough81 _ _) ?_ | refine Pure.use (val75 _ _) ?_ | refine callvP (hg _) ?_ | refine Pure.use (index79 _ _ hl hg) ?_ | (constructor <;> intro hc <;> (try rw [hc]) <;> (replace hc := bp hc) <;> (try simp (disch := omega) only [List.length_map, wrap64, ctr_eq] at hc) <;> try (exfalso; omega)) | (intro nn hnn; generalize hg : upd _ nn _ = σ; refine al hg fun hs => ?_; clear hg) | refine Pure.use (by assumption) ?_ | clear hK K) <;> try (conv => whnf))
  all_goals exact Done_eq rfl
def enoughM (f : Int) (v : MV) : Bool := f == 1 || (f == 5 && countM v == 0 || f == 6 && countM v != 0)
theorem enough81 (f : Int) (v : MV) : Pure Tryz.prog 81 [eI f, .a (eM v)] (.b (enoughM f v)) := by
  refine ctr81 (Nat.le_of_ble_eq_true rfl) ?_
  try (conv => whnf)
  repeat' ((first | refine st ?_ | (refine sq ?_; intro K hK) | (refine si ?_; intro A B hA hB) | (refine hA _ _ ?_; clear hB B hA A) | (refine hB _ _ _ ?_; clear hB B hA A) | (refine hB _ _ fun σ hsub => ?_; clear hB B hA A) | (refine hK _ _ ?_; clear hK K) | refine dr ?_ | refine rk ?_ ?_ | exact fun s e => by cases e; rfl | refine ⟨rfl, ?_⟩ | refine ⟨Nat.le_of_ble_eq_true rfl, ?_⟩ | refine ix ?_ | refine ixF ?_ | refine sk1 ?_ | refine iq fun x hx => ?_ | refine ld ?_ | refine s1 fun σ hs => ?_ | refine sn fun σ hs => ?_ | refine oi ?_ | refine oc ?_ | refine ol fun x hx => ?_ | refine oset fun σ hs => ?_ | refine ap fun v σ hs => ?_ | refine af ?_ | (refine fc (fun x hx hlt hc => ?_) (fun hk hc => ?_) <;> (try rw [hc]) <;> clear hc) | refine Pure.use (formed78 _) ?_ | refine Pure.use (count124 _) ?_ | refine Pure.use (counts22 _) ?_ | refine Pure.use (number83 _) ?_ | refine Pure.use (clamp84 _) ?_ | refine Pure.use (int26 _) ?_ | refine Pure.use (num126 _) ?_ | refine Pure.use (isFold76 _) ?_ | refine Pure.use (enough81 _ _) ?_ | refine Pure.use (val75 _ _) ?_ | refine callvP (hg _) ?_ | refine Pure.use (index79 _ _ hl hg) ?_ | (constructor <;> intro hc <;> (try rw [hc]) <;> (replace hc := bp hc) <;> (try simp (disch := omega) only [List.length_map, wrap64, ctr_eq] at hc) <;> try (exfalso; omega)) | (intro nn hnn; generalize hg : upd _ nn _ = σ; refine al hg fun hs => ?_; clear hg) | refine Pure.use (by assumption) ?_ | clear hK K) <;> try (conv => whnf))
  all_goals first | (exfalso; cases hc; done) | (exact Done_eq (by simp [enoughM, *]; done)) | (refine Done_eq ?_; simp_all [enoughM])
theorem eM_len (v : MV) : (eM v).length = 2 := rfl
/-- the first place where something is so, from a place on -/
def idxF (p : MV → Bool) : Nat → List MV → Int
  | _, [] => -1
  | k, v :: r => bif p v then (k : Int) else idxF p (k + 1) r
theorem idx_none {p : MV → Bool} : ∀ (l : List MV) (k : Nat), (l.any p = false ↔ idxF p k l = -1) ∧ (l.any p = true ↔ 0 ≤ idxF p k l)
  | [], k => by simp [idxF]
  | v :: r, k => by
    have ih := idx_none (p := p) r (k + 1)
    simp only [List.any_cons, idxF]
    cases hp : p v with
    | true => simp <;> omega
    | false => simpa using ih
theorem index79 (l : List MV) (fl : Bool) (hl : l.length ≤ maxL) {g : FuncId} {cap : List V} {p : MV → Bool} (hg : ∀ v, Pure Tryz.prog g (.a (eM v) :: cap) (.b (p v))) :
    Pure Tryz.prog 79 [.l (l.map eM) fl, .f (.func g) [] cap] (eI (idxF p 0 l)) := by
  refine ctr79 (Nat.le_of_ble_eq_true rfl) ?_
  have hs : Sat emp [] := Sat.nil
  try (conv => whnf)
  repeat' ((first | refine st ?_ | (refine sq ?_; intro K hK) | (refine si ?_; intro A B hA hB) | (refine hA _ _ ?_; clear hB B hA A) | (refine hB _ _ _ ?_; clear hB B hA A) | (refine hB _ _ fun σ hsub => ?_; clear hB B hA A) | (refine hK _ _ ?_; clear hK K) | refine dr ?_ | refine rk ?_ ?_ | exact fun s e => by cases e; rfl | refine ⟨rfl, ?_⟩ | refine ⟨Nat.le_of_ble_eq_true rfl, ?_⟩ | refine ix ?_ | refine ixF ?_ | refine sk1 ?_ | refine iq fun x hx => ?_ | refine ld ?_ | refine s1 fun σ hs => ?_ | refine sn fun σ hs => ?_ | refine oi ?_ | refine oc ?_ | refine ol fun x hx => ?_ | refine oset fun σ hs => ?_ | refine ap fun v σ hs => ?_ | refine af ?_ | (refine fc (fun x hx hlt hc => ?_) (fun hk hc => ?_) <;> (try rw [hc]) <;> clear hc) | refine Pure.use (formed78 _) ?_ | refine Pure.use (count124 _) ?_ | refine Pure.use (counts22 _) ?_ | refine Pure.use (number83 _) ?_ | refine Pure.use (clamp84 _) ?_ | refine Pure.use (int26 _) ?_ | refine Pure.use (num126 _) ?_ | refine Pure.use (isFold76 _) ?_ | refine Pure.use (enough81 _ _) ?_ | refine Pure.use (val75 _ _) ?_ | refine callvP (hg _) ?_ | refine Pure.use (index79 _ _ hl hg) ?_ | (constructor <;> intro hc <;> (try rw [hc]) <;> (replace hc := bp hc) <;> (try simp (disch := omega) only [List.length_map, wrap64, ctr_eq] at hc) <;> try (exfalso; omega)) | (intro nn hnn; generalize hg : upd _ nn _ = σ; refine al hg fun hs => ?_; clear hg) | refine Pure.use (by assumption) ?_ | clear hK K) <;> try (conv => whnf))
  refine upH l.length (fun k (_ : Unit) => [(8, eI (ctr k))]) (fun _ _ => []) (fun k _ => idxF p 0 l = idxF p k (l.drop k)) () rfl (by simp) hs ?_
  rintro k - σ hk hn -
  try (conv => whnf)
  repeat' ((first | refine st ?_ | (refine sq ?_; intro K hK) | (refine si ?_; intro A B hA hB) | (refine hA _ _ ?_; clear hB B hA A) | (refine hB _ _ _ ?_; clear hB B hA A) | (refine hB _ _ fun σ hsub => ?_; clear hB B hA A) | (refine hK _ _ ?_; clear hK K) | refine dr ?_ | refine rk ?_ ?_ | exact fun s e => by cases e; rfl | refine ⟨rfl, ?_⟩ | refine ⟨Nat.le_of_ble_eq_true rfl, ?_⟩ | refine ix ?_ | refine ixF ?_ | refine sk1 ?_ | refine iq fun x hx => ?_ | refine ld ?_ | refine s1 fun σ hs => ?_ | refine sn fun σ hs => ?_ | refine oi ?_ | refine oc ?_ | refine ol fun x hx => ?_ | refine oset fun σ hs => ?_ | refine ap fun v σ hs => ?_ | refine af ?_ | (refine fc (fun x hx hlt hc => ?_) (fun hk hc => ?_) <;> (try rw [hc]) <;> clear hc) | refine Pure.use (formed78 _) ?_ | refine Pure.use (count124 _) ?_ | refine Pure.use (counts22 _) ?_ | refine Pure.use (number83 _) ?_ | refine Pure.use (clamp84 _) ?_ | refine Pure.use (int26 _) ?_ | refine Pure.use (num126 _) ?_ | refine Pure.use (isFold76 _) ?_ | refine Pure.use (enough81 _ _) ?_ | refine Pure.use (val75 _ _) ?_ | refine callvP (hg _) ?_ | refine Pure.use (index79 _ _ hl hg) ?_ | (constructor <;> intro hc <;> (try rw [hc]) <;> (replace hc := bp hc) <;> (try simp (disch := omega) only [List.length_map, wrap64, ctr_eq] at hc) <;> try (exfalso; omega)) | (intro nn hnn; generalize hg : upd _ nn _ = σ; refine al hg fun hs => ?_; clear hg) | refine Pure.use (by assumption) ?_ | clear hK K) <;> try (conv => whnf))
  · rw [drop_cons hx, idxF, hc] at hn
    exact Done_eq (by rw [hn, ctr_eq (by omega)]; rfl)
  · rw [drop_cons hx, idxF, hc] at hn
    exact ⟨hlt, (), rfl, hn, Sat.nil⟩
  · rw [drop_all hk] at hn
    exact Done_eq (by rw [hn]; rfl)
theorem contains24 (l : List MV) (fl : Bool) (hl : l.length ≤ maxL) {g : FuncId} {cap : List V} {p : MV → Bool} (hg : ∀ v, Pure Tryz.prog g (.a (eM v) :: cap) (.b (p v))) :
    Pure Tryz.prog 24 [.l (l.map eM) fl, .f (.func g) [] cap] (.b (l.any p)) := by
  refine ctr24 (Nat.le_of_ble_eq_true rfl) ?_
  have hs : Sat emp [] := Sat.nil
  try (conv => whnf)
  repeat' ((first | refine st ?_ | (refine sq ?_; intro K hK) | (refine si ?_; intro A B hA hB) | (refine hA _ _ ?_; clear hB B hA A) | (refine hB _ _ _ ?_; clear hB B hA A) | (refine hB _ _ fun σ hsub => ?_; clear hB B hA A) | (refine hK _ _ ?_; clear hK K) | refine dr ?_ | refine rk ?_ ?_ | exact fun s e => by cases e; rfl | refine ⟨rfl, ?_⟩ | refine ⟨Nat.le_of_ble_eq_true rfl, ?_⟩ | refine ix ?_ | refine ixF ?_ | refine sk1 ?_ | refine iq fun x hx => ?_ | refine ld ?_ | refine s1 fun σ hs => ?_ | refine sn fun σ hs => ?_ | refine oi ?_ | refine oc ?_ | refine ol fun x hx => ?_ | refine oset fun σ hs => ?_ | refine ap fun v σ hs => ?_ | refine af ?_ | (refine fc (fun x hx hlt hc => ?_) (fun hk hc => ?_) <;> (try rw [hc]) <;> clear hc) | refine Pure.use (formed78 _) ?_ | refine Pure.use (count124 _) ?_ | refine Pure.use (counts22 _) ?_ | refine Pure.use (number83 _) ?_ | refine Pure.use (clamp84 _) ?_ | refine Pure.use (int26 _) ?_ | refine Pure.use (num126 _) ?_ | refine Pure.use (isFold76 _) ?_ | refine Pure.use (enough81 _ _) ?_ | refine Pure.use (val75 _ _) ?_ | refine callvP (hg _) ?_ | refine Pure.use (index79 _ _ hl hg) ?_ | (constructor <;> intro hc <;> (try rw [hc]) <;> (replace hc := bp hc) <;> (try simp (disch := omega) only [List.length_map, wrap64, ctr_eq] at hc) <;> try (exfalso; omega)) | (intro nn hnn; generalize hg : upd _ nn _ = σ; refine al hg fun hs => ?_; clear hg) | refine Pure.use (by assumption) ?_ | clear hK K) <;> try (conv => whnf))
  have := idx_none (p := p) l 0
  cases ha : l.any p
  · exact Done_eq (by simp [this.1.1 ha])
  · exact Done_eq (by simpa using this.2.1 ha)
theorem vals19 (l : List MV) (fl : Bool) (hl : l.length ≤ maxL) (objs : Int) : Pure Tryz.prog 19 [.l (l.map eM) fl, eI objs] (.b (l.all fun v => valM v objs)) := by
  refine ctr19 (Nat.le_of_ble_eq_true rfl) ?_
  have hs : Sat emp [] := Sat.nil
  try (conv => whnf)
  repeat' ((first | refine st ?_ | (refine sq ?_; intro K hK) | (refine si ?_; intro A B hA hB) | (refine hA _ _ ?_; clear hB B hA A) | (refine hB _ _ _ ?_; clear hB B hA A) | (refine hB _ _ fun σ hsub => ?_; clear hB B hA A) | (refine hK _ _ ?_; clear hK K) | refine dr ?_ | refine rk ?_ ?_ | exact fun s e => by cases e; rfl | refine ⟨rfl, ?_⟩ | refine ⟨Nat.le_of_ble_eq_true rfl, ?_⟩ | refine ix ?_ | refine ixF ?_ | refine sk1 ?_ | refine iq fun x hx => ?_ | refine ld ?_ | refine s1 fun σ hs => ?_ | refine sn fun σ hs => ?_ | refine oi ?_ | refine oc ?_ | refine ol fun x hx => ?_ | refine oset fun σ hs => ?_ | refine ap fun v σ hs => ?_ | refine af ?_ | (refine fc (fun x hx hlt hc => ?_) (fun hk hc => ?_) <;> (try rw [hc]) <;> clear hc) | refine Pure.use (formed78 _) ?_ | refine Pure.use (count124 _) ?_ | refine Pure.use (counts22 _) ?_ | refine Pure.use (number83 _) ?_ | refine Pure.use (clamp84 _) ?_ | refine Pure.use (int26 _) ?_ | refine Pure.use (num126 _) ?_ | refine Pure.use (isFold76 _) ?_ | refine Pure.use (enough81 _ _) ?_ | refine Pure.use (val75 _ _) ?_ | refine callvP (hg _) ?_ | refine Pure.use (index79 _ _ hl hg) ?_ | (constructor <;> intro hc <;> (try rw [hc]) <;> (replace hc := bp hc) <;> (try simp (disch := omega) only [List.length_map, wrap64, ctr_eq] at hc) <;> try (exfalso; omega)) | (intro nn hnn; generalize hg : upd _ nn _ = σ; refine al hg fun hs => ?_; clear hg) | refine Pure.use (by assumption) ?_ | clear hK K) <;> try (conv => whnf))
  refine upH l.length (fun k (_ : Unit) => [(9, eI (ctr k))]) (fun _ _ => []) (fun k _ => l.all (fun v => valM v objs) = (l.drop k).all fun v => valM v objs) () rfl (by simp) hs ?_
  rintro k - σ hk hn hs
  try (conv => whnf)
  repeat' ((first | refine st ?_ | (refine sq ?_; intro K hK) | (refine si ?_; intro A B hA hB) | (refine hA _ _ ?_; clear hB B hA A) | (refine hB _ _ _ ?_; clear hB B hA A) | (refine hB _ _ fun σ hsub => ?_; clear hB B hA A) | (refine hK _ _ ?_; clear hK K) | refine dr ?_ | refine rk ?_ ?_ | exact fun s e => by cases e; rfl | refine ⟨rfl, ?_⟩ | refine ⟨Nat.le_of_ble_eq_true rfl, ?_⟩ | refine ix ?_ | refine ixF ?_ | refine sk1 ?_ | refine iq fun x hx => ?_ | refine ld ?_ | refine s1 fun σ hs => ?_ | refine sn fun σ hs => ?_ | refine oi ?_ | refine oc ?_ | refine ol fun x hx => ?_ | refine oset fun σ hs => ?_ | refine ap fun v σ hs => ?_ | refine af ?_ | (refine fc (fun x hx hlt hc => ?_) (fun hk hc => ?_) <;> (try rw [hc]) <;> clear hc) | refine Pure.use (formed78 _) ?_ | refine Pure.use (count124 _) ?_ | refine Pure.use (counts22 _) ?_ | refine Pure.use (number83 _) ?_ | refine Pure.use (clamp84 _) ?_ | refine Pure.use (int26 _) ?_ | refine Pure.use (num126 _) ?_ | refine Pure.use (isFold76 _) ?_ | refine Pure.use (enough81 _ _) ?_ | refine Pure.use (val75 _ _) ?_ | refine callvP (hg _) ?_ | refine Pure.use (index79 _ _ hl hg) ?_ | (constructor <;> intro hc <;> (try rw [hc]) <;> (replace hc := bp hc) <;> (try simp (disch := omega) only [List.length_map, wrap64, ctr_eq] at hc) <;> try (exfalso; omega)) | (intro nn hnn; generalize hg : upd _ nn _ = σ; refine al hg fun hs => ?_; clear hg) | refine Pure.use (by assumption) ?_ | clear hK K) <;> try (conv => whnf))
  · rw [drop_cons hx, List.all_cons, hc] at hn
    exact Done_eq (by rw [hn]; rfl)
  · rw [drop_cons hx, List.all_cons, hc, Bool.true_and] at hn
    exact ⟨hlt, (), rfl, hn, Sat.nil⟩
  · rw [drop_all hk] at hn
    exact Done_eq (by rw [hn]; rfl)
theorem add125 (a b : Int) (h1 : -1000000000 ≤ a) (h2 : a ≤ 1000000000) (h3 : -1000000000 ≤ b) (h4 : b ≤ 1000000000) : Pure Tryz.prog 125 [eI a, eI b] (eI (clampM (a + b))) := by
  refine ctr125 (Nat.le_of_ble_eq_true rfl) ?_
  have hs : Sat emp [] := Sat.nil
  try (conv => whnf)
  repeat' ((first | refine st ?_ | (refine sq ?_; intro K hK) | (refine si ?_; intro A B hA hB) | (refine hA _ _ ?_; clear hB B hA A) | (refine hB _ _ _ ?_; clear hB B hA A) | (refine hB _ _ fun σ hsub => ?_; clear hB B hA A) | (refine hK _ _ ?_; clear hK K) | refine dr ?_ | refine rk ?_ ?_ | exact fun s e => by cases e; rfl | refine ⟨rfl, ?_⟩ | refine ⟨Nat.le_of_ble_eq_true rfl, ?_⟩ | refine ix ?_ | refine ixF ?_ | refine sk1 ?_ | refine iq fun x hx => ?_ | refine ld ?_ | refine s1 fun σ hs => ?_ | refine sn fun σ hs => ?_ | refine oi ?_ | refine oc ?_ | refine ol fun x hx => ?_ | refine oset fun σ hs => ?_ | refine ap fun v σ hs => ?_ | refine af ?_ | (refine fc (fun x hx hlt hc => ?_) (fun hk hc => ?_) <;> (try rw [hc]) <;> clear hc) | refine Pure.use (formed78 _) ?_ | refine Pure.use (count124 _) ?_ | refine Pure.use (counts22 _) ?_ | refine Pure.use (number83 _) ?_ | refine Pure.use (clamp84 _) ?_ | refine Pure.use (int26 _) ?_ | refine Pure.use (num126 _) ?_ | refine Pure.use (isFold76 _) ?_ | refine Pure.use (enough81 _ _) ?_ | refine Pure.use (val75 _ _) ?_ | refine callvP (hg _) ?_ | refine Pure.use (index79 _ _ hl hg) ?_ | (constructor <;> intro hc <;> (try rw [hc]) <;> (replace hc := bp hc) <;> (try simp (disch := omega) only [List.length_map, wrap64, ctr_eq] at hc) <;> try (exfalso; omega)) | (intro nn hnn; generalize hg : upd _ nn _ = σ; refine al hg fun hs => ?_; clear hg) | refine Pure.use (by assumption) ?_ | clear hK K) <;> try (conv => whnf))
  rw [wrap64 (by omega) (by omega)]
  exact Done_eq rfl
theorem min127 (a b : Int) : Pure Tryz.prog 127 [eI a, eI b] (eI (min a b)) := by
  refine ctr127 (Nat.le_of_ble_eq_true rfl) ?_
  have hs : Sat emp [] := Sat.nil
  try (conv => whnf)
  repeat' ((first | refine st ?_ | (refine sq ?_; intro K hK) | (refine si ?_; intro A B hA hB) | (refine hA _ _ ?_; clear hB B hA A) | (refine hB _ _ _ ?_; clear hB B hA A) | (refine hB _ _ fun σ hsub => ?_; clear hB B hA A) | (refine hK _ _ ?_; clear hK K) | refine dr ?_ | refine rk ?_ ?_ | exact fun s e => by cases e; rfl | refine ⟨rfl, ?_⟩ | refine ⟨Nat.le_of_ble_eq_true rfl, ?_⟩ | refine ix ?_ | refine ixF ?_ | refine sk1 ?_ | refine iq fun x hx => ?_ | refine ld ?_ | refine s1 fun σ hs => ?_ | refine sn fun σ hs => ?_ | refine oi ?_ | refine oc ?_ | refine ol fun x hx => ?_ | refine oset fun σ hs => ?_ | refine ap fun v σ hs => ?_ | refine af ?_ | (refine fc (fun x hx hlt hc => ?_) (fun hk hc => ?_) <;> (try rw [hc]) <;> clear hc) | refine Pure.use (formed78 _) ?_ | refine Pure.use (count124 _) ?_ | refine Pure.use (counts22 _) ?_ | refine Pure.use (number83 _) ?_ | refine Pure.use (clamp84 _) ?_ | refine Pure.use (int26 _) ?_ | refine Pure.use (num126 _) ?_ | refine Pure.use (isFold76 _) ?_ | refine Pure.use (enough81 _ _) ?_ | refine Pure.use (val75 _ _) ?_ | refine callvP (hg _) ?_ | refine Pure.use (index79 _ _ hl hg) ?_ | (constructor <;> intro hc <;> (try rw [hc]) <;> (replace hc := bp hc) <;> (try simp (disch := omega) only [List.length_map, wrap64, ctr_eq] at hc) <;> try (exfalso; omega)) | (intro nn hnn; generalize hg : upd _ nn _ = σ; refine al hg fun hs => ?_; clear hg) | refine Pure.use (by assumption) ?_ | clear hK K) <;> try (conv => whnf))
  exact Done_eq (congrArg (V.i _) (by omega))
theorem max128 (a b : Int) : Pure Tryz.prog 128 [eI a, eI b] (eI (max a b)) := by
  refine ctr128 (Nat.le_of_ble_eq_true rfl) ?_
  have hs : Sat emp [] := Sat.nil
  try (conv => whnf)
  repeat' ((first | refine st ?_ | (refine sq ?_; intro K hK) | (refine si ?_; intro A B hA hB) | (refine hA _ _ ?_; clear hB B hA A) | (refine hB _ _ _ ?_; clear hB B hA A) | (refine hB _ _ fun σ hsub => ?_; clear hB B hA A) | (refine hK _ _ ?_; clear hK K) | refine dr ?_ | refine rk ?_ ?_ | exact fun s e => by cases e; rfl | refine ⟨rfl, ?_⟩ | refine ⟨Nat.le_of_ble_eq_true rfl, ?_⟩ | refine ix ?_ | refine ixF ?_ | refine sk1 ?_ | refine iq fun x hx => ?_ | refine ld ?_ | refine s1 fun σ hs => ?_ | refine sn fun σ hs => ?_ | refine oi ?_ | refine oc ?_ | refine ol fun x hx => ?_ | refine oset fun σ hs => ?_ | refine ap fun v σ hs => ?_ | refine af ?_ | (refine fc (fun x hx hlt hc => ?_) (fun hk hc => ?_) <;> (try rw [hc]) <;> clear hc) | refine Pure.use (formed78 _) ?_ | refine Pure.use (count124 _) ?_ | refine Pure.use (counts22 _) ?_ | refine Pure.use (number83 _) ?_ | refine Pure.use (clamp84 _) ?_ | refine Pure.use (int26 _) ?_ | refine Pure.use (num126 _) ?_ | refine Pure.use (isFold76 _) ?_ | refine Pure.use (enough81 _ _) ?_ | refine Pure.use (val75 _ _) ?_ | refine callvP (hg _) ?_ | refine Pure.use (index79 _ _ hl hg) ?_ | (constructor <;> intro hc <;> (try rw [hc]) <;> (replace hc := bp hc) <;> (try simp (disch := omega) only [List.length_map, wrap64, ctr_eq] at hc) <;> try (exfalso; omega)) | (intro nn hnn; generalize hg : upd _ nn _ = σ; refine al hg fun hs => ?_; clear hg) | refine Pure.use (by assumption) ?_ | clear hK K) <;> try (conv => whnf))
  exact Done_eq (congrArg (V.i _) (by omega))
theorem enough80 (f : Int) (v : MV) : Pure Tryz.prog 80 [.a (eM v), .rp [eI f]] (.b (enoughM f v)) := by
  refine ctr80 (Nat.le_of_ble_eq_true rfl) ?_
  have hs : Sat emp [] := Sat.nil
  try (conv => whnf)
  repeat' ((first | refine st ?_ | (refine sq ?_; intro K hK) | (refine si ?_; intro A B hA hB) | (refine hA _ _ ?_; clear hB B hA A) | (refine hB _ _ _ ?_; clear hB B hA A) | (refine hB _ _ fun σ hsub => ?_; clear hB B hA A) | (refine hK _ _ ?_; clear hK K) | refine dr ?_ | refine rk ?_ ?_ | exact fun s e => by cases e; rfl | refine ⟨rfl, ?_⟩ | refine ⟨Nat.le_of_ble_eq_true rfl, ?_⟩ | refine ix ?_ | refine ixF ?_ | refine sk1 ?_ | refine iq fun x hx => ?_ | refine ld ?_ | refine s1 fun σ hs => ?_ | refine sn fun σ hs => ?_ | refine oi ?_ | refine oc ?_ | refine ol fun x hx => ?_ | refine oset fun σ hs => ?_ | refine ap fun v σ hs => ?_ | refine af ?_ | (refine fc (fun x hx hlt hc => ?_) (fun hk hc => ?_) <;> (try rw [hc]) <;> clear hc) | refine Pure.use (formed78 _) ?_ | refine Pure.use (count124 _) ?_ | refine Pure.use (counts22 _) ?_ | refine Pure.use (number83 _) ?_ | refine Pure.use (clamp84 _) ?_ | refine Pure.use (int26 _) ?_ | refine Pure.use (num126 _) ?_ | refine Pure.use (isFold76 _) ?_ | refine Pure.use (enough81 _ _) ?_ | refine Pure.use (val75 _ _) ?_ | refine callvP (hg _) ?_ | refine Pure.use (index79 _ _ hl hg) ?_ | (constructor <;> intro hc <;> (try rw [hc]) <;> (replace hc := bp hc) <;> (try simp (disch := omega) only [List.length_map, wrap64, ctr_eq] at hc) <;> try (exfalso; omega)) | (intro nn hnn; generalize hg : upd _ nn _ = σ; refine al hg fun hs => ?_; clear hg) | refine Pure.use (by assumption) ?_ | clear hK K) <;> try (conv => whnf))
  exact Done_eq rfl
end Go.Gl

/-
  MF 2: folding values.
-/
namespace Go.Gl
open Go.Proofs
theorem bx {sz m n o : Nat} {k : IntKind} {j : Int} {K : V → Prop} (h : K (.p n (o + j.toNat * sz))) (h0 : 0 ≤ j := by decide) (h1 : j < (m : Int) := by decide) : kIaddr sz (some m) (.p n o) (.i k j) K := ⟨h0, h1, h⟩
theorem atLast {l : List MV} {x : MV} {fl : Bool} {K : V → Prop} (hx : l.getLast? = some x) (hl : l.length ≤ maxL) (h : K (.rp (eM x))) : kIaddr 2 none (.l (l.map eM) fl) (.i .i64 (IntKind.i64.wrap (((l.map eM).length : Nat) - 1))) K := by
  have hne : l ≠ [] := fun e => by rw [e] at hx; cases hx
  have h0 : 0 < l.length := List.length_pos_iff.2 hne
  have hM : maxL = 1073741824 := rfl
  rw [List.length_map, wrap64 (by omega) (by omega)]
  refine at_q (enc := eM) (l.length - 1) (x := x) ?_ (by omega) rfl h
  rw [List.getLast?_eq_getElem?] at hx
  exact hx
theorem sk1D {x : MV} {r : List MV} {fl : Bool} {σ : Store} {K : V → Store → Prop} (h : K (.l (r.map eM) fl) σ) : kSlice σ 2 (.l ((x :: r).map eM) fl) (some (.i .i64 1)) none none K := by
  refine ⟨fun e he => ?_, ?_⟩
  · obtain ⟨y, _, rfl⟩ := List.mem_map.1 he
    rfl
  · simp only [bnd, List.length_map, List.length_cons]
    refine ⟨by omega, by omega, by omega, ?_⟩
    have e1 : ((((r.length + 1 : Nat) : Int)).toNat) = (List.map eM (x :: r)).length := by simp
    rw [e1, List.take_length]
    simpa using h
theorem at0 {x : MV} {r : List MV} {fl : Bool} {k : IntKind} {K : V → Prop} (h : K (.rp (eM x))) : kIaddr 2 none (.l ((x :: r).map eM) fl) (.i k 0) K := at_q (enc := eM) 0 (x := x) rfl rfl rfl h
attribute [local irreducible] Ctr Done DoneP kIaddr kAppend kAppf kSlice kStore kMkslice kCopy kLookup kMapset CtrF CtrI Sat kLoad kLen LoopR W
def wayM (f a b : Int) : Int := bif f == 2 then clampM (a + b) else bif f == 3 then min a b else max a b
def sumM (f : Int) (x : MV) (r : List MV) : Int := r.foldl (fun n v => wayM f n (countM v)) (countM x)
def inM (n : Int) : Prop := -1000000000 ≤ n ∧ n ≤ 1000000000
theorem clamp_in (n : Int) : inM (clampM n) := by unfold inM clampM; omega
theorem way_in {f a b : Int} (ha : inM a) (hb : inM b) : inM (wayM f a b) := by
  unfold wayM
  cases f == 2 with
  | true => exact clamp_in _
  | false =>
    unfold inM at *
    cases f == 3 <;> simp only [cond_true, cond_false] <;> omega
theorem sum_in {f : Int} : ∀ (r : List MV) {n : Int}, inM n → (∀ v ∈ r, inM (countM v)) → inM (r.foldl (fun n v => wayM f n (countM v)) n)
  | [], _, h, _ => h
  | v :: r, _, h, hr => sum_in r (way_in h (hr v (.head _))) fun u hu => hr u (.tail _ hu)
theorem last82 (f : Int) (hf : f = 1 ∨ f = 5 ∨ f = 6) (l : List MV) (x : MV) (hx : l.getLast? = some x) (fl : Bool) (hl : l.length ≤ maxL) : Pure Tryz.prog 82 [eI f, .l (l.map eM) fl] (.a (eM x)) := by
  rcases hf with rfl | rfl | rfl <;> refine ctr82 (Nat.le_of_ble_eq_true rfl) ?_ <;> have hs : Sat emp [] := Sat.nil
  ·
    try (conv => whnf)
    repeat' ((first | refine st ?_ | (refine sq ?_; intro K hK) | (refine si ?_; intro A B hA hB) | (refine hA _ _ ?_; clear hB B hA A) | (refine hB _ _ _ ?_; clear hB B hA A) | (refine hB _ _ fun σ hsub => ?_; clear hB B hA A) | (refine hK _ _ ?_; clear hK K) | refine dr ?_ | refine rk ?_ ?_ | exact fun s e => by cases e; rfl | refine ⟨rfl, ?_⟩ | refine ⟨Nat.le_of_ble_eq_true rfl, ?_⟩ | refine ix ?_ | refine ixF ?_ | refine sk1 ?_ | refine iq fun x hx => ?_ | refine ld ?_ | refine s1 fun σ hs => ?_ | refine sn fun σ hs => ?_ | refine oi ?_ | refine oc ?_ | refine ol fun x hx => ?_ | refine oset fun σ hs => ?_ | refine ap fun v σ hs => ?_ | refine af ?_ | (refine fc (fun x hx hlt hc => ?_) (fun hk hc => ?_) <;> (try rw [hc]) <;> clear hc) | (exfalso; cases (by assumption : false = true)) | (exfalso; cases (by assumption : true = false)) | refine bx ?_ | refine atLast hx hl ?_ | refine sk1D ?_ | refine at0 ?_ | refine Pure.use (count124 _) ?_ | refine Pure.use (num126 _) ?_ | (constructor <;> intro hc <;> (try rw [hc]) <;> (replace hc := bp hc) <;> (try simp (disch := omega) only [List.length_map, wrap64, ctr_eq] at hc) <;> try (exfalso; omega)) | (intro nn hnn; generalize hg : upd _ nn _ = σ; refine al hg fun hs => ?_; clear hg) | refine Pure.use (by assumption) ?_ | clear hK K) <;> try (conv => whnf))
    exact Done_eq rfl
  ·
    try (conv => whnf)
    repeat' ((first | refine st ?_ | (refine sq ?_; intro K hK) | (refine si ?_; intro A B hA hB) | (refine hA _ _ ?_; clear hB B hA A) | (refine hB _ _ _ ?_; clear hB B hA A) | (refine hB _ _ fun σ hsub => ?_; clear hB B hA A) | (refine hK _ _ ?_; clear hK K) | refine dr ?_ | refine rk ?_ ?_ | exact fun s e => by cases e; rfl | refine ⟨rfl, ?_⟩ | refine ⟨Nat.le_of_ble_eq_true rfl, ?_⟩ | refine ix ?_ | refine ixF ?_ | refine sk1 ?_ | refine iq fun x hx => ?_ | refine ld ?_ | refine s1 fun σ hs => ?_ | refine sn fun σ hs => ?_ | refine oi ?_ | refine oc ?_ | refine ol fun x hx => ?_ | refine oset fun σ hs => ?_ | refine ap fun v σ hs => ?_ | refine af ?_ | (refine fc (fun x hx hlt hc => ?_) (fun hk hc => ?_) <;> (try rw [hc]) <;> clear hc) | (exfalso; cases (by assumption : false = true)) | (exfalso; cases (by assumption : true = false)) | refine bx ?_ | refine atLast hx hl ?_ | refine sk1D ?_ | refine at0 ?_ | refine Pure.use (count124 _) ?_ | refine Pure.use (num126 _) ?_ | (constructor <;> intro hc <;> (try rw [hc]) <;> (replace hc := bp hc) <;> (try simp (disch := omega) only [List.length_map, wrap64, ctr_eq] at hc) <;> try (exfalso; omega)) | (intro nn hnn; generalize hg : upd _ nn _ = σ; refine al hg fun hs => ?_; clear hg) | refine Pure.use (by assumption) ?_ | clear hK K) <;> try (conv => whnf))
    exact Done_eq rfl
  ·
    try (conv => whnf)
    repeat' ((first | refine st ?_ | (refine sq ?_; intro K hK) | (refine si ?_; intro A B hA hB) | (refine hA _ _ ?_; clear hB B hA A) | (refine hB _ _ _ ?_; clear hB B hA A) | (refine hB _ _ fun σ hsub => ?_; clear hB B hA A) | (refine hK _ _ ?_; clear hK K) | refine dr ?_ | refine rk ?_ ?_ | exact fun s e => by cases e; rfl | refine ⟨rfl, ?_⟩ | refine ⟨Nat.le_of_ble_eq_true rfl, ?_⟩ | refine ix ?_ | refine ixF ?_ | refine sk1 ?_ | refine iq fun x hx => ?_ | refine ld ?_ | refine s1 fun σ hs => ?_ | refine sn fun σ hs => ?_ | refine oi ?_ | refine oc ?_ | refine ol fun x hx => ?_ | refine oset fun σ hs => ?_ | refine ap fun v σ hs => ?_ | refine af ?_ | (refine fc (fun x hx hlt hc => ?_) (fun hk hc => ?_) <;> (try rw [hc]) <;> clear hc) | (exfalso; cases (by assumption : false = true)) | (exfalso; cases (by assumption : true = false)) | refine bx ?_ | refine atLast hx hl ?_ | refine sk1D ?_ | refine at0 ?_ | refine Pure.use (count124 _) ?_ | refine Pure.use (num126 _) ?_ | (constructor <;> intro hc <;> (try rw [hc]) <;> (replace hc := bp hc) <;> (try simp (disch := omega) only [List.length_map, wrap64, ctr_eq] at hc) <;> try (exfalso; omega)) | (intro nn hnn; generalize hg : upd _ nn _ = σ; refine al hg fun hs => ?_; clear hg) | refine Pure.use (by assumption) ?_ | clear hK K) <;> try (conv => whnf))
    exact Done_eq rfl
theorem sum82 (f : Int) (hf : f = 2 ∨ f = 3 ∨ f = 4) (x : MV) (r : List MV) (hx0 : inM (countM x)) (hr : ∀ v ∈ r, inM (countM v)) (fl : Bool) (hl : (x :: r).length ≤ maxL) : Pure Tryz.prog 82 [eI f, .l ((x :: r).map eM) fl] (.a (eM (1, clampM (sumM f x r)))) := by
  have hrl : r.length ≤ maxL := by simp at hl; omega
  rcases hf with rfl | rfl | rfl <;> refine ctr82 (Nat.le_of_ble_eq_true rfl) ?_ <;> have hs : Sat emp [] := Sat.nil
  ·
    try (conv => whnf)
    repeat' ((first | refine st ?_ | (refine sq ?_; intro K hK) | (refine si ?_; intro A B hA hB) | (refine hA _ _ ?_; clear hB B hA A) | (refine hB _ _ _ ?_; clear hB B hA A) | (refine hB _ _ fun σ hsub => ?_; clear hB B hA A) | (refine hK _ _ ?_; clear hK K) | refine dr ?_ | refine rk ?_ ?_ | exact fun s e => by cases e; rfl | refine ⟨rfl, ?_⟩ | refine ⟨Nat.le_of_ble_eq_true rfl, ?_⟩ | refine ix ?_ | refine ixF ?_ | refine sk1 ?_ | refine iq fun x hx => ?_ | refine ld ?_ | refine s1 fun σ hs => ?_ | refine sn fun σ hs => ?_ | refine oi ?_ | refine oc ?_ | refine ol fun x hx => ?_ | refine oset fun σ hs => ?_ | refine ap fun v σ hs => ?_ | refine af ?_ | (refine fc (fun x hx hlt hc => ?_) (fun hk hc => ?_) <;> (try rw [hc]) <;> clear hc) | (exfalso; cases (by assumption : false = true)) | (exfalso; cases (by assumption : true = false)) | refine bx ?_ | refine atLast hx hl ?_ | refine sk1D ?_ | refine at0 ?_ | refine Pure.use (count124 _) ?_ | refine Pure.use (num126 _) ?_ | (constructor <;> intro hc <;> (try rw [hc]) <;> (replace hc := bp hc) <;> (try simp (disch := omega) only [List.length_map, wrap64, ctr_eq] at hc) <;> try (exfalso; omega)) | (intro nn hnn; generalize hg : upd _ nn _ = σ; refine al hg fun hs => ?_; clear hg) | refine Pure.use (by assumption) ?_ | clear hK K) <;> try (conv => whnf))
    rename_i h0 nA hA σ1 hs1 σ2 hs2
    refine upH r.length (fun k (n : Int) => [(7, eI n), (29, eI (ctr k))]) (fun _ _ => [.obj nA (.cs [eI 0, eI 0])]) (fun k n => n = sumM 2 x (r.take k)) (countM x) rfl rfl (hs.less (by exact (List.sublist_append_left _ _))) ?_
    rintro k n σ hk hn hs
    have hn' : inM n := hn ▸ sum_in _ hx0 fun v hv => hr v (List.mem_of_mem_take hv)
    try (conv => whnf)
    repeat' ((first | refine st ?_ | (refine sq ?_; intro K hK) | (refine si ?_; intro A B hA hB) | (refine hA _ _ ?_; clear hB B hA A) | (refine hB _ _ _ ?_; clear hB B hA A) | (refine hB _ _ fun σ hsub => ?_; clear hB B hA A) | (refine hK _ _ ?_; clear hK K) | refine dr ?_ | refine rk ?_ ?_ | exact fun s e => by cases e; rfl | refine ⟨rfl, ?_⟩ | refine ⟨Nat.le_of_ble_eq_true rfl, ?_⟩ | refine ix ?_ | refine ixF ?_ | refine sk1 ?_ | refine iq fun x hx => ?_ | refine ld ?_ | refine s1 fun σ hs => ?_ | refine sn fun σ hs => ?_ | refine oi ?_ | refine oc ?_ | refine ol fun x hx => ?_ | refine oset fun σ hs => ?_ | refine ap fun v σ hs => ?_ | refine af ?_ | (refine fc (fun x hx hlt hc => ?_) (fun hk hc => ?_) <;> (try rw [hc]) <;> clear hc) | (exfalso; cases (by assumption : false = true)) | (exfalso; cases (by assumption : true = false)) | refine bx ?_ | refine atLast hx hl ?_ | refine sk1D ?_ | refine at0 ?_ | refine Pure.use (count124 _) ?_ | refine Pure.use (num126 _) ?_ | (constructor <;> intro hc <;> (try rw [hc]) <;> (replace hc := bp hc) <;> (try simp (disch := omega) only [List.length_map, wrap64, ctr_eq] at hc) <;> try (exfalso; omega)) | (intro nn hnn; generalize hg : upd _ nn _ = σ; refine al hg fun hs => ?_; clear hg) | refine Pure.use (by assumption) ?_ | clear hK K) <;> try (conv => whnf))
    · have hv := hr _ (List.mem_of_getElem? hx)
      refine callvP (cap := []) (add125 _ _ hn'.1 hn'.2 hv.1 hv.2) ?_
      try (conv => whnf)
      repeat' ((first | refine st ?_ | (refine sq ?_; intro K hK) | (refine si ?_; intro A B hA hB) | (refine hA _ _ ?_; clear hB B hA A) | (refine hB _ _ _ ?_; clear hB B hA A) | (refine hB _ _ fun σ hsub => ?_; clear hB B hA A) | (refine hK _ _ ?_; clear hK K) | refine dr ?_ | refine rk ?_ ?_ | exact fun s e => by cases e; rfl | refine ⟨rfl, ?_⟩ | refine ⟨Nat.le_of_ble_eq_true rfl, ?_⟩ | refine ix ?_ | refine ixF ?_ | refine sk1 ?_ | refine iq fun x hx => ?_ | refine ld ?_ | refine s1 fun σ hs => ?_ | refine sn fun σ hs => ?_ | refine oi ?_ | refine oc ?_ | refine ol fun x hx => ?_ | refine oset fun σ hs => ?_ | refine ap fun v σ hs => ?_ | refine af ?_ | (refine fc (fun x hx hlt hc => ?_) (fun hk hc => ?_) <;> (try rw [hc]) <;> clear hc) | (exfalso; cases (by assumption : false = true)) | (exfalso; cases (by assumption : true = false)) | refine bx ?_ | refine atLast hx hl ?_ | refine sk1D ?_ | refine at0 ?_ | refine Pure.use (count124 _) ?_ | refine Pure.use (num126 _) ?_ | (constructor <;> intro hc <;> (try rw [hc]) <;> (replace hc := bp hc) <;> (try simp (disch := omega) only [List.length_map, wrap64, ctr_eq] at hc) <;> try (exfalso; omega)) | (intro nn hnn; generalize hg : upd _ nn _ = σ; refine al hg fun hs => ?_; clear hg) | refine Pure.use (by assumption) ?_ | clear hK K) <;> try (conv => whnf))
      refine ⟨hlt, _, rfl, ?_, hs.less (by exact (List.sublist_append_left _ _))⟩
      rw [take_succ_of hx, sumM, List.foldl_append, ← sumM, ← hn]
      rfl
    · rw [take_all hk] at hn
      rw [hn]
      exact Done_eq rfl
  ·
    try (conv => whnf)
    repeat' ((first | refine st ?_ | (refine sq ?_; intro K hK) | (refine si ?_; intro A B hA hB) | (refine hA _ _ ?_; clear hB B hA A) | (refine hB _ _ _ ?_; clear hB B hA A) | (refine hB _ _ fun σ hsub => ?_; clear hB B hA A) | (refine hK _ _ ?_; clear hK K) | refine dr ?_ | refine rk ?_ ?_ | exact fun s e => by cases e; rfl | refine ⟨rfl, ?_⟩ | refine ⟨Nat.le_of_ble_eq_true rfl, ?_⟩ | refine ix ?_ | refine ixF ?_ | refine sk1 ?_ | refine iq fun x hx => ?_ | refine ld ?_ | refine s1 fun σ hs => ?_ | refine sn fun σ hs => ?_ | refine oi ?_ | refine oc ?_ | refine ol fun x hx => ?_ | refine oset fun σ hs => ?_ | refine ap fun v σ hs => ?_ | refine af ?_ | (refine fc (fun x hx hlt hc => ?_) (fun hk hc => ?_) <;> (try rw [hc]) <;> clear hc) | (exfalso; cases (by assumption : false = true)) | (exfalso; cases (by assumption : true = false)) | refine bx ?_ | refine atLast hx hl ?_ | refine sk1D ?_ | refine at0 ?_ | refine Pure.use (count124 _) ?_ | refine Pure.use (num126 _) ?_ | (constructor <;> intro hc <;> (try rw [hc]) <;> (replace hc := bp hc) <;> (try simp (disch := omega) only [List.length_map, wrap64, ctr_eq] at hc) <;> try (exfalso; omega)) | (intro nn hnn; generalize hg : upd _ nn _ = σ; refine al hg fun hs => ?_; clear hg) | refine Pure.use (by assumption) ?_ | clear hK K) <;> try (conv => whnf))
    rename_i h0 nA hA σ1 hs1 σ2 hs2
    refine upH r.length (fun k (n : Int) => [(7, eI n), (29, eI (ctr k))]) (fun _ _ => [.obj nA (.cs [eI 0, eI 0])]) (fun k n => n = sumM 3 x (r.take k)) (countM x) rfl rfl (hs.less (by exact (List.sublist_append_left _ _))) ?_
    rintro k n σ hk hn hs
    have hn' : inM n := hn ▸ sum_in _ hx0 fun v hv => hr v (List.mem_of_mem_take hv)
    try (conv => whnf)
    repeat' ((first | refine st ?_ | (refine sq ?_; intro K hK) | (refine si ?_; intro A B hA hB) | (refine hA _ _ ?_; clear hB B hA A) | (refine hB _ _ _ ?_; clear hB B hA A) | (refine hB _ _ fun σ hsub => ?_; clear hB B hA A) | (refine hK _ _ ?_; clear hK K) | refine dr ?_ | refine rk ?_ ?_ | exact fun s e => by cases e; rfl | refine ⟨rfl, ?_⟩ | refine ⟨Nat.le_of_ble_eq_true rfl, ?_⟩ | refine ix ?_ | refine ixF ?_ | refine sk1 ?_ | refine iq fun x hx => ?_ | refine ld ?_ | refine s1 fun σ hs => ?_ | refine sn fun σ hs => ?_ | refine oi ?_ | refine oc ?_ | refine ol fun x hx => ?_ | refine oset fun σ hs => ?_ | refine ap fun v σ hs => ?_ | refine af ?_ | (refine fc (fun x hx hlt hc => ?_) (fun hk hc => ?_) <;> (try rw [hc]) <;> clear hc) | (exfalso; cases (by assumption : false = true)) | (exfalso; cases (by assumption : true = false)) | refine bx ?_ | refine atLast hx hl ?_ | refine sk1D ?_ | refine at0 ?_ | refine Pure.use (count124 _) ?_ | refine Pure.use (num126 _) ?_ | (constructor <;> intro hc <;> (try rw [hc]) <;> (replace hc := bp hc) <;> (try simp (disch := omega) only [List.length_map, wrap64, ctr_eq] at hc) <;> try (exfalso; omega)) | (intro nn hnn; generalize hg : upd _ nn _ = σ; refine al hg fun hs => ?_; clear hg) | refine Pure.use (by assumption) ?_ | clear hK K) <;> try (conv => whnf))
    · have hv := hr _ (List.mem_of_getElem? hx)
      refine callvP (cap := []) (min127 _ _) ?_
      try (conv => whnf)
      repeat' ((first | refine st ?_ | (refine sq ?_; intro K hK) | (refine si ?_; intro A B hA hB) | (refine hA _ _ ?_; clear hB B hA A) | (refine hB _ _ _ ?_; clear hB B hA A) | (refine hB _ _ fun σ hsub => ?_; clear hB B hA A) | (refine hK _ _ ?_; clear hK K) | refine dr ?_ | refine rk ?_ ?_ | exact fun s e => by cases e; rfl | refine ⟨rfl, ?_⟩ | refine ⟨Nat.le_of_ble_eq_true rfl, ?_⟩ | refine ix ?_ | refine ixF ?_ | refine sk1 ?_ | refine iq fun x hx => ?_ | refine ld ?_ | refine s1 fun σ hs => ?_ | refine sn fun σ hs => ?_ | refine oi ?_ | refine oc ?_ | refine ol fun x hx => ?_ | refine oset fun σ hs => ?_ | refine ap fun v σ hs => ?_ | refine af ?_ | (refine fc (fun x hx hlt hc => ?_) (fun hk hc => ?_) <;> (try rw [hc]) <;> clear hc) | (exfalso; cases (by assumption : false = true)) | (exfalso; cases (by assumption : true = false)) | refine bx ?_ | refine atLast hx hl ?_ | refine sk1D ?_ | refine at0 ?_ | refine Pure.use (count124 _) ?_ | refine Pure.use (num126 _) ?_ | (constructor <;> intro hc <;> (try rw [hc]) <;> (replace hc := bp hc) <;> (try simp (disch := omega) only [List.length_map, wrap64, ctr_eq] at hc) <;> try (exfalso; omega)) | (intro nn hnn; generalize hg : upd _ nn _ = σ; refine al hg fun hs => ?_; clear hg) | refine Pure.use (by assumption) ?_ | clear hK K) <;> try (conv => whnf))
      refine ⟨hlt, _, rfl, ?_, hs.less (by exact (List.sublist_append_left _ _))⟩
      rw [take_succ_of hx, sumM, List.foldl_append, ← sumM, ← hn]
      rfl
    · rw [take_all hk] at hn
      rw [hn]
      exact Done_eq rfl
  ·
    try (conv => whnf)
    repeat' ((first | refine st ?_ | (refine sq ?_; intro K hK) | (refine si ?_; intro A B hA hB) | (refine hA _ _ ?_; clear hB B hA A) | (refine hB _ _ _ ?_; clear hB B hA A) | (refine hB _ _ fun σ hsub => ?_; clear hB B hA A) | (refine hK _ _ ?_; clear hK K) | refine dr ?_ | refine rk ?_ ?_ | exact fun s e => by cases e; rfl | refine ⟨rfl, ?_⟩ | refine ⟨Nat.le_of_ble_eq_true rfl, ?_⟩ | refine ix ?_ | refine ixF ?_ | refine sk1 ?_ | refine iq fun x hx => ?_ | refine ld ?_ | refine s1 fun σ hs => ?_ | refine sn fun σ hs => ?_ | refine oi ?_ | refine oc ?_ | refine ol fun x hx => ?_ | refine oset fun σ hs => ?_ | refine ap fun v σ hs => ?_ | refine af ?_ | (refine fc (fun x hx hlt hc => ?_) (fun hk hc => ?_) <;> (try rw [hc]) <;> clear hc) | (exfalso; cases (by assumption : false = true)) | (exfalso; cases (by assumption : true = false)) | refine bx ?_ | refine atLast hx hl ?_ | refine sk1D ?_ | refine at0 ?_ | refine Pure.use (count124 _) ?_ | refine Pure.use (num126 _) ?_ | (constructor <;> intro hc <;> (try rw [hc]) <;> (replace hc := bp hc) <;> (try simp (disch := omega) only [List.length_map, wrap64, ctr_eq] at hc) <;> try (exfalso; omega)) | (intro nn hnn; generalize hg : upd _ nn _ = σ; refine al hg fun hs => ?_; clear hg) | refine Pure.use (by assumption) ?_ | clear hK K) <;> try (conv => whnf))
    rename_i h0 nA hA σ1 hs1 σ2 hs2
    refine upH r.length (fun k (n : Int) => [(7, eI n), (29, eI (ctr k))]) (fun _ _ => [.obj nA (.cs [eI 0, eI 0])]) (fun k n => n = sumM 4 x (r.take k)) (countM x) rfl rfl (hs.less (by exact (List.sublist_append_left _ _))) ?_
    rintro k n σ hk hn hs
    have hn' : inM n := hn ▸ sum_in _ hx0 fun v hv => hr v (List.mem_of_mem_take hv)
    try (conv => whnf)
    repeat' ((first | refine st ?_ | (refine sq ?_; intro K hK) | (refine si ?_; intro A B hA hB) | (refine hA _ _ ?_; clear hB B hA A) | (refine hB _ _ _ ?_; clear hB B hA A) | (refine hB _ _ fun σ hsub => ?_; clear hB B hA A) | (refine hK _ _ ?_; clear hK K) | refine dr ?_ | refine rk ?_ ?_ | exact fun s e => by cases e; rfl | refine ⟨rfl, ?_⟩ | refine ⟨Nat.le_of_ble_eq_true rfl, ?_⟩ | refine ix ?_ | refine ixF ?_ | refine sk1 ?_ | refine iq fun x hx => ?_ | refine ld ?_ | refine s1 fun σ hs => ?_ | refine sn fun σ hs => ?_ | refine oi ?_ | refine oc ?_ | refine ol fun x hx => ?_ | refine oset fun σ hs => ?_ | refine ap fun v σ hs => ?_ | refine af ?_ | (refine fc (fun x hx hlt hc => ?_) (fun hk hc => ?_) <;> (try rw [hc]) <;> clear hc) | (exfalso; cases (by assumption : false = true)) | (exfalso; cases (by assumption : true = false)) | refine bx ?_ | refine atLast hx hl ?_ | refine sk1D ?_ | refine at0 ?_ | refine Pure.use (count124 _) ?_ | refine Pure.use (num126 _) ?_ | (constructor <;> intro hc <;> (try rw [hc]) <;> (replace hc := bp hc) <;> (try simp (disch := omega) only [List.length_map, wrap64, ctr_eq] at hc) <;> try (exfalso; omega)) | (intro nn hnn; generalize hg : upd _ nn _ = σ; refine al hg fun hs => ?_; clear hg) | refine Pure.use (by assumption) ?_ | clear hK K) <;> try (conv => whnf))
    · have hv := hr _ (List.mem_of_getElem? hx)
      refine callvP (cap := []) (max128 _ _) ?_
      try (conv => whnf)
      repeat' ((first | refine st ?_ | (refine sq ?_; intro K hK) | (refine si ?_; intro A B hA hB) | (refine hA _ _ ?_; clear hB B hA A) | (refine hB _ _ _ ?_; clear hB B hA A) | (refine hB _ _ fun σ hsub => ?_; clear hB B hA A) | (refine hK _ _ ?_; clear hK K) | refine dr ?_ | refine rk ?_ ?_ | exact fun s e => by cases e; rfl | refine ⟨rfl, ?_⟩ | refine ⟨Nat.le_of_ble_eq_true rfl, ?_⟩ | refine ix ?_ | refine ixF ?_ | refine sk1 ?_ | refine iq fun x hx => ?_ | refine ld ?_ | refine s1 fun σ hs => ?_ | refine sn fun σ hs => ?_ | refine oi ?_ | refine oc ?_ | refine ol fun x hx => ?_ | refine oset fun σ hs => ?_ | refine ap fun v σ hs => ?_ | refine af ?_ | (refine fc (fun x hx hlt hc => ?_) (fun hk hc => ?_) <;> (try rw [hc]) <;> clear hc) | (exfalso; cases (by assumption : false = true)) | (exfalso; cases (by assumption : true = false)) | refine bx ?_ | refine atLast hx hl ?_ | refine sk1D ?_ | refine at0 ?_ | refine Pure.use (count124 _) ?_ | refine Pure.use (num126 _) ?_ | (constructor <;> intro hc <;> (try rw [hc]) <;> (replace hc := bp hc) <;> (try simp (disch := omega) only [List.length_map, wrap64, ctr_eq] at hc) <;> try (exfalso; omega)) | (intro nn hnn; generalize hg : upd _ nn _ = σ; refine al hg fun hs => ?_; clear hg) | refine Pure.use (by assumption) ?_ | clear hK K) <;> try (conv => whnf))
      refine ⟨hlt, _, rfl, ?_, hs.less (by exact (List.sublist_append_left _ _))⟩
      rw [take_succ_of hx, sumM, List.foldl_append, ← sumM, ← hn]
      rfl
    · rw [take_all hk] at hn
      rw [hn]
      exact Done_eq rfl
end Go.Gl

/-
  MF 3: meta.Fold.
-/
namespace Go.Gl
open Go.Proofs
theorem skT {l : List MV} {fl : Bool} {σ : Store} {n : Int} {K : V → Store → Prop} (N : Nat) (hn : n = N) (hN : N ≤ l.length) (h : ∀ g, K (.l ((l.take N).map eM) g) σ) : kSlice σ 2 (.l (l.map eM) fl) none (some (.i .i64 n)) none K := by
  subst hn
  refine ⟨fun e he => ?_, ?_⟩
  · obtain ⟨y, _, rfl⟩ := List.mem_map.1 he
    rfl
  · simp only [bnd, List.length_map]
    refine ⟨by omega, by omega, by omega, ?_⟩
    rw [Int.toNat_natCast]
    simpa [List.map_take] using h _
theorem idx_lt {p : MV → Bool} : ∀ (l : List MV) (k : Nat), 0 ≤ idxF p k l → (k : Int) ≤ idxF p k l ∧ idxF p k l < k + l.length
  | [], k, h => by simp [idxF] at h
  | v :: r, k, h => by
    simp only [idxF] at h ⊢
    cases hp : p v with
    | true => simp only [cond_true, List.length_cons]; omega
    | false =>
      rw [hp] at h
      simp only [cond_false] at h ⊢
      have := idx_lt r (k + 1) h
      simp only [List.length_cons]
      omega
/-- how many values are needed -/
def needN (f : Int) (l : List MV) : Nat := if idxF (enoughM f) 0 l < 0 then l.length else (idxF (enoughM f) 0 l).toNat + 1
theorem need_pos {f : Int} {l : List MV} (h : l ≠ []) : 0 < needN f l ∧ needN f l ≤ l.length := by
  have h0 := List.length_pos_iff.2 h
  unfold needN
  split
  · omega
  · have := idx_lt (p := enoughM f) l 0 (by omega)
    omega
def foldV (f : Int) : List MV → MV
  | [] => (0, 0)
  | x :: r => bif f == 2 || (f == 3 || f == 4) then (1, clampM (sumM f x r)) else ((x :: r).getLast?).getD (0, 0)
theorem in_of {v : MV} (h : valM v 40 = true) : inM (countM v) := by
  unfold valM at h
  unfold countM inM
  cases h1 : v.1 == 1 with
  | true =>
    rw [h1] at h
    simp only [cond_true, Bool.and_eq_true, decide_eq_true_eq] at h
    exact h
  | false => simp
theorem fold82 (f : Int) (h1 : 1 ≤ f) (h6 : f ≤ 6) (l : List MV) (hne : l ≠ []) (hv : ∀ v ∈ l, valM v 40 = true) (fl : Bool) (hl : l.length ≤ maxL) : Pure Tryz.prog 82 [eI f, .l (l.map eM) fl] (.a (eM (foldV f l))) := by
  obtain ⟨x, r, rfl⟩ := List.exists_cons_of_ne_nil hne
  by_cases hf : f = 2 ∨ f = 3 ∨ f = 4
  · have := sum82 f hf x r (in_of (hv x (.head _))) (fun v hm => in_of (hv v (.tail _ hm))) fl hl
    have e : foldV f (x :: r) = (1, clampM (sumM f x r)) := by
      rcases hf with rfl | rfl | rfl <;> rfl
    rw [e]
    exact this
  · obtain ⟨y, hy⟩ : ∃ y, (x :: r).getLast? = some y := ⟨_, List.getLast?_eq_some_getLast (by simp)⟩
    have hf' : f = 1 ∨ f = 5 ∨ f = 6 := by omega
    have e : foldV f (x :: r) = y := by
      rcases hf' with rfl | rfl | rfl <;> simp [foldV, hy]
    rw [e]
    exact last82 f hf' _ y hy fl hl
attribute [local irreducible] Ctr Done DoneP kIaddr kAppend kAppf kSlice kStore kMkslice kCopy kLookup kMapset CtrF CtrI Sat kLoad kLen LoopR W
theorem fold21 (f : Int) (h1 : 1 ≤ f) (h6 : f ≤ 6) (l : List MV) (hne : l ≠ []) (hv : ∀ v ∈ l, valM v 40 = true) (fl : Bool) (hl : l.length ≤ maxL) : Pure Tryz.prog 21 [eI f, .l (l.map eM) fl] (.t [.a (eM (foldV f (l.take (needN f l)))), eI (needN f l), eI 0]) := by
  refine ctr21 (Nat.le_of_ble_eq_true rfl) ?_
  have hs : Sat emp [] := Sat.nil
  have hM : maxL = 1073741824 := rfl
  have hany : (l.any fun v => !valM v 40) = false := by
    rw [List.any_eq_false]
    intro v hm
    rw [hv v hm]
    simp
  have hpos := List.length_pos_iff.2 hne
  have hn := need_pos (f := f) hne
  have hlt := idx_lt (p := enoughM f) l 0
  have hneg : idxF (enoughM f) 0 l < 0 → idxF (enoughM f) 0 l = -1 := fun h => by
    have := idx_none (p := enoughM f) l 0
    cases ha : l.any (enoughM f) with
    | true => have := this.2.1 ha; omega
    | false => exact this.1.1 ha
  try (conv => whnf)
  repeat' ((first | refine st ?_ | (refine sq ?_; intro K hK) | (refine si ?_; intro A B hA hB) | (refine hA _ _ ?_; clear hB B hA A) | (refine hB _ _ _ ?_; clear hB B hA A) | (refine hB _ _ fun σ hsub => ?_; clear hB B hA A) | (refine hK _ _ ?_; clear hK K) | refine dr ?_ | refine rk ?_ ?_ | exact fun s e => by cases e; rfl | refine ⟨rfl, ?_⟩ | refine ⟨Nat.le_of_ble_eq_true rfl, ?_⟩ | refine ix ?_ | refine ixF ?_ | refine sk1 ?_ | refine iq fun x hx => ?_ | refine ld ?_ | refine s1 fun σ hs => ?_ | refine sn fun σ hs => ?_ | refine oi ?_ | refine oc ?_ | refine ol fun x hx => ?_ | refine oset fun σ hs => ?_ | refine ap fun v σ hs => ?_ | refine af ?_ | (refine fc (fun x hx hlt hc => ?_) (fun hk hc => ?_) <;> (try rw [hc]) <;> clear hc) | refine Pure.use (isFold76 _) ?_ | refine Pure.use (contains24 l fl hl (cap := []) un77) ?_ | refine Pure.use (index79 l fl hl (cap := [.rp [eI f]]) (enough80 f)) ?_ | (constructor <;> intro hc <;> (try rw [hc]) <;> (replace hc := bp hc) <;> (try simp (disch := omega) only [List.length_map, wrap64, ctr_eq] at hc) <;> try (exfalso; omega)) | (intro nn hnn; generalize hg : upd _ nn _ = σ; refine al hg fun hs => ?_; clear hg) | refine Pure.use (by assumption) ?_ | clear hK K) <;> try (conv => whnf))
  · rw [hany] at hc
    cases hc
  · have hc : idxF (enoughM f) 0 l + 1 = 0 := hc
    have e : needN f l = l.length := by unfold needN; rw [if_pos (by omega)]
    refine skT l.length (by rw [List.length_map]) (Nat.le_refl _) fun g => ?_
    try (conv => whnf)
    repeat' ((first | refine st ?_ | (refine sq ?_; intro K hK) | (refine si ?_; intro A B hA hB) | (refine hA _ _ ?_; clear hB B hA A) | (refine hB _ _ _ ?_; clear hB B hA A) | (refine hB _ _ fun σ hsub => ?_; clear hB B hA A) | (refine hK _ _ ?_; clear hK K) | refine dr ?_ | refine rk ?_ ?_ | exact fun s e => by cases e; rfl | refine ⟨rfl, ?_⟩ | refine ⟨Nat.le_of_ble_eq_true rfl, ?_⟩ | refine ix ?_ | refine ixF ?_ | refine sk1 ?_ | refine iq fun x hx => ?_ | refine ld ?_ | refine s1 fun σ hs => ?_ | refine sn fun σ hs => ?_ | refine oi ?_ | refine oc ?_ | refine ol fun x hx => ?_ | refine oset fun σ hs => ?_ | refine ap fun v σ hs => ?_ | refine af ?_ | (refine fc (fun x hx hlt hc => ?_) (fun hk hc => ?_) <;> (try rw [hc]) <;> clear hc) | refine Pure.use (isFold76 _) ?_ | refine Pure.use (contains24 l fl hl (cap := []) un77) ?_ | refine Pure.use (index79 l fl hl (cap := [.rp [eI f]]) (enough80 f)) ?_ | (constructor <;> intro hc <;> (try rw [hc]) <;> (replace hc := bp hc) <;> (try simp (disch := omega) only [List.length_map, wrap64, ctr_eq] at hc) <;> try (exfalso; omega)) | (intro nn hnn; generalize hg : upd _ nn _ = σ; refine al hg fun hs => ?_; clear hg) | refine Pure.use (by assumption) ?_ | clear hK K) <;> try (conv => whnf))
    refine Pure.use (fold82 f h1 h6 (l.take l.length) (by rw [List.take_length]; exact hne) (fun v hm => hv v (List.mem_of_mem_take hm)) g (by rw [List.take_length]; exact hl)) ?_
    try (conv => whnf)
    repeat' ((first | refine st ?_ | (refine sq ?_; intro K hK) | (refine si ?_; intro A B hA hB) | (refine hA _ _ ?_; clear hB B hA A) | (refine hB _ _ _ ?_; clear hB B hA A) | (refine hB _ _ fun σ hsub => ?_; clear hB B hA A) | (refine hK _ _ ?_; clear hK K) | refine dr ?_ | refine rk ?_ ?_ | exact fun s e => by cases e; rfl | refine ⟨rfl, ?_⟩ | refine ⟨Nat.le_of_ble_eq_true rfl, ?_⟩ | refine ix ?_ | refine ixF ?_ | refine sk1 ?_ | refine iq fun x hx => ?_ | refine ld ?_ | refine s1 fun σ hs => ?_ | refine sn fun σ hs => ?_ | refine oi ?_ | refine oc ?_ | refine ol fun x hx => ?_ | refine oset fun σ hs => ?_ | refine ap fun v σ hs => ?_ | refine af ?_ | (refine fc (fun x hx hlt hc => ?_) (fun hk hc => ?_) <;> (try rw [hc]) <;> clear hc) | refine Pure.use (isFold76 _) ?_ | refine Pure.use (contains24 l fl hl (cap := []) un77) ?_ | refine Pure.use (index79 l fl hl (cap := [.rp [eI f]]) (enough80 f)) ?_ | (constructor <;> intro hc <;> (try rw [hc]) <;> (replace hc := bp hc) <;> (try simp (disch := omega) only [List.length_map, wrap64, ctr_eq] at hc) <;> try (exfalso; omega)) | (intro nn hnn; generalize hg : upd _ nn _ = σ; refine al hg fun hs => ?_; clear hg) | refine Pure.use (by assumption) ?_ | clear hK K) <;> try (conv => whnf))
    rw [e, List.length_map]
    exact Done_eq rfl
  · have hc : idxF (enoughM f) 0 l + 1 ≠ 0 := hc
    rw [wrap64 (by omega) (by omega)]
    have e : (needN f l : Int) = idxF (enoughM f) 0 l + 1 := by unfold needN; split <;> omega
    refine skT (needN f l) e.symm hn.2 fun g => ?_
    try (conv => whnf)
    repeat' ((first | refine st ?_ | (refine sq ?_; intro K hK) | (refine si ?_; intro A B hA hB) | (refine hA _ _ ?_; clear hB B hA A) | (refine hB _ _ _ ?_; clear hB B hA A) | (refine hB _ _ fun σ hsub => ?_; clear hB B hA A) | (refine hK _ _ ?_; clear hK K) | refine dr ?_ | refine rk ?_ ?_ | exact fun s e => by cases e; rfl | refine ⟨rfl, ?_⟩ | refine ⟨Nat.le_of_ble_eq_true rfl, ?_⟩ | refine ix ?_ | refine ixF ?_ | refine sk1 ?_ | refine iq fun x hx => ?_ | refine ld ?_ | refine s1 fun σ hs => ?_ | refine sn fun σ hs => ?_ | refine oi ?_ | refine oc ?_ | refine ol fun x hx => ?_ | refine oset fun σ hs => ?_ | refine ap fun v σ hs => ?_ | refine af ?_ | (refine fc (fun x hx hlt hc => ?_) (fun hk hc => ?_) <;> (try rw [hc]) <;> clear hc) | refine Pure.use (isFold76 _) ?_ | refine Pure.use (contains24 l fl hl (cap := []) un77) ?_ | refine Pure.use (index79 l fl hl (cap := [.rp [eI f]]) (enough80 f)) ?_ | (constructor <;> intro hc <;> (try rw [hc]) <;> (replace hc := bp hc) <;> (try simp (disch := omega) only [List.length_map, wrap64, ctr_eq] at hc) <;> try (exfalso; omega)) | (intro nn hnn; generalize hg : upd _ nn _ = σ; refine al hg fun hs => ?_; clear hg) | refine Pure.use (by assumption) ?_ | clear hK K) <;> try (conv => whnf))
    refine Pure.use (fold82 f h1 h6 (l.take (needN f l)) (by
      intro h
      have h2 : (l.take (needN f l)).length = 0 := by rw [h]; rfl
      rw [List.length_take] at h2
      omega) (fun v hm => hv v (List.mem_of_mem_take hm)) g (by rw [List.length_take]; omega)) ?_
    try (conv => whnf)
    repeat' ((first | refine st ?_ | (refine sq ?_; intro K hK) | (refine si ?_; intro A B hA hB) | (refine hA _ _ ?_; clear hB B hA A) | (refine hB _ _ _ ?_; clear hB B hA A) | (refine hB _ _ fun σ hsub => ?_; clear hB B hA A) | (refine hK _ _ ?_; clear hK K) | refine dr ?_ | refine rk ?_ ?_ | exact fun s e => by cases e; rfl | refine ⟨rfl, ?_⟩ | refine ⟨Nat.le_of_ble_eq_true rfl, ?_⟩ | refine ix ?_ | refine ixF ?_ | refine sk1 ?_ | refine iq fun x hx => ?_ | refine ld ?_ | refine s1 fun σ hs => ?_ | refine sn fun σ hs => ?_ | refine oi ?_ | refine oc ?_ | refine ol fun x hx => ?_ | refine oset fun σ hs => ?_ | refine ap fun v σ hs => ?_ | refine af ?_ | (refine fc (fun x hx hlt hc => ?_) (fun hk hc => ?_) <;> (try rw [hc]) <;> clear hc) | refine Pure.use (isFold76 _) ?_ | refine Pure.use (contains24 l fl hl (cap := []) un77) ?_ | refine Pure.use (index79 l fl hl (cap := [.rp [eI f]]) (enough80 f)) ?_ | (constructor <;> intro hc <;> (try rw [hc]) <;> (replace hc := bp hc) <;> (try simp (disch := omega) only [List.length_map, wrap64, ctr_eq] at hc) <;> try (exfalso; omega)) | (intro nn hnn; generalize hg : upd _ nn _ = σ; refine al hg fun hs => ?_; clear hg) | refine Pure.use (by assumption) ?_ | clear hK K) <;> try (conv => whnf))
    rw [← e]
    exact Done_eq rfl
  · simp at hc
    omega
end Go.Gl

/-
  MF 4: the statement's own functions.
-/
namespace Go.Gl
open Go.Proofs
/-- a box becomes a value -/
theorem letBox {σ : Store} {l : List At} (h : Sat σ l) (i : Nat) {n : Nat} {vs : List V} (hi : l[i]? = some (.box n vs)) : ∃ σ2, Sub σ2 σ ∧ Frz σ σ2 (.p n 0) (.rp vs) ∧ Sat σ2 (l.eraseIdx i) := by
  have hn : σ n = some (.cs vs) := h.get hi
  refine ⟨del σ n, sub_del σ n, .cs hn (del_same σ n) (FrzL.refl _ _ _), fun b hb => ?_, h.2.sublist (List.eraseIdx_sublist _ _)⟩
  refine ok_of (h.1 b (List.mem_of_mem_eraseIdx hb)) fun m hm => ?_
  rw [del_ne]
  intro e; subst e; exact pairwise_apart h.2 hi b hb m rfl hm
attribute [local irreducible] Ctr Done DoneP kIaddr kAppend kAppf kSlice kStore kMkslice kCopy kLookup kMapset CtrF CtrI Sat kLoad kLen LoopR W
theorem among25 (n : Int) (v : MV) : Pure Tryz.prog 25 [.a (eM v), .rp [eI n]] (.b (countM v == n)) := by
  refine ctr25 (Nat.le_of_ble_eq_true rfl) ?_
  have hs : Sat emp [] := Sat.nil
  try (conv => whnf)
  repeat' ((first | refine st ?_ | (refine sq ?_; intro K hK) | (refine si ?_; intro A B hA hB) | (refine hA _ _ ?_; clear hB B hA A) | (refine hB _ _ _ ?_; clear hB B hA A) | (refine hB _ _ fun σ hsub => ?_; clear hB B hA A) | (refine hK _ _ ?_; clear hK K) | refine dr ?_ | refine rk ?_ ?_ | exact fun s e => by cases e; rfl | refine ⟨rfl, ?_⟩ | refine ⟨Nat.le_of_ble_eq_true rfl, ?_⟩ | refine ix ?_ | refine ixF ?_ | refine sk1 ?_ | refine iq fun x hx => ?_ | refine ld ?_ | refine s1 fun σ hs => ?_ | refine sn fun σ hs => ?_ | refine oi ?_ | refine oc ?_ | refine ol fun x hx => ?_ | refine oset fun σ hs => ?_ | refine ap fun v σ hs => ?_ | refine af ?_ | (refine fc (fun x hx hlt hc => ?_) (fun hk hc => ?_) <;> (try rw [hc]) <;> clear hc) | refine Pure.use (counts22 _) ?_ | refine Pure.use (number83 _) ?_ | refine Pure.use (clamp84 _) ?_ | refine Pure.use (int26 _) ?_ | refine Pure.use (contains24 l fl hl (cap := [.rp [eI n]]) (among25 n)) ?_ | (constructor <;> intro hc <;> (try rw [hc]) <;> (replace hc := bp hc) <;> (try simp (disch := omega) only [List.length_map, wrap64, ctr_eq] at hc) <;> try (exfalso; omega)) | (intro nn hnn; generalize hg : upd _ nn _ = σ; refine al hg fun hs => ?_; clear hg) | refine Pure.use (by assumption) ?_ | clear hK K) <;> try (conv => whnf))
  all_goals exact Done_eq rfl
theorem among23 (n : Int) (l : List MV) (fl : Bool) (hl : l.length ≤ maxL) : Pure Tryz.prog 23 [eI n, .rp [.l (l.map eM) fl]] (.b (l.any fun v => countM v == n)) := by
  refine ctr23 (Nat.le_of_ble_eq_true rfl) ?_
  have hs : Sat emp [] := Sat.nil
  try (conv => whnf)
  repeat' ((first | refine st ?_ | (refine sq ?_; intro K hK) | (refine si ?_; intro A B hA hB) | (refine hA _ _ ?_; clear hB B hA A) | (refine hB _ _ _ ?_; clear hB B hA A) | (refine hB _ _ fun σ hsub => ?_; clear hB B hA A) | (refine hK _ _ ?_; clear hK K) | refine dr ?_ | refine rk ?_ ?_ | exact fun s e => by cases e; rfl | refine ⟨rfl, ?_⟩ | refine ⟨Nat.le_of_ble_eq_true rfl, ?_⟩ | refine ix ?_ | refine ixF ?_ | refine sk1 ?_ | refine iq fun x hx => ?_ | refine ld ?_ | refine s1 fun σ hs => ?_ | refine sn fun σ hs => ?_ | refine oi ?_ | refine oc ?_ | refine ol fun x hx => ?_ | refine oset fun σ hs => ?_ | refine ap fun v σ hs => ?_ | refine af ?_ | (refine fc (fun x hx hlt hc => ?_) (fun hk hc => ?_) <;> (try rw [hc]) <;> clear hc) | refine Pure.use (counts22 _) ?_ | refine Pure.use (number83 _) ?_ | refine Pure.use (clamp84 _) ?_ | refine Pure.use (int26 _) ?_ | refine Pure.use (contains24 l fl hl (cap := [.rp [eI n]]) (among25 n)) ?_ | (constructor <;> intro hc <;> (try rw [hc]) <;> (replace hc := bp hc) <;> (try simp (disch := omega) only [List.length_map, wrap64, ctr_eq] at hc) <;> try (exfalso; omega)) | (intro nn hnn; generalize hg : upd _ nn _ = σ; refine al hg fun hs => ?_; clear hg) | refine Pure.use (by assumption) ?_ | clear hK K) <;> try (conv => whnf))
  all_goals exact Done_eq rfl
def stopM (f : Int) (v : MV) : Bool := (countM v == 0) == (f == 5)
theorem stops28 (f : Int) (v : MV) : Pure Tryz.prog 28 [.a (eM v), .rp [eI f]] (.b (stopM f v)) := by
  refine ctr28 (Nat.le_of_ble_eq_true rfl) ?_
  have hs : Sat emp [] := Sat.nil
  try (conv => whnf)
  repeat' ((first | refine st ?_ | (refine sq ?_; intro K hK) | (refine si ?_; intro A B hA hB) | (refine hA _ _ ?_; clear hB B hA A) | (refine hB _ _ _ ?_; clear hB B hA A) | (refine hB _ _ fun σ hsub => ?_; clear hB B hA A) | (refine hK _ _ ?_; clear hK K) | refine dr ?_ | refine rk ?_ ?_ | exact fun s e => by cases e; rfl | refine ⟨rfl, ?_⟩ | refine ⟨Nat.le_of_ble_eq_true rfl, ?_⟩ | refine ix ?_ | refine ixF ?_ | refine sk1 ?_ | refine iq fun x hx => ?_ | refine ld ?_ | refine s1 fun σ hs => ?_ | refine sn fun σ hs => ?_ | refine oi ?_ | refine oc ?_ | refine ol fun x hx => ?_ | refine oset fun σ hs => ?_ | refine ap fun v σ hs => ?_ | refine af ?_ | (refine fc (fun x hx hlt hc => ?_) (fun hk hc => ?_) <;> (try rw [hc]) <;> clear hc) | refine Pure.use (counts22 _) ?_ | refine Pure.use (number83 _) ?_ | refine Pure.use (clamp84 _) ?_ | refine Pure.use (int26 _) ?_ | refine Pure.use (contains24 l fl hl (cap := [.rp [eI n]]) (among25 n)) ?_ | (constructor <;> intro hc <;> (try rw [hc]) <;> (replace hc := bp hc) <;> (try simp (disch := omega) only [List.length_map, wrap64, ctr_eq] at hc) <;> try (exfalso; omega)) | (intro nn hnn; generalize hg : upd _ nn _ = σ; refine al hg fun hs => ?_; clear hg) | refine Pure.use (by assumption) ?_ | clear hK K) <;> try (conv => whnf))
  all_goals exact Done_eq rfl
theorem add27 (a b : MV) (h1 : inM (countM a)) (h2 : inM (countM b)) : Pure Tryz.prog 27 [eI 12, .a (eM a), .a (eM b)] (.a (eM (1, clampM (countM a + countM b)))) := by
  obtain ⟨h1, h3⟩ := h1
  obtain ⟨h2, h4⟩ := h2
  refine ctr27 (Nat.le_of_ble_eq_true rfl) ?_
  have hs : Sat emp [] := Sat.nil
  try (conv => whnf)
  repeat' ((first | refine st ?_ | (refine sq ?_; intro K hK) | (refine si ?_; intro A B hA hB) | (refine hA _ _ ?_; clear hB B hA A) | (refine hB _ _ _ ?_; clear hB B hA A) | (refine hB _ _ fun σ hsub => ?_; clear hB B hA A) | (refine hK _ _ ?_; clear hK K) | refine dr ?_ | refine rk ?_ ?_ | exact fun s e => by cases e; rfl | refine ⟨rfl, ?_⟩ | refine ⟨Nat.le_of_ble_eq_true rfl, ?_⟩ | refine ix ?_ | refine ixF ?_ | refine sk1 ?_ | refine iq fun x hx => ?_ | refine ld ?_ | refine s1 fun σ hs => ?_ | refine sn fun σ hs => ?_ | refine oi ?_ | refine oc ?_ | refine ol fun x hx => ?_ | refine oset fun σ hs => ?_ | refine ap fun v σ hs => ?_ | refine af ?_ | (refine fc (fun x hx hlt hc => ?_) (fun hk hc => ?_) <;> (try rw [hc]) <;> clear hc) | refine Pure.use (counts22 _) ?_ | refine Pure.use (number83 _) ?_ | refine Pure.use (clamp84 _) ?_ | refine Pure.use (int26 _) ?_ | refine Pure.use (contains24 l fl hl (cap := [.rp [eI n]]) (among25 n)) ?_ | (constructor <;> intro hc <;> (try rw [hc]) <;> (replace hc := bp hc) <;> (try simp (disch := omega) only [List.length_map, wrap64, ctr_eq] at hc) <;> try (exfalso; omega)) | (intro nn hnn; generalize hg : upd _ nn _ = σ; refine al hg fun hs => ?_; clear hg) | refine Pure.use (by assumption) ?_ | clear hK K) <;> try (conv => whnf))
  all_goals first | (exfalso; omega) | (rw [wrap64 (by omega) (by omega)]; exact Done_eq rfl)
end Go.Gl

namespace Go.Gl
theorem idx_all {p : MV → Bool} (h : ∀ v, p v = false) : ∀ (l : List MV) (k : Nat), idxF p k l = -1
  | [], _ => rfl
  | v :: r, k => by
    simp only [idxF, h v, cond_false]
    exact idx_all h r (k + 1)
theorem need_sum {f : Int} (hf : f = 2 ∨ f = 3 ∨ f = 4) (l : List MV) : needN f l = l.length := by
  have : ∀ v, enoughM f v = false := fun v => by
    rcases hf with rfl | rfl | rfl <;> rfl
  unfold needN
  rw [idx_all this, if_pos (by omega)]
theorem need_one (l : List MV) (h : l ≠ []) : needN 1 l = 1 := by
  obtain ⟨x, r, rfl⟩ := List.exists_cons_of_ne_nil h
  rfl
/-- the folded value -/
abbrev outM (f : Int) (l : List MV) : MV := foldV f (l.take (needN f l))
theorem out_one {x : MV} {r : List MV} : outM 1 (x :: r) = x := rfl
theorem clamp_id {n : Int} (h : inM n) : clampM n = n := by unfold inM at h; unfold clampM; omega
theorem out_sum {f : Int} (hf : f = 2 ∨ f = 3 ∨ f = 4) {x : MV} {r : List MV} (h : ∀ v ∈ x :: r, inM (countM v)) : outM f (x :: r) = (1, sumM f x r) := by
  unfold outM
  rw [need_sum hf, List.take_length]
  have e : foldV f (x :: r) = (1, clampM (sumM f x r)) := by rcases hf with rfl | rfl | rfl <;> rfl
  rw [e]
  have := clamp_id (sum_in (f := f) r (h x (.head _)) fun v hv => h v (.tail _ hv))
  unfold sumM
  rw [this]
theorem min_le : ∀ (r : List MV) (n : Int), r.foldl (fun n v => wayM 3 n (countM v)) n ≤ n ∧ (∀ v ∈ r, r.foldl (fun n v => wayM 3 n (countM v)) n ≤ countM v) ∧ (r.foldl (fun n v => wayM 3 n (countM v)) n = n ∨ ∃ v ∈ r, countM v = r.foldl (fun n v => wayM 3 n (countM v)) n)
  | [], n => ⟨Int.le_refl _, fun _ h => (by cases h), .inl rfl⟩
  | u :: r, n => by
    obtain ⟨h1, h2, h3⟩ := min_le r (wayM 3 n (countM u))
    have e : wayM 3 n (countM u) = min n (countM u) := rfl
    simp only [List.foldl_cons]
    refine ⟨by omega, fun v hv => ?_, ?_⟩
    · rcases List.mem_cons.1 hv with rfl | hv
      · omega
      · exact h2 v hv
    · rcases h3 with h3 | ⟨v, hv, h3⟩
      · by_cases hc : n ≤ countM u
        · exact .inl (by omega)
        · exact .inr ⟨u, .head _, by omega⟩
      · exact .inr ⟨v, .tail _ hv, h3⟩
theorem max_le : ∀ (r : List MV) (n : Int), n ≤ r.foldl (fun n v => wayM 4 n (countM v)) n ∧ (∀ v ∈ r, countM v ≤ r.foldl (fun n v => wayM 4 n (countM v)) n) ∧ (r.foldl (fun n v => wayM 4 n (countM v)) n = n ∨ ∃ v ∈ r, countM v = r.foldl (fun n v => wayM 4 n (countM v)) n)
  | [], n => ⟨Int.le_refl _, fun _ h => (by cases h), .inl rfl⟩
  | u :: r, n => by
    obtain ⟨h1, h2, h3⟩ := max_le r (wayM 4 n (countM u))
    have e : wayM 4 n (countM u) = max n (countM u) := rfl
    simp only [List.foldl_cons]
    refine ⟨by omega, fun v hv => ?_, ?_⟩
    · rcases List.mem_cons.1 hv with rfl | hv
      · omega
      · exact h2 v hv
    · rcases h3 with h3 | ⟨v, hv, h3⟩
      · by_cases hc : countM u ≤ n
        · exact .inl (by omega)
        · exact .inr ⟨u, .head _, by omega⟩
      · exact .inr ⟨v, .tail _ hv, h3⟩
/-- a first place where something is so -/
theorem idx_spec {p : MV → Bool} : ∀ (l : List MV) (k : Nat), (idxF p k l = -1 ∧ ∀ v ∈ l, p v = false) ∨ ∃ (i : Nat) (v : MV), idxF p k l = (k + i : Nat) ∧ l[i]? = some v ∧ p v = true ∧ ∀ u ∈ l.take i, p u = false
  | [], _ => .inl ⟨rfl, fun _ h => by cases h⟩
  | v :: r, k => by
    simp only [idxF]
    cases hp : p v with
    | true => exact .inr ⟨0, v, by simp, rfl, hp, fun _ h => by cases h⟩
    | false =>
      rcases idx_spec (p := p) r (k + 1) with ⟨h1, h2⟩ | ⟨i, u, h1, h2, h3, h4⟩
      · refine .inl ⟨h1, fun u hu => ?_⟩
        rcases List.mem_cons.1 hu with rfl | hu
        · exact hp
        · exact h2 u hu
      · refine .inr ⟨i + 1, u, by simp only [cond_false]; rw [h1]; congr 1; omega, h2, h3, fun w hw => ?_⟩
        simp only [List.take_succ_cons, List.mem_cons] at hw
        rcases hw with rfl | hw
        · exact hp
        · exact h4 w hw
theorem enough_stop {f : Int} (hf : f = 5 ∨ f = 6) (v : MV) : enoughM f v = stopM f v := by
  rcases hf with rfl | rfl <;> simp only [enoughM, stopM, bne] <;> cases countM v == 0 <;> rfl
/-- by MetaAll and MetaAny: all up to the value that stops, or all -/
theorem out_stop {f : Int} (hf : f = 5 ∨ f = 6) {l : List MV} (hne : l ≠ []) : ∃ v, l[needN f l - 1]? = some v ∧ outM f l = v ∧ (l.take (needN f l - 1)).any (stopM f) = false ∧ (needN f l < l.length → stopM f v = true) := by
  have hp := need_pos (f := f) hne
  have hlen : needN f l - 1 < l.length := by omega
  have hout : outM f l = l[needN f l - 1] := by
    have hne2 : l.take (needN f l) ≠ [] := fun h => by
      have := congrArg List.length h
      rw [List.length_take] at this
      simp only [List.length_nil] at this
      omega
    obtain ⟨x, r, hx⟩ := List.exists_cons_of_ne_nil hne2
    have e : foldV f (x :: r) = ((x :: r).getLast?).getD (0, 0) := by rcases hf with rfl | rfl <;> rfl
    unfold outM
    rw [hx, e, ← hx, List.getLast?_eq_getElem?, List.length_take, Nat.min_eq_left hp.2, List.getElem?_take, if_pos (by omega), List.getElem?_eq_getElem hlen]
    rfl
  refine ⟨l[needN f l - 1], List.getElem?_eq_getElem hlen, hout, ?_, ?_⟩
  · rw [List.any_eq_false]
    intro u hu
    rw [← enough_stop hf]
    rcases idx_spec (p := enoughM f) l 0 with ⟨h1, h2⟩ | ⟨i, v, h1, h2, h3, h4⟩
    · rw [h2 u (List.mem_of_mem_take hu)]; simp
    · have : needN f l - 1 = i := by unfold needN; rw [h1]; split <;> omega
      rw [this] at hu
      rw [h4 u hu]; simp
  · intro hlt
    rw [← enough_stop hf]
    rcases idx_spec (p := enoughM f) l 0 with ⟨h1, h2⟩ | ⟨i, v, h1, h2, h3, h4⟩
    · exfalso
      unfold needN at hlt
      rw [h1, if_pos (by omega)] at hlt
      omega
    · have e : needN f l - 1 = i := by unfold needN; rw [h1]; split <;> omega
      have h5 : l[needN f l - 1]? = some v := by rw [e]; exact h2
      rw [List.getElem?_eq_getElem hlen] at h5
      rw [Option.some.inj h5]
      exact h3
end Go.Gl
