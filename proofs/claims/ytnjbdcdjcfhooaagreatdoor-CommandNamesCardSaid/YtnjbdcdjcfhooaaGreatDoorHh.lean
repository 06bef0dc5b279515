/-
  Own work: walks and laws of the functions that the statement reaches; the statement itself stands in the last text.
-/
import Derived.Test.YtnjbdcdjcfhooaaGreatDoorHg
namespace Go.Proofs.YtnjbdcdjcfhooaaGreatDoor
open Go.E
set_option linter.all false
set_option maxRecDepth 20000
set_option maxHeartbeats 8000000
def findS (ws : List (List UInt8)) (s : List UInt8) : Int := if s = [] then -1 else idxS ws s 0
theorem strs_get {ws : List (List UInt8)} {j : Nat} (h : j < ws.length) : (ws.map EV.str)[j]? = some (.str (ws.getD j [])) := by
  simp [List.getD_eq_getElem?_getD, List.getElem?_eq_getElem h]
def putS (c : Cmd) (a : UInt8) (t : Tok) : Cmd × Bool :=
  if a.toNat = 100 then ({c with doc := t.text}, decide (t.kind = 1 ∨ t.kind = 3)) else
  if a.toNat = 120 then ({c with text := t.text}, decide (t.kind = 1 ∨ t.kind = 3)) else
  if a.toNat = 113 then ({c with text := t.text}, decide (t.kind = 3)) else
  if a.toNat = 105 then ({c with id := IntKind.u32.wrap t.num}, decide (t.kind = 2 ∧ t.num < 4294967296)) else
  if a.toNat = 102 then ({c with frm := t.num}, decide (t.kind = 2)) else
  if a.toNat = 116 then ({c with to := t.num}, decide (t.kind = 2)) else
  if a.toNat = 103 then (if t.kind = 1 then ({c with grav := IntKind.u8.wrap (findS gravL t.text)}, decide (0 ≤ findS gravL t.text)) else ({c with grav := IntKind.u8.wrap t.num}, decide (t.kind = 2 ∧ t.num < 256))) else
  if t.kind = 1 then ({c with frm := findS motL t.text}, decide (0 ≤ findS motL t.text)) else ({c with frm := t.num}, decide (t.kind = 2))
def refL : List (List UInt8 × List UInt8) := [([], []), ([110, 101, 119], [100]), ([100, 114, 111, 112], [100]), ([114, 101, 110, 97, 109, 101], [100, 120]), ([105, 110, 115, 101, 114, 116], [100, 102, 113]), ([100, 101, 108, 101, 116, 101], [100, 102, 116]), ([114, 101, 112, 108, 97, 99, 101], [100, 102, 116, 113]), ([109, 97, 114, 107], [100, 105, 102, 103]), ([117, 110, 109, 97, 114, 107], [100, 105]), ([99, 117, 114, 115, 111, 114], [100, 105, 102, 116]), ([109, 111, 118, 101], [100, 105, 109, 116]), ([117, 110, 99, 117, 114, 115, 111, 114], [100, 105]), ([117, 110, 100, 111], [100]), ([114, 101, 100, 111], [100]), ([114, 101, 97, 100], [100, 102, 116]), ([108, 101, 110, 103, 116, 104], [100]), ([119, 104, 101, 114, 101], [100, 102]), ([112, 108, 97, 99, 101], [100, 102, 116]), ([109, 97, 114, 107, 115], [100]), ([99, 117, 114, 115, 111, 114, 115], [100]), ([100, 111, 99, 115], []), ([102, 105, 110, 100], [100, 102, 113]), ([115, 116, 97, 116], [100])]
def rowsE : List (List UInt8 × List UInt8) → List EV
  | [] => []
  | (a, b) :: r => .str a :: .str b :: rowsE r
end Go.Proofs.YtnjbdcdjcfhooaaGreatDoor
namespace Go.Proofs.YtnjbdcdjcfhooaaGreatDoor
open Go.E
set_option linter.all false
set_option maxRecDepth 20000
set_option maxHeartbeats 8000000
@[simp] theorem allBelow_rows (k : Nat) : ∀ r, allBelow k (rowsE r)
  | [] => trivial
  | (a, b) :: r => by simp [rowsE, allBelow, EV.bel, allBelow_rows k r]
@[simp] theorem renL_rows (π : Nat → Nat) : ∀ r, renL π (rowsE r) = rowsE r
  | [] => rfl
  | (a, b) :: r => by simp [rowsE, renL, EV.ren, renL_rows π r]
attribute [go_sem] renL_rows
theorem toks_cells {l : List Tok} {i : Nat} (h : i < l.length) : (toksE l)[i * 4]? = some (.int .i64 (tokAt l i).kind) ∧ (toksE l)[i * 4 + 1]? = some (.int .i64 (tokAt l i).at_) ∧ (toksE l)[i * 4 + 2]? = some (.str (tokAt l i).text) := by
  have := toks_at h
  have h0 : ∀ j, j < 4 → (((toksE l).drop (i * 4)).take 4)[j]? = (toksE l)[i * 4 + j]? := fun j hj => by simp [List.getElem?_take, List.getElem?_drop, hj]
  refine ⟨?_, ?_, ?_⟩
  · rw [show i * 4 = i * 4 + 0 from rfl, ← h0 0 (by omega), this]; rfl
  · rw [← h0 1 (by omega), this]; rfl
  · rw [← h0 2 (by omega), this]; rfl
def argsOf (k : Nat) : List UInt8 := (refL.getD k ([], [])).2
end Go.Proofs.YtnjbdcdjcfhooaaGreatDoor
namespace Go.Proofs.YtnjbdcdjcfhooaaGreatDoor
open Go.E
set_option linter.all false
set_option maxRecDepth 20000
set_option maxHeartbeats 8000000
def okTok (t : Tok) : Prop := (t.kind = 1 ∨ t.kind = 2 ∨ t.kind = 3) ∧ (t.kind = 1 → t.text ≠ []) ∧ t.num ≤ 9223372036854775807
def partOf (a : UInt8) : Nat :=
  if a.toNat = 100 then 60 else if a.toNat = 120 then 61 else if a.toNat = 113 then 63 else if a.toNat = 105 then 65 else
  if a.toNat = 102 then 62 else if a.toNat = 116 then 64 else if a.toNat = 103 then 66 else 67
def letter (a : UInt8) : Prop := a.toNat = 100 ∨ a.toNat = 120 ∨ a.toNat = 113 ∨ a.toNat = 105 ∨ a.toNat = 102 ∨ a.toNat = 116 ∨ a.toNat = 103 ∨ a.toNat = 109
theorem partS_put {a : UInt8} (ha : letter a) {all : List Tok} {size i : Nat} {c : Cmd} (h : i < all.length) (ht : okTok (tokAt all i)) :
    ((putS c a (tokAt all i)).2 = true → partS (partOf a) all size c i = ((putS c a (tokAt all i)).1, i + 1, none)) ∧
    ((putS c a (tokAt all i)).2 = false → (partS (partOf a) all size c i).2.2 = some (tokAt all i).at_) := by
  have hg := idxS_bd gravL (tokAt all i).text 0
  rw [show gravL.length = 2 from rfl] at hg
  have hm : (tokAt all i).kind = 1 → findS motL (tokAt all i).text = idxS motL (tokAt all i).text 0 := fun h => by unfold findS; rw [if_neg (ht.2.1 h)]
  have hgf : findS gravL (tokAt all i).text = idxS gravL (tokAt all i).text 0 := by
    unfold findS
    split
    · rename_i e; rw [e]; rfl
    · rfl
  obtain ⟨ht1, -, ht3⟩ := ht
  unfold partS putS partOf
  rw [hgf]
  generalize tokAt all i = t at *
  generalize idxS gravL t.text 0 = gx at *
  have hn : ¬ all.length ≤ i := by omega
  rcases ha with ha | ha | ha | ha | ha | ha | ha | ha
  all_goals
    simp only [ha, Nat.reduceEqDiff, if_true, if_false, false_and, hn, or_false, or_true, true_or, false_or, and_false]
    by_cases hk : t.kind = 1
    · simp only [hk, if_true, Nat.reduceEqDiff, if_false, true_or, or_false, decide_eq_true_eq, decide_eq_false_iff_not, hm hk, decide_true, false_and, decide_false, not_true_eq_false, false_implies, and_true, true_and, reduceCtorEq, forall_const]
      try
        constructor
        · intro h; (repeat' split) <;> first | rfl | (exfalso; omega) | (rw [wrapU8E (by omega) (by omega)]) | (rw [wrapU32E (by omega) (by omega)])
        · intro h; (repeat' split) <;> first | rfl | (exfalso; omega)
    · simp only [hk, if_false, false_or, decide_eq_true_eq, decide_eq_false_iff_not]
      constructor
      · intro h; (repeat' split) <;> first | rfl | (exfalso; omega) | (rw [wrapU8E (by omega) (by omega)]) | (rw [wrapU32E (by omega) (by omega)])
      · intro h; (repeat' split) <;> first | rfl | (exfalso; omega)
theorem runP_bad (all : List Tok) (size : Nat) : ∀ (ps : List Nat) (c : Cmd) (i a : Nat), (runP all size ps (c, i, some a)).2.2 = some a
  | [], _, _, _ => rfl
  | g :: r, c, i, a => by
    simp only [runP, List.foldl]
    exact runP_bad all size r _ _ a
end Go.Proofs.YtnjbdcdjcfhooaaGreatDoor
