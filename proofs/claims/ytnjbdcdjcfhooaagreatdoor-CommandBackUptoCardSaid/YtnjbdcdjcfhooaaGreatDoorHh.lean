/-
  Own work: walks and laws of the functions that the statement reaches; the statement itself stands in the last text.
-/
import Derived.Test.YtnjbdcdjcfhooaaGreatDoorHg
namespace Go.Proofs.YtnjbdcdjcfhooaaGreatDoor
open Go.E
set_option linter.all false
set_option maxRecDepth 20000
set_option maxHeartbeats 8000000
def findS (ws : List (List UInt8)) (s : List UInt8) : Int := if s = [] then -1 else idxS ws s 0
def putS (c : Cmd) (a : UInt8) (t : Tok) : Cmd × Bool :=
  if a.toNat = 100 then ({c with doc := t.text}, decide (t.kind = 1 ∨ t.kind = 3)) else
  if a.toNat = 120 then ({c with text := t.text}, decide (t.kind = 1 ∨ t.kind = 3)) else
  if a.toNat = 113 then ({c with text := t.text}, decide (t.kind = 3)) else
  if a.toNat = 105 then ({c with id := IntKind.u32.wrap t.num}, decide (t.kind = 2 ∧ t.num < 4294967296)) else
  if a.toNat = 102 then ({c with frm := t.num}, decide (t.kind = 2)) else
  if a.toNat = 116 then ({c with to := t.num}, decide (t.kind = 2)) else
  if a.toNat = 103 then (if t.kind = 1 then ({c with grav := IntKind.u8.wrap (findS gravL t.text)}, decide (0 ≤ findS gravL t.text)) else ({c with grav := IntKind.u8.wrap t.num}, decide (t.kind = 2 ∧ t.num < 256))) else
  if t.kind = 1 then ({c with frm := findS motL t.text}, decide (0 ≤ findS motL t.text)) else ({c with frm := t.num}, decide (t.kind = 2))
def refL : List (List UInt8 × List UInt8) := [([], []), ([110, 101, 119], [100]), ([100, 114, 111, 112], [100]), ([114, 101, 110, 97, 109, 101], [100, 120]), ([105, 110, 115, 101, 114, 116], [100, 102, 113]), ([100, 101, 108, 101, 116, 101], [100, 102, 116]), ([114, 101, 112, 108, 97, 99, 101], [100, 102, 116, 113]), ([109, 97, 114, 107], [100, 105, 102, 103]), ([117, 110, 109, 97, 114, 107], [100, 105]), ([99, 117, 114, 115, 111, 114], [100, 105, 102, 116]), ([109, 111, 118, 101], [100, 105, 109, 116]), ([117, 110, 99, 117, 114, 115, 111, 114], [100, 105]), ([117, 110, 100, 111], [100]), ([114, 101, 100, 111], [100]), ([114, 101, 97, 100], [100, 102, 116]), ([108, 101, 110, 103, 116, 104], [100]), ([119, 104, 101, 114, 101], [100, 102]), ([112, 108, 97, 99, 101], [100, 102, 116]), ([109, 97, 114, 107, 115], [100]), ([99, 117, 114, 115, 111, 114, 115], [100]), ([100, 111, 99, 115], []), ([102, 105, 110, 100], [100, 102, 113]), ([115, 116, 97, 116], [100])]
def rowsE : List (List UInt8 × List UInt8) → List EV
  | [] => []
  | (a, b) :: r => .str a :: .str b :: rowsE r
end Go.Proofs.YtnjbdcdjcfhooaaGreatDoor
namespace Go.Proofs.YtnjbdcdjcfhooaaGreatDoor
open Go.E
set_option linter.all false
set_option maxRecDepth 20000
set_option maxHeartbeats 8000000
def kindUp (t : Tok) : Nat → Nat
  | 0 => 0
  | i + 1 => if 1 ≤ i ∧ t.kind = 1 ∧ t.text = (refL.getD i ([], [])).1 then i else kindUp t i
theorem kindUp_lt (t : Tok) : ∀ i, kindUp t i ≤ i - 1
  | 0 => by simp [kindUp]
  | i + 1 => by
    have := kindUp_lt t i
    rw [kindUp]
    split <;> omega
@[simp] theorem allBelow_rows (k : Nat) : ∀ r, allBelow k (rowsE r)
  | [] => trivial
  | (a, b) :: r => by simp [rowsE, allBelow, EV.bel, allBelow_rows k r]
@[simp] theorem renL_rows (π : Nat → Nat) : ∀ r, renL π (rowsE r) = rowsE r
  | [] => rfl
  | (a, b) :: r => by simp [rowsE, renL, EV.ren, renL_rows π r]
attribute [go_sem] renL_rows
theorem toks_cells {l : List Tok} {i : Nat} (h : i < l.length) : (toksE l)[i * 4]? = some (.int .i64 (tokAt l i).kind) ∧ (toksE l)[i * 4 + 1]? = some (.int .i64 (tokAt l i).at_) ∧ (toksE l)[i * 4 + 2]? = some (.str (tokAt l i).text) := by
  have := toks_at h
  have h0 : ∀ j, j < 4 → (((toksE l).drop (i * 4)).take 4)[j]? = (toksE l)[i * 4 + j]? := fun j hj => by simp [List.getElem?_take, List.getElem?_drop, hj]
  refine ⟨?_, ?_, ?_⟩
  · rw [show i * 4 = i * 4 + 0 from rfl, ← h0 0 (by omega), this]; rfl
  · rw [← h0 1 (by omega), this]; rfl
  · rw [← h0 2 (by omega), this]; rfl
def putR (args : List UInt8) (all : List Tok) (i : Nat) (c : Cmd) : Cmd × Option Nat :=
  if h : i < all.length then
    if args.length < i then (c, some (tokAt all i).at_)
    else if (putS c (args.getD (i - 1) 0) (tokAt all i)).2 = true then putR args all (i + 1) (putS c (args.getD (i - 1) 0) (tokAt all i)).1
    else (c, some (tokAt all i).at_)
  else (c, none)
termination_by all.length - i
theorem putR_step {args : List UInt8} {all : List Tok} {i : Nat} {c : Cmd} (h : i < all.length) : putR args all i c =
    if args.length < i then (c, some (tokAt all i).at_)
    else if (putS c (args.getD (i - 1) 0) (tokAt all i)).2 = true then putR args all (i + 1) (putS c (args.getD (i - 1) 0) (tokAt all i)).1
    else (c, some (tokAt all i).at_) := by
  rw [putR, dif_pos h]
theorem putR_end {args : List UInt8} {all : List Tok} {i : Nat} {c : Cmd} (h : all.length ≤ i) : putR args all i c = (c, none) := by
  rw [putR, dif_neg (by omega)]
def argsOf (k : Nat) : List UInt8 := (refL.getD k ([], [])).2
def rparseT (all : List Tok) (size : Nat) : Cmd × Option Nat :=
  if kindUp (tokAt all 0) 23 = 0 then (zCmd, some (tokAt all 0).at_)
  else match (putR (argsOf (kindUp (tokAt all 0) 23)) all 1 ⟨kindUp (tokAt all 0) 23, [], 0, 0, 0, [], 0⟩).2 with
    | some a => (zCmd, some a)
    | none => if all.length - 1 < (argsOf (kindUp (tokAt all 0) 23)).length ∧ ¬ (kindUp (tokAt all 0) 23 = 22 ∧ all.length = 1) then (zCmd, some size)
      else ((putR (argsOf (kindUp (tokAt all 0) 23)) all 1 ⟨kindUp (tokAt all 0) 23, [], 0, 0, 0, [], 0⟩).1, none)
def rparseP (l : List UInt8) : Cmd × Nat × Nat :=
  if (scanL l).2.1 ≠ 0 then (zCmd, (scanL l).2.1, (scanL l).2.2)
  else if (scanL l).1.length = 0 then (zCmd, 260, l.length)
  else match (rparseT (scanL l).1 l.length).2 with
    | some a => (zCmd, 260, a)
    | none => ((rparseT (scanL l).1 l.length).1, 0, 0)
end Go.Proofs.YtnjbdcdjcfhooaaGreatDoor
namespace Go.Proofs.YtnjbdcdjcfhooaaGreatDoor
open Go.E
set_option linter.all false
set_option maxRecDepth 20000
set_option maxHeartbeats 8000000
def okTok (t : Tok) : Prop := (t.kind = 1 ∨ t.kind = 2 ∨ t.kind = 3) ∧ (t.kind = 1 → t.text ≠ []) ∧ t.num ≤ 9223372036854775807
def partOf (a : UInt8) : Nat :=
  if a.toNat = 100 then 60 else if a.toNat = 120 then 61 else if a.toNat = 113 then 63 else if a.toNat = 105 then 65 else
  if a.toNat = 102 then 62 else if a.toNat = 116 then 64 else if a.toNat = 103 then 66 else 67
def letter (a : UInt8) : Prop := a.toNat = 100 ∨ a.toNat = 120 ∨ a.toNat = 113 ∨ a.toNat = 105 ∨ a.toNat = 102 ∨ a.toNat = 116 ∨ a.toNat = 103 ∨ a.toNat = 109
theorem partS_put {a : UInt8} (ha : letter a) {all : List Tok} {size i : Nat} {c : Cmd} (h : i < all.length) (ht : okTok (tokAt all i)) :
    ((putS c a (tokAt all i)).2 = true → partS (partOf a) all size c i = ((putS c a (tokAt all i)).1, i + 1, none)) ∧
    ((putS c a (tokAt all i)).2 = false → (partS (partOf a) all size c i).2.2 = some (tokAt all i).at_) := by
  have hg := idxS_bd gravL (tokAt all i).text 0
  rw [show gravL.length = 2 from rfl] at hg
  have hm : (tokAt all i).kind = 1 → findS motL (tokAt all i).text = idxS motL (tokAt all i).text 0 := fun h => by unfold findS; rw [if_neg (ht.2.1 h)]
  have hgf : findS gravL (tokAt all i).text = idxS gravL (tokAt all i).text 0 := by
    unfold findS
    split
    · rename_i e; rw [e]; rfl
    · rfl
  obtain ⟨ht1, -, ht3⟩ := ht
  unfold partS putS partOf
  rw [hgf]
  generalize tokAt all i = t at *
  generalize idxS gravL t.text 0 = gx at *
  have hn : ¬ all.length ≤ i := by omega
  rcases ha with ha | ha | ha | ha | ha | ha | ha | ha
  all_goals
    simp only [ha, Nat.reduceEqDiff, if_true, if_false, false_and, hn, or_false, or_true, true_or, false_or, and_false]
    by_cases hk : t.kind = 1
    · simp only [hk, if_true, Nat.reduceEqDiff, if_false, true_or, or_false, decide_eq_true_eq, decide_eq_false_iff_not, hm hk, decide_true, false_and, decide_false, not_true_eq_false, false_implies, and_true, true_and, reduceCtorEq, forall_const]
      try
        constructor
        · intro h; (repeat' split) <;> first | rfl | (exfalso; omega) | (rw [wrapU8E (by omega) (by omega)]) | (rw [wrapU32E (by omega) (by omega)])
        · intro h; (repeat' split) <;> first | rfl | (exfalso; omega)
    · simp only [hk, if_false, false_or, decide_eq_true_eq, decide_eq_false_iff_not]
      constructor
      · intro h; (repeat' split) <;> first | rfl | (exfalso; omega) | (rw [wrapU8E (by omega) (by omega)]) | (rw [wrapU32E (by omega) (by omega)])
      · intro h; (repeat' split) <;> first | rfl | (exfalso; omega)
theorem partS_end {a : UInt8} (ha : letter a) {all : List Tok} {size i : Nat} {c : Cmd} (h : all.length ≤ i) : (partS (partOf a) all size c i).2.2 = some size := by
  unfold partS partOf
  rcases ha with ha | ha | ha | ha | ha | ha | ha | ha
  all_goals simp only [ha, Nat.reduceEqDiff, if_true, if_false, false_and, h, or_false, or_true, true_or, false_or, and_false]
theorem runP_bad (all : List Tok) (size : Nat) : ∀ (ps : List Nat) (c : Cmd) (i a : Nat), (runP all size ps (c, i, some a)).2.2 = some a
  | [], _, _, _ => rfl
  | g :: r, c, i, a => by
    simp only [runP, List.foldl]
    exact runP_bad all size r _ _ a
def finP (r : Cmd × Option Nat) : Cmd × Nat × Nat := match r.2 with
  | some a => (zCmd, 260, a)
  | none => (r.1, 0, 0)
theorem finP_bad (all : List Tok) {r : Cmd × Nat × Option Nat} {a : Nat} (h : r.2.2 = some a) : finP (endP all r) = (zCmd, 260, a) := by
  unfold finP endP
  simp only [h, orO]
  by_cases hi : r.2.1 < all.length <;> simp only [hi, if_true, if_false]
theorem run_put (A : List UInt8) (hA : ∀ a ∈ A, letter a) (all : List Tok) (hall : ∀ i, i < all.length → okTok (tokAt all i)) (size : Nat) : ∀ (n i : Nat) (c : Cmd), all.length - i = n → 1 ≤ i → i ≤ all.length → i ≤ A.length + 1 →
    finP (endP all (runP all size ((A.drop (i - 1)).map partOf) (c, i, none))) = match (putR A all i c).2 with
      | some a => (zCmd, 260, a)
      | none => if all.length - 1 < A.length then (zCmd, 260, size) else ((putR A all i c).1, 0, 0) := by
  intro n
  induction n with
  | zero =>
    intro i c hn h1 h2 h3
    have hi : i = all.length := by omega
    rw [putR_end (by omega)]
    simp only
    by_cases hr : i - 1 < A.length
    · rw [if_pos (by omega), List.drop_eq_getElem_cons hr]
      simp only [List.map_cons, runP, List.foldl]
      have he := partS_end (hA _ (List.getElem_mem hr)) (size := size) (c := c) (show all.length ≤ i by omega)
      refine finP_bad all ?_
      have : stepP all size (c, i, none) (partOf A[i - 1]) = ((partS (partOf A[i - 1]) all size c i).1, (partS (partOf A[i - 1]) all size c i).2.1, some size) := by simp only [stepP, orO, he]
      rw [this]
      exact runP_bad all size _ _ _ _
    · rw [if_neg (by omega), List.drop_eq_nil_of_le (by omega)]
      simp only [List.map_nil, runP, List.foldl, endP, finP, hi, Nat.lt_irrefl, if_false]
  | succ n ih =>
    intro i c hn h1 h2 h3
    have hi : i < all.length := by omega
    rw [putR_step hi]
    by_cases hr : i - 1 < A.length
    · rw [if_neg (by omega), List.drop_eq_getElem_cons hr]
      have e : A.getD (i - 1) 0 = A[i - 1] := by rw [List.getD_eq_getElem?_getD, List.getElem?_eq_getElem hr]; rfl
      rw [e]
      obtain ⟨p1, p2⟩ := partS_put (hA _ (List.getElem_mem hr)) (size := size) (c := c) hi (hall i hi)
      simp only [List.map_cons, runP, List.foldl]
      cases hok : (putS c A[i - 1] (tokAt all i)).2 with
      | true =>
        have hst : stepP all size (c, i, none) (partOf A[i - 1]) = ((putS c A[i - 1] (tokAt all i)).1, i + 1, none) := by simp only [stepP, orO, p1 hok]
        rw [hst]
        have := ih (i + 1) (putS c A[i - 1] (tokAt all i)).1 (by omega) (by omega) (by omega) (by omega)
        simp only [runP] at this
        rw [show i + 1 - 1 = i - 1 + 1 by omega] at this
        rw [this]
        simp only [if_true]
      | false =>
        have hst : stepP all size (c, i, none) (partOf A[i - 1]) = ((partS (partOf A[i - 1]) all size c i).1, (partS (partOf A[i - 1]) all size c i).2.1, some (tokAt all i).at_) := by simp only [stepP, orO, p2 hok]
        rw [hst]
        simp only [Bool.false_eq_true, if_false]
        exact finP_bad all (runP_bad all size _ _ _ _)
    · rw [if_pos (by omega), List.drop_eq_nil_of_le (by omega)]
      simp only [List.map_nil, runP, List.foldl, endP, finP, hi, if_true, orO]
theorem form_kind (t : Tok) (hk : t.kind = 1) : (formOf t.text = none ∧ kindUp t 23 = 0) ∨ (∃ k : Nat, formOf t.text = some ((k : Int), (argsOf k).map partOf) ∧ kindUp t 23 = k ∧ 1 ≤ k ∧ k ≠ 22 ∧ ∀ a ∈ argsOf k, letter a) ∨ (formOf t.text = some (22, [68]) ∧ kindUp t 23 = 22) := by
  by_cases w1 : t.text = [110, 101, 119]
  · refine .inr (.inl ⟨1, by rw [w1]; rfl, by simp [kindUp, refL, hk, w1], by decide, by decide, by simp [argsOf, refL, letter]⟩)
  by_cases w2 : t.text = [100, 114, 111, 112]
  · refine .inr (.inl ⟨2, by rw [w2]; rfl, by simp [kindUp, refL, hk, w2], by decide, by decide, by simp [argsOf, refL, letter]⟩)
  by_cases w3 : t.text = [114, 101, 110, 97, 109, 101]
  · refine .inr (.inl ⟨3, by rw [w3]; rfl, by simp [kindUp, refL, hk, w3], by decide, by decide, by simp [argsOf, refL, letter]⟩)
  by_cases w4 : t.text = [105, 110, 115, 101, 114, 116]
  · refine .inr (.inl ⟨4, by rw [w4]; rfl, by simp [kindUp, refL, hk, w4], by decide, by decide, by simp [argsOf, refL, letter]⟩)
  by_cases w5 : t.text = [100, 101, 108, 101, 116, 101]
  · refine .inr (.inl ⟨5, by rw [w5]; rfl, by simp [kindUp, refL, hk, w5], by decide, by decide, by simp [argsOf, refL, letter]⟩)
  by_cases w6 : t.text = [114, 101, 112, 108, 97, 99, 101]
  · refine .inr (.inl ⟨6, by rw [w6]; rfl, by simp [kindUp, refL, hk, w6], by decide, by decide, by simp [argsOf, refL, letter]⟩)
  by_cases w7 : t.text = [109, 97, 114, 107]
  · refine .inr (.inl ⟨7, by rw [w7]; rfl, by simp [kindUp, refL, hk, w7], by decide, by decide, by simp [argsOf, refL, letter]⟩)
  by_cases w8 : t.text = [117, 110, 109, 97, 114, 107]
  · refine .inr (.inl ⟨8, by rw [w8]; rfl, by simp [kindUp, refL, hk, w8], by decide, by decide, by simp [argsOf, refL, letter]⟩)
  by_cases w9 : t.text = [99, 117, 114, 115, 111, 114]
  · refine .inr (.inl ⟨9, by rw [w9]; rfl, by simp [kindUp, refL, hk, w9], by decide, by decide, by simp [argsOf, refL, letter]⟩)
  by_cases w10 : t.text = [109, 111, 118, 101]
  · refine .inr (.inl ⟨10, by rw [w10]; rfl, by simp [kindUp, refL, hk, w10], by decide, by decide, by simp [argsOf, refL, letter]⟩)
  by_cases w11 : t.text = [117, 110, 99, 117, 114, 115, 111, 114]
  · refine .inr (.inl ⟨11, by rw [w11]; rfl, by simp [kindUp, refL, hk, w11], by decide, by decide, by simp [argsOf, refL, letter]⟩)
  by_cases w12 : t.text = [117, 110, 100, 111]
  · refine .inr (.inl ⟨12, by rw [w12]; rfl, by simp [kindUp, refL, hk, w12], by decide, by decide, by simp [argsOf, refL, letter]⟩)
  by_cases w13 : t.text = [114, 101, 100, 111]
  · refine .inr (.inl ⟨13, by rw [w13]; rfl, by simp [kindUp, refL, hk, w13], by decide, by decide, by simp [argsOf, refL, letter]⟩)
  by_cases w14 : t.text = [114, 101, 97, 100]
  · refine .inr (.inl ⟨14, by rw [w14]; rfl, by simp [kindUp, refL, hk, w14], by decide, by decide, by simp [argsOf, refL, letter]⟩)
  by_cases w15 : t.text = [108, 101, 110, 103, 116, 104]
  · refine .inr (.inl ⟨15, by rw [w15]; rfl, by simp [kindUp, refL, hk, w15], by decide, by decide, by simp [argsOf, refL, letter]⟩)
  by_cases w16 : t.text = [119, 104, 101, 114, 101]
  · refine .inr (.inl ⟨16, by rw [w16]; rfl, by simp [kindUp, refL, hk, w16], by decide, by decide, by simp [argsOf, refL, letter]⟩)
  by_cases w17 : t.text = [112, 108, 97, 99, 101]
  · refine .inr (.inl ⟨17, by rw [w17]; rfl, by simp [kindUp, refL, hk, w17], by decide, by decide, by simp [argsOf, refL, letter]⟩)
  by_cases w18 : t.text = [109, 97, 114, 107, 115]
  · refine .inr (.inl ⟨18, by rw [w18]; rfl, by simp [kindUp, refL, hk, w18], by decide, by decide, by simp [argsOf, refL, letter]⟩)
  by_cases w19 : t.text = [99, 117, 114, 115, 111, 114, 115]
  · refine .inr (.inl ⟨19, by rw [w19]; rfl, by simp [kindUp, refL, hk, w19], by decide, by decide, by simp [argsOf, refL, letter]⟩)
  by_cases w20 : t.text = [100, 111, 99, 115]
  · refine .inr (.inl ⟨20, by rw [w20]; rfl, by simp [kindUp, refL, hk, w20], by decide, by decide, by simp [argsOf, refL, letter]⟩)
  by_cases w21 : t.text = [102, 105, 110, 100]
  · refine .inr (.inl ⟨21, by rw [w21]; rfl, by simp [kindUp, refL, hk, w21], by decide, by decide, by simp [argsOf, refL, letter]⟩)
  by_cases w22 : t.text = [115, 116, 97, 116]
  · refine .inr (.inr ⟨by rw [w22]; rfl, by simp [kindUp, refL, hk, w22]⟩)
  refine .inl ⟨by simp [formOf, formL, w1, w2, w3, w4, w5, w6, w7, w8, w9, w10, w11, w12, w13, w14, w15, w16, w17, w18, w19, w20, w21, w22], ?_⟩
  simp [kindUp, refL, hk, w1, w2, w3, w4, w5, w6, w7, w8, w9, w10, w11, w12, w13, w14, w15, w16, w17, w18, w19, w20, w21, w22]
theorem kind_not (t : Tok) (hk : t.kind ≠ 1) : ∀ i, kindUp t i = 0
  | 0 => rfl
  | i + 1 => by rw [kindUp, if_neg (fun h => hk h.2.1), kind_not t hk i]
theorem same_T (all : List Tok) (h0 : 0 < all.length) (hall : ∀ i, i < all.length → okTok (tokAt all i)) (size : Nat) : finP (parseT all size) = finP (rparseT all size) := by
  by_cases hk : (tokAt all 0).kind = 1
  · unfold parseT rparseT
    rcases form_kind (tokAt all 0) hk with ⟨h1, h2⟩ | ⟨k, h1, h2, h3, h4, h5⟩ | ⟨h1, h2⟩
    · rw [h1, h2, if_pos rfl]
      simp only [finP]
      have := finP_bad all (r := (zCmd, 1, some (tokAt all 0).at_)) rfl
      simpa only [finP] using this
    · rw [h1, h2, if_neg (show ¬ k = 0 by omega)]
      simp only [if_pos hk]
      have := run_put (argsOf k) h5 all hall size _ 1 ⟨k, [], 0, 0, 0, [], 0⟩ rfl (Nat.le_refl _) h0 (by omega)
      rw [show 1 - 1 = 0 from rfl, List.drop_zero] at this
      refine this.trans ?_
      generalize putR (argsOf k) all 1 ⟨k, [], 0, 0, 0, [], 0⟩ = r
      obtain ⟨c, o⟩ := r
      cases o with
      | some a => rfl
      | none =>
        simp only
        by_cases hl : all.length - 1 < (argsOf k).length
        · rw [if_pos hl, if_pos ⟨hl, fun h => h4 h.1⟩]; rfl
        · rw [if_neg hl, if_neg (fun h => hl h.1)]; rfl
    · rw [h1, h2, if_neg (show ¬ 22 = 0 by omega)]
      simp only [if_pos hk]
      have ha : argsOf 22 = [100] := rfl
      rw [ha]
      by_cases h1' : all.length = 1
      · rw [putR_end (by omega)]
        simp only
        rw [if_neg (fun h => h.2 ⟨trivial, h1'⟩)]
        simp only [runP, List.foldl, stepP, partS, h1', true_and, Nat.le_refl, if_true, orO, endP, finP, Nat.lt_irrefl, if_false]
        rfl
      · have hr := run_put [100] (by simp [letter]) all hall size _ 1 ⟨22, [], 0, 0, 0, [], 0⟩ rfl (Nat.le_refl _) h0 (by simp)
        rw [show 1 - 1 = 0 from rfl, List.drop_zero] at hr
        have hs : partS 68 all size ⟨22, [], 0, 0, 0, [], 0⟩ 1 = partS (partOf 100) all size ⟨22, [], 0, 0, 0, [], 0⟩ 1 := by
          have e : partOf 100 = 60 := rfl
          rw [e]
          simp only [partS, show ¬ all.length ≤ 1 by omega, and_false, if_false, or_true, true_or, if_true]
        have he : runP all size [68] (⟨22, [], 0, 0, 0, [], 0⟩, 1, none) = runP all size (List.map partOf [100]) (⟨22, [], 0, 0, 0, [], 0⟩, 1, none) := by
          simp only [runP, List.foldl, List.map, stepP, hs]
        refine (congrArg (fun r => finP (endP all r)) he).trans (hr.trans ?_)
        rw [show ((22 : Nat) : Int) = 22 from rfl]
        generalize putR [100] all 1 ⟨22, [], 0, 0, 0, [], 0⟩ = r
        obtain ⟨c, o⟩ := r
        cases o with
        | some a => rfl
        | none =>
          simp only [List.length_cons, List.length_nil]
          rw [if_neg (by omega), if_neg (by omega)]; rfl
  · unfold parseT rparseT
    rw [kind_not _ hk, if_pos rfl]
    have : ∀ x : Option (Int × List Nat), finP (match x with
      | some (k, ps) => endP all (runP all size ps ({zCmd with kind := k}, 1, if (tokAt all 0).kind = 1 then none else some (tokAt all 0).at_))
      | none => endP all (zCmd, 1, some (tokAt all 0).at_)) = (zCmd, 260, (tokAt all 0).at_) := by
      intro x
      cases x with
      | none => exact finP_bad all rfl
      | some y =>
        obtain ⟨k, ps⟩ := y
        simp only [if_neg hk]
        exact finP_bad all (runP_bad all size ps _ _ _)
    exact this _
theorem scanG_ok (s : List UInt8) : ∀ (n i : Nat) (out : List Tok), s.length - i = n → i ≤ s.length → (∀ t ∈ out, okTok t) → ∀ t ∈ (scanG s i out).1, okTok t := by
  intro n
  induction n using Nat.strongRecOn with
  | ind n ih =>
    intro i out hn hi hout
    have hb := skipP_ge blankB s i
    have hb2 : skipP blankB s i ≤ s.length := by
      unfold skipP
      have := (List.takeWhile_prefix blankB (l := s.drop i)).length_le
      rw [List.length_drop] at this; omega
    generalize hj : skipP blankB s i = j at hb hb2
    have happ : ∀ t : Tok, okTok t → ∀ u ∈ out ++ [t], okTok u := fun t ht u hu => by
      rcases List.mem_append.1 hu with h | h
      · exact hout u h
      · rw [List.mem_singleton.1 h]; exact ht
    by_cases h : j < s.length
    · by_cases hc : (s.getD j 0).toNat = 34
      · rw [scanG_quo hj h hc]
        split
        · rename_i hq
          split
          · have h1 := quoG_lt (s.drop j) _ 1 [] rfl hq
            rw [List.length_drop] at h1
            exact ih (s.length - (j + (quoG (s.drop j) 1 []).2.1)) (by omega) _ _ rfl (by omega) (happ _ ⟨.inr (.inr rfl), fun h => by simp at h, by simp⟩)
          · simp
        · simp
      · rw [scanG_run hj h hc]
        have hr := skipP_ge runB s j
        have hr2 : skipP runB s j ≤ s.length := by
          unfold skipP
          have := (List.takeWhile_prefix runB (l := s.drop j)).length_le
          rw [List.length_drop] at this; omega
        split
        · simp
        · rename_i hne
          split
          · refine ih (s.length - skipP runB s j) (by omega) _ _ rfl (by omega) (happ _ ?_)
            unfold runTok
            cases hnum : isNum ((s.drop j).take (skipP runB s j - j)) with
            | some n => exact ⟨.inr (.inl rfl), fun h => by simp at h, (number_some hnum).2.2⟩
            | none =>
              refine ⟨.inl rfl, fun _ he => ?_, by simp⟩
              have he : (s.drop j).take (skipP runB s j - j) = [] := he
              have : ((s.drop j).take (skipP runB s j - j)).length = 0 := by rw [he]; rfl
              rw [List.length_take, List.length_drop] at this
              omega
          · simp
    · rw [scanG_end hj (by omega)]; exact hout
theorem scanL_ok (l : List UInt8) (i : Nat) (h : i < (scanL l).1.length) : okTok (tokAt (scanL l).1 i) := by
  have : ∀ t ∈ (scanL l).1, okTok t := by
    unfold scanL
    split
    · simp
    · exact scanG_ok l _ 0 [] rfl (Nat.zero_le _) (by simp)
  refine this _ ?_
  unfold tokAt
  rw [List.getD_eq_getElem?_getD, List.getElem?_eq_getElem h]
  exact List.getElem_mem h
theorem parse_same (l : List UInt8) : parseP l = rparseP l := by
  unfold parseP rparseP
  by_cases hc : (scanL l).2.1 ≠ 0
  · rw [if_pos hc, if_pos hc]
  · rw [if_neg hc, if_neg hc]
    by_cases hn : (scanL l).1.length = 0
    · rw [if_pos hn, if_pos hn]
    · rw [if_neg hn, if_neg hn]
      have := same_T (scanL l).1 (by omega) (scanL_ok l) l.length
      unfold finP at this
      exact this
end Go.Proofs.YtnjbdcdjcfhooaaGreatDoor
