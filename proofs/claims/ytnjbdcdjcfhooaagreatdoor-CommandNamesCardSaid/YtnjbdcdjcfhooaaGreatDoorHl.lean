/-
  Own work: walks and laws of the functions that the statement reaches; the statement itself stands in the last text.
-/
import Derived.Test.YtnjbdcdjcfhooaaGreatDoorHk
namespace Go.Proofs.YtnjbdcdjcfhooaaGreatDoor
open Go.E
set_option linter.all false
set_option maxRecDepth 20000
set_option maxHeartbeats 8000000
def prS (t : Tok) : List UInt8 × Bool :=
  if t.kind = 1 then (t.text, wordB t.text && decide (t.num = 0)) else if t.kind = 2 then (Lib.itoa t.num, decide (t.text = [])) else if t.kind = 3 then (quoteL t.text, decide (t.num = 0)) else ([], false)
theorem prS_prT (t : Tok) : prT t = if (prS t).2 = true then some (prS t).1 else none := by
  unfold prT prS
  split
  · simp only [Bool.and_eq_true, decide_eq_true_eq]
  · split
    · simp only [decide_eq_true_eq]
    · split
      · simp only [decide_eq_true_eq]
      · simp
def badW (s : List UInt8) (i : Nat) : Bool := decide (isNum s ≠ none) || (s.take i).any fun c => !runB c
theorem badW_step {s : List UInt8} {i : Nat} (h : i < s.length) : badW s (i + 1) = (badW s i || !runB (s.getD i 0)) := by
  unfold badW
  rw [List.take_succ, List.getElem?_eq_getElem h]
  simp only [Option.toList_some, List.any_append, List.any_cons, List.any_nil, Bool.or_false, Bool.or_assoc, List.getD_eq_getElem?_getD, List.getElem?_eq_getElem h, Option.getD_some]
theorem badW_end (s : List UInt8) : wordB s = (decide (s ≠ []) && !badW s s.length) := by
  unfold wordB badW
  rw [List.take_length]
  have e : (s.any fun c => !runB c) = !(s.all runB) := by
    induction s with
    | nil => rfl
    | cons c r ih => simp only [List.any_cons, List.all_cons, ih, Bool.not_and]
  rw [e]
  cases s.all runB <;> by_cases h : isNum s = none <;> simp [h]
theorem printed_c (G : List Gl) (t u tz tp : TypeId) (v : List Value) (h3 : gFirst t ∈ G) (h4 : gAcc u ∈ G) (hv : v[15]? = some (.int .u8 4)) (hG : gTz v tz ∈ G) (hp : gPow tp ∈ G) (k : Tok) (h63 : k.text.length ≤ 1000000000000) (hn : k.num ≤ 9223372036854775807) :
    E.Pure G Tryz.prog 84 [.agg (tkE k)] (.tuple [.str (prS k).1, .bool (prS k).2]) := by
  refine pure_hid fun V hV => ?_
  have hit := itoa_c G tp hp k.num (by omega) (by omega)
  have hqu := quote_c G t u tz v h3 h4 hv hG k.text h63
  obtain ⟨kd, at_, tx, nm⟩ := k
  simp only at hV hit hqu h63 hn
  by_cases k1 : kd = 1
  · subst k1
    have e : prS ⟨1, at_, tx, nm⟩ = (tx, decide (tx ≠ []) && !badW tx tx.length && decide (nm = 0)) := by rw [← badW_end]; rfl
    rw [e] at hV
    simp only at hV
    have hb0 : numberE tx = .tuple [.int .i64 (match isNum tx with | some n => n | none => 0), .bool (badW tx 0)] := by
      unfold badW
      cases hm : isNum tx with
      | some n => rw [(number_some hm).1]; rfl
      | none => rw [(number_none hm).1]; rfl
    refine ecalls_in 68 [.tmp 2, .tmp 3] Tryz.func84 rfl rfl rfl (by kernel_rfl) (le_ble rfl) ?_
    repeat' (first | refine esem_seqK 1153062242098873199 ?_ | refine esem_block ?_ | (refine stp ?_; simp only [go_sem]) | (refine drawQ (id := 9) mixed [(0, []), (2, []), (1, []), (3, []), (4, []), (5, []), (6, []), (7, []), (8, []), (9, []), (10, []), (14, []), (11, []), (12, []), (13, []), (15, [])] (by kernel_rfl) ?_; simp only [go_sem]) | (refine drawQ (id := 11) mixed [(0, []), (3, []), (1, []), (4, []), (5, []), (2, [4]), (6, []), (7, []), (11, []), (8, []), (9, []), (10, []), (12, [])] (by kernel_rfl) ?_; simp only [go_sem]) | (refine drawQ (id := 13) mixed [(0, []), (3, []), (1, []), (4, []), (5, []), (2, [4]), (6, []), (7, [])] (by kernel_rfl) ?_; simp only [go_sem]) | (refine Pure.at (number_c G tx (by omega)) (by simp [allBelow, EV.bel]) (by rw [hb0]; simp [allBelow, EV.bel]) rfl ?_; (try simp only [go_sem, hb0])) | (simp (disch := omega) only [wE]) | (refine spl (fun h => ?_) (fun h => ?_) <;> first | (exfalso; omega) | ((try simp only [opRun, opSkip, stepRun, pickZ]); (try simp only [go_sem, h]))) | (refine and_om ?_ ?_; focus omega))
    refine esem_loopS (fun z : Nat => [(1, .ptr (some ⟨0, 0⟩)), (19, .int .i64 tx.length), (20, .int .i64 z), (5, .bool (badW tx z))]) (fun z : Nat => [(0, .cells (tkE ⟨1, at_, tx, nm⟩) 72 0 true 0)]) (fun z : Nat => 1) (fun z : Nat => z ≤ tx.length) (fun z : Nat => tx.length - z) (0) (fun z hz => ⟨by simp [frBel], by first | trivial | simp, by first | exact Nat.le_refl _ | exact Nat.zero_le _ | omega | (simp only []; omega)⟩) (by exact Nat.zero_le _) (by first | (simp only [go_sem, weakL]; done) | ((try simp only [go_sem, weakL]); ((repeat' apply And.intro) <;> (first | rfl | trivial | ((try simp only [EV.int.injEq, EV.str.injEq, EV.bool.injEq, EV.tuple.injEq, EV.slice.injEq, List.cons.injEq, true_and, and_true]); first | rfl | omega))))) (by first | trivial | (simp only [go_sem, lessL]; done) | ((try simp only [go_sem, lessL]); ((repeat' apply And.intro) <;> (first | rfl | trivial | ((try simp only [EV.int.injEq, EV.str.injEq, EV.bool.injEq, EV.tuple.injEq, EV.slice.injEq, List.cons.injEq, true_and, and_true]); first | rfl | omega))))) ?_
    rintro i z1
    try simp only at z1
    try simp only []
    by_cases hi : i < tx.length
    · have hst := badW_step hi
      generalize badW tx i = bi at hst
      repeat' (first | refine esem_seqK 1153062242098873199 ?_ | refine esem_block ?_ | (refine stp ?_; simp only [go_sem]) | (refine drawQ (id := 9) mixed [(0, []), (2, []), (1, []), (3, []), (4, []), (5, []), (6, []), (7, []), (8, []), (9, []), (10, []), (14, []), (11, []), (12, []), (13, []), (15, [])] (by kernel_rfl) ?_; simp only [go_sem]) | (refine drawQ (id := 11) mixed [(0, []), (3, []), (1, []), (4, []), (5, []), (2, [4]), (6, []), (7, []), (11, []), (8, []), (9, []), (10, []), (12, [])] (by kernel_rfl) ?_; simp only [go_sem]) | (refine drawQ (id := 13) mixed [(0, []), (3, []), (1, []), (4, []), (5, []), (2, [4]), (6, []), (7, [])] (by kernel_rfl) ?_; simp only [go_sem]) | (refine Pure.at (runs_c _ _) (by simp) (by simp) rfl ?_; (try simp only [go_sem])) | (simp (disch := omega) only [wE]) | (refine spl (fun h => ?_) (fun h => ?_) <;> first | (exfalso; omega) | ((try simp only [opRun, opSkip, stepRun, pickZ]); (try simp only [go_sem, h]))) | (refine and_om ?_ ?_; focus omega))
      · rw [h, Bool.true_or] at hst
        (refine ⟨(i + 1), ?_, ?_, rfl, rfl, ?_, ?_⟩; rotate_left; (focus (first | omega | (simp only []; omega))); (focus (first | (simp only [go_sem, weakL, hst]; done) | ((try simp only [go_sem, weakL, hst]); ((repeat' apply And.intro) <;> (first | rfl | trivial | ((try simp only [EV.int.injEq, EV.str.injEq, EV.bool.injEq, EV.tuple.injEq, EV.slice.injEq, List.cons.injEq, true_and, and_true]); first | rfl | omega)))))); (focus (first | trivial | (simp only [go_sem, lessL, hst]; done) | ((try simp only [go_sem, lessL, hst]); ((repeat' apply And.intro) <;> (first | rfl | trivial | ((try simp only [EV.int.injEq, EV.str.injEq, EV.bool.injEq, EV.tuple.injEq, EV.slice.injEq, List.cons.injEq, true_and, and_true]); first | rfl | omega)))))); (try simp only [])); omega
      · rw [h, Bool.false_or] at hst
        (refine ⟨(i + 1), ?_, ?_, rfl, rfl, ?_, ?_⟩; rotate_left; (focus (first | omega | (simp only []; omega))); (focus (first | (simp only [go_sem, weakL, hst]; done) | ((try simp only [go_sem, weakL, hst]); ((repeat' apply And.intro) <;> (first | rfl | trivial | ((try simp only [EV.int.injEq, EV.str.injEq, EV.bool.injEq, EV.tuple.injEq, EV.slice.injEq, List.cons.injEq, true_and, and_true]); first | rfl | omega)))))); (focus (first | trivial | (simp only [go_sem, lessL, hst]; done) | ((try simp only [go_sem, lessL, hst]); ((repeat' apply And.intro) <;> (first | rfl | trivial | ((try simp only [EV.int.injEq, EV.str.injEq, EV.bool.injEq, EV.tuple.injEq, EV.slice.injEq, List.cons.injEq, true_and, and_true]); first | rfl | omega)))))); (try simp only [])); omega
    · obtain rfl : i = tx.length := by omega
      generalize badW tx tx.length = bi at hV
      repeat' (first | refine esem_seqK 1153062242098873199 ?_ | refine esem_block ?_ | (refine stp ?_; simp only [go_sem]) | (refine drawQ (id := 9) mixed [(0, []), (2, []), (1, []), (3, []), (4, []), (5, []), (6, []), (7, []), (8, []), (9, []), (10, []), (14, []), (11, []), (12, []), (13, []), (15, [])] (by kernel_rfl) ?_; simp only [go_sem]) | (refine drawQ (id := 11) mixed [(0, []), (3, []), (1, []), (4, []), (5, []), (2, [4]), (6, []), (7, []), (11, []), (8, []), (9, []), (10, []), (12, [])] (by kernel_rfl) ?_; simp only [go_sem]) | (refine drawQ (id := 13) mixed [(0, []), (3, []), (1, []), (4, []), (5, []), (2, [4]), (6, []), (7, [])] (by kernel_rfl) ?_; simp only [go_sem]) | (simp (disch := omega) only [wE]) | (refine spl (fun h => ?_) (fun h => ?_) <;> first | (exfalso; omega) | ((try simp only [opRun, opSkip, stepRun, pickZ]); (try simp only [go_sem, h]))) | (refine and_om ?_ ?_; focus omega))
      all_goals ((refine done_zero (by simp [EV.bel, allBelow]) ?_; rw [hV]); simp_all)
  by_cases k2 : kd = 2
  · subst k2
    have e : prS ⟨2, at_, tx, nm⟩ = (Lib.itoa nm, decide (tx = [])) := rfl
    rw [e] at hV
    simp only at hV
    refine ecalls_in 68 [.tmp 2, .tmp 3] Tryz.func84 rfl rfl rfl (by kernel_rfl) (le_ble rfl) ?_
    repeat' (first | refine esem_seqK 1153062242098873199 ?_ | refine esem_block ?_ | (refine stp ?_; simp only [go_sem]) | (refine drawQ (id := 9) mixed [(0, []), (2, []), (1, []), (3, []), (4, []), (5, []), (6, []), (7, []), (8, []), (9, []), (10, []), (14, []), (11, []), (12, []), (13, []), (15, [])] (by kernel_rfl) ?_; simp only [go_sem]) | (refine drawQ (id := 11) mixed [(0, []), (3, []), (1, []), (4, []), (5, []), (2, [4]), (6, []), (7, []), (11, []), (8, []), (9, []), (10, []), (12, [])] (by kernel_rfl) ?_; simp only [go_sem]) | (refine drawQ (id := 13) mixed [(0, []), (3, []), (1, []), (4, []), (5, []), (2, [4]), (6, []), (7, [])] (by kernel_rfl) ?_; simp only [go_sem]) | (refine Pure.at (hit) (by simp) (by simp) rfl ?_; (try simp only [go_sem])) | (simp (disch := omega) only [wE]) | (refine spl (fun h => ?_) (fun h => ?_) <;> first | (exfalso; omega) | ((try simp only [opRun, opSkip, stepRun, pickZ]); (try simp only [go_sem, h]))) | (refine and_om ?_ ?_; focus omega))
    all_goals ((refine done_zero (by simp [EV.bel, allBelow]) ?_; rw [hV]) <;> first | rfl | simp_all)
  by_cases k3 : kd = 3
  · subst k3
    have e : prS ⟨3, at_, tx, nm⟩ = (quoteL tx, decide (nm = 0)) := rfl
    rw [e] at hV
    simp only at hV
    refine ecalls_in 68 [.tmp 2, .tmp 3] Tryz.func84 rfl rfl rfl (by kernel_rfl) (le_ble rfl) ?_
    repeat' (first | refine esem_seqK 1153062242098873199 ?_ | refine esem_block ?_ | (refine stp ?_; simp only [go_sem]) | (refine drawQ (id := 9) mixed [(0, []), (2, []), (1, []), (3, []), (4, []), (5, []), (6, []), (7, []), (8, []), (9, []), (10, []), (14, []), (11, []), (12, []), (13, []), (15, [])] (by kernel_rfl) ?_; simp only [go_sem]) | (refine drawQ (id := 11) mixed [(0, []), (3, []), (1, []), (4, []), (5, []), (2, [4]), (6, []), (7, []), (11, []), (8, []), (9, []), (10, []), (12, [])] (by kernel_rfl) ?_; simp only [go_sem]) | (refine drawQ (id := 13) mixed [(0, []), (3, []), (1, []), (4, []), (5, []), (2, [4]), (6, []), (7, [])] (by kernel_rfl) ?_; simp only [go_sem]) | (refine Pure.at (hqu) (by simp) (by simp) rfl ?_; (try simp only [go_sem])) | (simp (disch := omega) only [wE]) | (refine spl (fun h => ?_) (fun h => ?_) <;> first | (exfalso; omega) | ((try simp only [opRun, opSkip, stepRun, pickZ]); (try simp only [go_sem, h]))) | (refine and_om ?_ ?_; focus omega))
    all_goals ((refine done_zero (by simp [EV.bel, allBelow]) ?_; rw [hV]) <;> first | rfl | simp_all)
  · have e : prS ⟨kd, at_, tx, nm⟩ = ([], false) := by unfold prS; rw [if_neg k1, if_neg k2, if_neg k3]
    rw [e] at hV
    simp only at hV
    refine ecalls_in 68 [.tmp 2, .tmp 3] Tryz.func84 rfl rfl rfl (by kernel_rfl) (le_ble rfl) ?_
    repeat' (first | refine esem_seqK 1153062242098873199 ?_ | refine esem_block ?_ | (refine stp ?_; simp only [go_sem]) | (refine drawQ (id := 9) mixed [(0, []), (2, []), (1, []), (3, []), (4, []), (5, []), (6, []), (7, []), (8, []), (9, []), (10, []), (14, []), (11, []), (12, []), (13, []), (15, [])] (by kernel_rfl) ?_; simp only [go_sem]) | (refine drawQ (id := 11) mixed [(0, []), (3, []), (1, []), (4, []), (5, []), (2, [4]), (6, []), (7, []), (11, []), (8, []), (9, []), (10, []), (12, [])] (by kernel_rfl) ?_; simp only [go_sem]) | (refine drawQ (id := 13) mixed [(0, []), (3, []), (1, []), (4, []), (5, []), (2, [4]), (6, []), (7, [])] (by kernel_rfl) ?_; simp only [go_sem]) | (simp (disch := omega) only [wE]) | (refine spl (fun h => ?_) (fun h => ?_) <;> first | (exfalso; omega) | ((try simp only [opRun, opSkip, stepRun, pickZ]); (try simp only [go_sem, h]))) | (refine and_om ?_ ?_; focus omega))
    all_goals ((refine done_zero (by simp [EV.bel, allBelow]) ?_; rw [hV]) <;> first | rfl | simp_all)
end Go.Proofs.YtnjbdcdjcfhooaaGreatDoor
namespace Go.Proofs.YtnjbdcdjcfhooaaGreatDoor
open Go.E
set_option linter.all false
set_option maxRecDepth 20000
set_option maxHeartbeats 8000000
def strsE (l : List (List UInt8)) : List EV := l.map EV.str
@[simp] theorem allBelow_strsE (k : Nat) : ∀ l, allBelow k (strsE l)
  | [] => trivial
  | _ :: r => ⟨trivial, allBelow_strsE k r⟩
@[simp] theorem renL_strsE (π : Nat → Nat) : ∀ l, renL π (strsE l) = strsE l
  | [] => rfl
  | p :: r => by
    have := renL_strsE π r
    simp only [strsE, List.map_cons, renL, EV.ren] at this ⊢
    rw [this]
@[simp] theorem strsE_length (l : List (List UInt8)) : (strsE l).length = l.length := by simp [strsE]
theorem strsE_append (a b : List (List UInt8)) : strsE (a ++ b) = strsE a ++ strsE b := by simp [strsE]
theorem strsE_one (p : List UInt8) : strsE [p] = [.str p] := rfl
attribute [go_sem] renL_strsE strsE_length
def prsT (ts : List Tok) (i : Nat) : List (List UInt8) := (ts.take i).map prA
theorem prsT_length {ts : List Tok} {i : Nat} (h : i ≤ ts.length) : (prsT ts i).length = i := by simp [prsT]; omega
theorem prsT_step {ts : List Tok} {i : Nat} (h : i < ts.length) : prsT ts (i + 1) = prsT ts i ++ [prA (tokAt ts i)] := by
  have e : tokAt ts i = ts[i] := by rw [tokAt, List.getD_eq_getElem?_getD, List.getElem?_eq_getElem h]; rfl
  rw [prsT, prsT, List.take_succ, List.getElem?_eq_getElem h, List.map_append, e]
  rfl
def printL (ts : List Tok) : List UInt8 × Nat :=
  if ∀ t ∈ ts, (prS t).2 = true then (if 16384 < (Lib.join (ts.map prA) [32]).length then ([], 4) else (Lib.join (ts.map prA) [32], 0)) else ([], 70)
theorem tokAt_mem {ts : List Tok} {i : Nat} (h : i < ts.length) : tokAt ts i ∈ ts := by
  rw [tokAt, List.getD_eq_getElem?_getD, List.getElem?_eq_getElem h]; exact List.getElem_mem h
theorem printL_bad {ts : List Tok} {i : Nat} (h : i < ts.length) (hb : (prS (tokAt ts i)).2 = false) : printL ts = ([], 70) := by
  unfold printL
  rw [if_neg]
  intro ha
  rw [ha _ (tokAt_mem h)] at hb
  cases hb
theorem printL_ok {ts : List Tok} (h : ∀ j, j < ts.length → (prS (tokAt ts j)).2 = true) : printL ts = if 16384 < (Lib.join (ts.map prA) [32]).length then ([], 4) else (Lib.join (ts.map prA) [32], 0) := by
  unfold printL
  rw [if_pos]
  intro t ht
  obtain ⟨j, hj, rfl⟩ := List.getElem_of_mem ht
  have := h j hj
  rwa [tokAt, List.getD_eq_getElem?_getD, List.getElem?_eq_getElem hj] at this
theorem prA_ok {t : Tok} (h : (prS t).2 = true) : prA t = (prS t).1 := by unfold prA; rw [prS_prT, if_pos h]; rfl
theorem sprint_c (G : List Gl) (t u tz tp : TypeId) (v : List Value) (h3 : gFirst t ∈ G) (h4 : gAcc u ∈ G) (hv : v[15]? = some (.int .u8 4)) (hG : gTz v tz ∈ G) (hp : gPow tp ∈ G) (ts : List Tok) (n z : Nat) (hz : z = 0 ∨ z = 4) (hn : ts.length = n) (h0 : 0 < n) (hN : n ≤ 16384)
    (h63 : ∀ k ∈ ts, k.text.length ≤ 1000000000000 ∧ k.num ≤ 9223372036854775807) (hlen : (Lib.join (ts.map prA) [32]).length ≤ 140737488355328) :
    Eff G Tryz.prog 32 [.slice (some ⟨0, 0⟩) n n] [(0, .cells (toksE ts) 72 z true 0)] 1 (.tuple [.str (printL ts).1, .int .i64 (printL ts).2]) [] 1 := by
  unfold Eff
  subst hn
  have hall : prsT ts ts.length = ts.map prA := by rw [prsT, List.take_length]
  have hjn := join_c G (prsT ts ts.length) ts.length 1 (prsT_length (Nat.le_refl _)) h0 (by omega) [32] (by rw [hall]; exact hlen)
  rw [hall, show (ts.map prA).map EV.str = strsE (prsT ts ts.length) from by rw [hall]; rfl] at hjn
  have hz0 : prsT ts 0 = [] := rfl
  rcases hz with rfl | rfl
  · refine ecalls_in 34 [.tmp 2, .tmp 3] Tryz.func32 rfl rfl rfl (by kernel_rfl) (le_ble rfl) ?_
    repeat' (first | refine esem_seqK 4299177949 ?_ | refine esem_block ?_ | (refine stp ?_; simp only [go_sem]) | (simp (disch := omega) only [wE]) | (refine spl (fun h => ?_) (fun h => ?_) <;> first | (exfalso; omega) | ((try simp only [opRun, opSkip, stepRun, pickZ]); (try simp only [go_sem, h]))) | (refine and_om ?_ ?_; focus omega))
    refine esem_loopS (fun z : Nat × Nat => [(10, .slice (some ⟨0, 0⟩) ts.length ts.length), (11, .int .i64 ts.length), (12, .int .i64 z.1), (4, accE (z.2 + 1) z.1)]) (fun z => (0, .cells (toksE ts) 72 0 true 0) :: accB (z.2 + 1) (strsE (prsT ts z.1)) 9 1) (fun z => z.2 + 2) (fun z => z.1 ≤ ts.length ∧ ∀ j, j < z.1 → (prS (tokAt ts j)).2 = true) (fun z => ts.length - z.1) ((0 : Nat), (0 : Nat))
      (fun z hz => ⟨by simp [frBel, EV.bel, allBelow], ⟨by omega, by simp [EO.bel], accB_below (by omega) (by simp)⟩, by omega⟩) ⟨Nat.zero_le _, fun j h => by simp at h⟩ (by first | (simp only [go_sem, weakL]; done) | ((try simp only [go_sem, weakL]); ((repeat' apply And.intro) <;> (first | rfl | trivial | ((try simp only [EV.int.injEq, EV.str.injEq, EV.bool.injEq, EV.tuple.injEq, EV.slice.injEq, List.cons.injEq, true_and, and_true]); first | rfl | omega))))) (by simp only [go_sem, lessL, hz0, strsE, List.map_nil, accB_nil]) ?_
    rintro ⟨i, b⟩ ⟨z1, z3⟩
    simp only at z1 z3
    simp only []
    by_cases hi : i < ts.length
    · have hst := prsT_step hi
      have hln := prsT_length (ts := ts) (i := i) (by omega)
      have hkk := h63 _ (tokAt_mem hi)
      have hpr := printed_c G t u tz tp v h3 h4 hv hG hp (tokAt ts i) hkk.1 hkk.2
      have hua := toks_at hi
      have hpa := prA_ok (t := tokAt ts i)
      have hbad := printL_bad hi
      generalize hq : prS (tokAt ts i) = q at hpr hpa hbad
      obtain ⟨qs, qb⟩ := q
      simp only at hpr hpa hbad
      have hR : ∀ j, qb = true → j < i + 1 → (prS (tokAt ts j)).2 = true := fun j hq1 hj => by
        by_cases h : j = i
        · rw [h, hq, hq1]
        · exact z3 j (by omega)
      generalize prsT ts i = ps at hst hln
      by_cases ho : i = 0
      · subst ho
        obtain rfl : ps = [] := List.eq_nil_of_length_eq_zero hln
        simp only [strsE, List.map_nil, accB_nil, accE_zero]
        rw [Nat.zero_mul, List.drop_zero] at hua
        cases qb with
        | false =>
          rw [hbad rfl]
          repeat' (first | refine esem_seqK 4299177949 ?_ | refine esem_block ?_ | (refine stp ?_; simp only [go_sem, hua, EV.one, List.length_cons, List.length_nil]) | (refine Pure.at (hpr) (by simp) (by simp) rfl ?_; (try simp only [go_sem, hua, EV.one, List.length_cons, List.length_nil])) | (simp (disch := omega) only [wE]) | (refine spl (fun h => ?_) (fun h => ?_) <;> first | (exfalso; omega) | ((try simp only [opRun, opSkip, stepRun, pickZ]); (try simp only [go_sem, hua, EV.one, List.length_cons, List.length_nil, h]))) | (refine and_om ?_ ?_; focus omega))
          all_goals exact done_ef2 [] (by simp) rfl (by simp [mA]) (by simp [bC])
        | true =>
          rw [hpa rfl] at hst
          repeat' (first | refine esem_seqK 4299177949 ?_ | refine esem_block ?_ | (refine stp ?_; simp only [go_sem, hua, EV.one, List.length_cons, List.length_nil]) | (refine Pure.at (hpr) (by simp) (by simp) rfl ?_; (try simp only [go_sem, hua, EV.one, List.length_cons, List.length_nil])) | (simp (disch := omega) only [wE]) | (refine spl (fun h => ?_) (fun h => ?_) <;> first | (exfalso; omega) | ((try simp only [opRun, opSkip, stepRun, pickZ]); (try simp only [go_sem, hua, EV.one, List.length_cons, List.length_nil, h]))) | (refine and_om ?_ ?_; focus omega))
          · have hst1 : prsT ts 1 = [qs] := hst
            (refine ⟨((1 : Nat), b + 3), ?_, ?_, rfl, rfl, ?_, ?_⟩; rotate_left; (focus (first | omega | (simp only []; omega))); (focus (first | (simp only [go_sem, weakL, hst1, List.map_cons, List.map_nil, accE_one, accB_cons, strsE]; done) | ((try simp only [go_sem, weakL, hst1, List.map_cons, List.map_nil, accE_one, accB_cons, strsE]); ((repeat' apply And.intro) <;> (first | rfl | trivial | ((try simp only [EV.int.injEq, EV.str.injEq, EV.bool.injEq, EV.tuple.injEq, EV.slice.injEq, List.cons.injEq, true_and, and_true]); first | rfl | omega)))))); (focus (first | trivial | (simp only [go_sem, lessL, hst1, List.map_cons, List.map_nil, accE_one, accB_cons, strsE]; done) | ((try simp only [go_sem, lessL, hst1, List.map_cons, List.map_nil, accE_one, accB_cons, strsE]); ((repeat' apply And.intro) <;> (first | rfl | trivial | ((try simp only [EV.int.injEq, EV.str.injEq, EV.bool.injEq, EV.tuple.injEq, EV.slice.injEq, List.cons.injEq, true_and, and_true]); first | rfl | omega)))))); (try simp only []))
            exact ⟨by omega, fun j hj => hR j rfl hj⟩
      · rw [accE_pos (by omega), accB_pos (by rw [strsE_length]; omega)]
        cases qb with
        | false =>
          rw [hbad rfl]
          repeat' (first | refine esem_seqK 4299177949 ?_ | refine esem_block ?_ | (refine stp ?_; simp only [go_sem, hua, EV.one, List.length_cons, List.length_nil]) | (refine Pure.at (hpr) (by simp) (by simp) rfl ?_; (try simp only [go_sem, hua, EV.one, List.length_cons, List.length_nil])) | (simp (disch := omega) only [wE]) | (refine spl (fun h => ?_) (fun h => ?_) <;> first | (exfalso; omega) | ((try simp only [opRun, opSkip, stepRun, pickZ]); (try simp only [go_sem, hua, EV.one, List.length_cons, List.length_nil, h]))) | (refine and_om ?_ ?_; focus omega))
          all_goals exact done_ef2 [] (by simp) rfl (by simp [mA]) (by simp [bC])
        | true =>
          rw [hpa rfl] at hst
          repeat' (first | refine esem_seqK 4299177949 ?_ | refine esem_block ?_ | (refine stp ?_; simp only [go_sem, hua, EV.one, List.length_cons, List.length_nil]) | (refine Pure.at (hpr) (by simp) (by simp) rfl ?_; (try simp only [go_sem, hua, EV.one, List.length_cons, List.length_nil])) | (simp (disch := omega) only [wE]) | (refine spl (fun h => ?_) (fun h => ?_) <;> first | (exfalso; omega) | ((try simp only [opRun, opSkip, stepRun, pickZ]); (try simp only [go_sem, hua, EV.one, List.length_cons, List.length_nil, h]))) | (refine and_om ?_ ?_; focus omega))
          · have htk : List.take i (strsE ps) = strsE ps := List.take_of_length_le (by rw [strsE_length]; omega)
            (refine ⟨(i + 1, b + 3), ?_, ?_, rfl, rfl, ?_, ?_⟩; rotate_left; (focus (first | omega | (simp only []; omega))); (focus (first | (simp only [go_sem, weakL, hst, strsE_append, strsE_one, accE_add1, accB_app, htk]; done) | ((try simp only [go_sem, weakL, hst, strsE_append, strsE_one, accE_add1, accB_app, htk]); ((repeat' apply And.intro) <;> (first | rfl | trivial | ((try simp only [EV.int.injEq, EV.str.injEq, EV.bool.injEq, EV.tuple.injEq, EV.slice.injEq, List.cons.injEq, true_and, and_true]); first | rfl | omega)))))); (focus (first | trivial | (simp only [go_sem, lessL, hst, strsE_append, strsE_one, accE_add1, accB_app, htk]; done) | ((try simp only [go_sem, lessL, hst, strsE_append, strsE_one, accE_add1, accB_app, htk]); ((repeat' apply And.intro) <;> (first | rfl | trivial | ((try simp only [EV.int.injEq, EV.str.injEq, EV.bool.injEq, EV.tuple.injEq, EV.slice.injEq, List.cons.injEq, true_and, and_true]); first | rfl | omega)))))); (try simp only []))
            exact ⟨by omega, fun j hj => hR j rfl hj⟩
    · obtain rfl : i = ts.length := by omega
      rw [accE_pos (by omega), accB_pos (by rw [strsE_length, prsT_length (Nat.le_refl _)]; omega)]
      rw [printL_ok z3]
      by_cases hL : 16384 < (Lib.join (ts.map prA) [32]).length
      · rw [if_pos hL]
        repeat' (first | refine esem_seqK 4299177949 ?_ | refine esem_block ?_ | (refine stp ?_; simp only [go_sem]) | (refine Eff.at2 (hjn ) [b + 1] rfl (by first | (simp; done) | (simp; omega) | (simp [bC]; done) | omega) rfl ?_; (try simp only [go_sem])) | (simp (disch := omega) only [wE]) | (refine spl (fun h => ?_) (fun h => ?_) <;> first | (exfalso; omega) | ((try simp only [opRun, opSkip, stepRun, pickZ]); (try simp only [go_sem, h]))) | (refine and_om ?_ ?_; focus omega))
        all_goals exact done_ef2 [] (by simp) rfl (by simp [mA]) (by simp [bC])
      · rw [if_neg hL]
        repeat' (first | refine esem_seqK 4299177949 ?_ | refine esem_block ?_ | (refine stp ?_; simp only [go_sem]) | (refine Eff.at2 (hjn ) [b + 1] rfl (by first | (simp; done) | (simp; omega) | (simp [bC]; done) | omega) rfl ?_; (try simp only [go_sem])) | (simp (disch := omega) only [wE]) | (refine spl (fun h => ?_) (fun h => ?_) <;> first | (exfalso; omega) | ((try simp only [opRun, opSkip, stepRun, pickZ]); (try simp only [go_sem, h]))) | (refine and_om ?_ ?_; focus omega))
        all_goals exact done_ef2 [] (by simp) rfl (by simp [mA]) (by simp [bC])
  · refine ecalls_in 34 [.tmp 2, .tmp 3] Tryz.func32 rfl rfl rfl (by kernel_rfl) (le_ble rfl) ?_
    repeat' (first | refine esem_seqK 4299177949 ?_ | refine esem_block ?_ | (refine stp ?_; simp only [go_sem]) | (simp (disch := omega) only [wE]) | (refine spl (fun h => ?_) (fun h => ?_) <;> first | (exfalso; omega) | ((try simp only [opRun, opSkip, stepRun, pickZ]); (try simp only [go_sem, h]))) | (refine and_om ?_ ?_; focus omega))
    refine esem_loopS (fun z : Nat × Nat => [(10, .slice (some ⟨0, 0⟩) ts.length ts.length), (11, .int .i64 ts.length), (12, .int .i64 z.1), (4, accE (z.2 + 1) z.1)]) (fun z => (0, .cells (toksE ts) 72 4 true 0) :: accB (z.2 + 1) (strsE (prsT ts z.1)) 9 1) (fun z => z.2 + 2) (fun z => z.1 ≤ ts.length ∧ ∀ j, j < z.1 → (prS (tokAt ts j)).2 = true) (fun z => ts.length - z.1) ((0 : Nat), (0 : Nat))
      (fun z hz => ⟨by simp [frBel, EV.bel, allBelow], ⟨by omega, by simp [EO.bel], accB_below (by omega) (by simp)⟩, by omega⟩) ⟨Nat.zero_le _, fun j h => by simp at h⟩ (by first | (simp only [go_sem, weakL]; done) | ((try simp only [go_sem, weakL]); ((repeat' apply And.intro) <;> (first | rfl | trivial | ((try simp only [EV.int.injEq, EV.str.injEq, EV.bool.injEq, EV.tuple.injEq, EV.slice.injEq, List.cons.injEq, true_and, and_true]); first | rfl | omega))))) (by simp only [go_sem, lessL, hz0, strsE, List.map_nil, accB_nil]) ?_
    rintro ⟨i, b⟩ ⟨z1, z3⟩
    simp only at z1 z3
    simp only []
    by_cases hi : i < ts.length
    · have hst := prsT_step hi
      have hln := prsT_length (ts := ts) (i := i) (by omega)
      have hkk := h63 _ (tokAt_mem hi)
      have hpr := printed_c G t u tz tp v h3 h4 hv hG hp (tokAt ts i) hkk.1 hkk.2
      have hua := toks_at hi
      have hpa := prA_ok (t := tokAt ts i)
      have hbad := printL_bad hi
      generalize hq : prS (tokAt ts i) = q at hpr hpa hbad
      obtain ⟨qs, qb⟩ := q
      simp only at hpr hpa hbad
      have hR : ∀ j, qb = true → j < i + 1 → (prS (tokAt ts j)).2 = true := fun j hq1 hj => by
        by_cases h : j = i
        · rw [h, hq, hq1]
        · exact z3 j (by omega)
      generalize prsT ts i = ps at hst hln
      by_cases ho : i = 0
      · subst ho
        obtain rfl : ps = [] := List.eq_nil_of_length_eq_zero hln
        simp only [strsE, List.map_nil, accB_nil, accE_zero]
        rw [Nat.zero_mul, List.drop_zero] at hua
        cases qb with
        | false =>
          rw [hbad rfl]
          repeat' (first | refine esem_seqK 4299177949 ?_ | refine esem_block ?_ | (refine stp ?_; simp only [go_sem, hua, EV.one, List.length_cons, List.length_nil]) | (refine Pure.at (hpr) (by simp) (by simp) rfl ?_; (try simp only [go_sem, hua, EV.one, List.length_cons, List.length_nil])) | (simp (disch := omega) only [wE]) | (refine spl (fun h => ?_) (fun h => ?_) <;> first | (exfalso; omega) | ((try simp only [opRun, opSkip, stepRun, pickZ]); (try simp only [go_sem, hua, EV.one, List.length_cons, List.length_nil, h]))) | (refine and_om ?_ ?_; focus omega))
          all_goals exact done_ef2 [] (by simp) rfl (by simp [mA]) (by simp [bC])
        | true =>
          rw [hpa rfl] at hst
          repeat' (first | refine esem_seqK 4299177949 ?_ | refine esem_block ?_ | (refine stp ?_; simp only [go_sem, hua, EV.one, List.length_cons, List.length_nil]) | (refine Pure.at (hpr) (by simp) (by simp) rfl ?_; (try simp only [go_sem, hua, EV.one, List.length_cons, List.length_nil])) | (simp (disch := omega) only [wE]) | (refine spl (fun h => ?_) (fun h => ?_) <;> first | (exfalso; omega) | ((try simp only [opRun, opSkip, stepRun, pickZ]); (try simp only [go_sem, hua, EV.one, List.length_cons, List.length_nil, h]))) | (refine and_om ?_ ?_; focus omega))
          · have hst1 : prsT ts 1 = [qs] := hst
            (refine ⟨((1 : Nat), b + 3), ?_, ?_, rfl, rfl, ?_, ?_⟩; rotate_left; (focus (first | omega | (simp only []; omega))); (focus (first | (simp only [go_sem, weakL, hst1, List.map_cons, List.map_nil, accE_one, accB_cons, strsE]; done) | ((try simp only [go_sem, weakL, hst1, List.map_cons, List.map_nil, accE_one, accB_cons, strsE]); ((repeat' apply And.intro) <;> (first | rfl | trivial | ((try simp only [EV.int.injEq, EV.str.injEq, EV.bool.injEq, EV.tuple.injEq, EV.slice.injEq, List.cons.injEq, true_and, and_true]); first | rfl | omega)))))); (focus (first | trivial | (simp only [go_sem, lessL, hst1, List.map_cons, List.map_nil, accE_one, accB_cons, strsE]; done) | ((try simp only [go_sem, lessL, hst1, List.map_cons, List.map_nil, accE_one, accB_cons, strsE]); ((repeat' apply And.intro) <;> (first | rfl | trivial | ((try simp only [EV.int.injEq, EV.str.injEq, EV.bool.injEq, EV.tuple.injEq, EV.slice.injEq, List.cons.injEq, true_and, and_true]); first | rfl | omega)))))); (try simp only []))
            exact ⟨by omega, fun j hj => hR j rfl hj⟩
      · rw [accE_pos (by omega), accB_pos (by rw [strsE_length]; omega)]
        cases qb with
        | false =>
          rw [hbad rfl]
          repeat' (first | refine esem_seqK 4299177949 ?_ | refine esem_block ?_ | (refine stp ?_; simp only [go_sem, hua, EV.one, List.length_cons, List.length_nil]) | (refine Pure.at (hpr) (by simp) (by simp) rfl ?_; (try simp only [go_sem, hua, EV.one, List.length_cons, List.length_nil])) | (simp (disch := omega) only [wE]) | (refine spl (fun h => ?_) (fun h => ?_) <;> first | (exfalso; omega) | ((try simp only [opRun, opSkip, stepRun, pickZ]); (try simp only [go_sem, hua, EV.one, List.length_cons, List.length_nil, h]))) | (refine and_om ?_ ?_; focus omega))
          all_goals exact done_ef2 [] (by simp) rfl (by simp [mA]) (by simp [bC])
        | true =>
          rw [hpa rfl] at hst
          repeat' (first | refine esem_seqK 4299177949 ?_ | refine esem_block ?_ | (refine stp ?_; simp only [go_sem, hua, EV.one, List.length_cons, List.length_nil]) | (refine Pure.at (hpr) (by simp) (by simp) rfl ?_; (try simp only [go_sem, hua, EV.one, List.length_cons, List.length_nil])) | (simp (disch := omega) only [wE]) | (refine spl (fun h => ?_) (fun h => ?_) <;> first | (exfalso; omega) | ((try simp only [opRun, opSkip, stepRun, pickZ]); (try simp only [go_sem, hua, EV.one, List.length_cons, List.length_nil, h]))) | (refine and_om ?_ ?_; focus omega))
          · have htk : List.take i (strsE ps) = strsE ps := List.take_of_length_le (by rw [strsE_length]; omega)
            (refine ⟨(i + 1, b + 3), ?_, ?_, rfl, rfl, ?_, ?_⟩; rotate_left; (focus (first | omega | (simp only []; omega))); (focus (first | (simp only [go_sem, weakL, hst, strsE_append, strsE_one, accE_add1, accB_app, htk]; done) | ((try simp only [go_sem, weakL, hst, strsE_append, strsE_one, accE_add1, accB_app, htk]); ((repeat' apply And.intro) <;> (first | rfl | trivial | ((try simp only [EV.int.injEq, EV.str.injEq, EV.bool.injEq, EV.tuple.injEq, EV.slice.injEq, List.cons.injEq, true_and, and_true]); first | rfl | omega)))))); (focus (first | trivial | (simp only [go_sem, lessL, hst, strsE_append, strsE_one, accE_add1, accB_app, htk]; done) | ((try simp only [go_sem, lessL, hst, strsE_append, strsE_one, accE_add1, accB_app, htk]); ((repeat' apply And.intro) <;> (first | rfl | trivial | ((try simp only [EV.int.injEq, EV.str.injEq, EV.bool.injEq, EV.tuple.injEq, EV.slice.injEq, List.cons.injEq, true_and, and_true]); first | rfl | omega)))))); (try simp only []))
            exact ⟨by omega, fun j hj => hR j rfl hj⟩
    · obtain rfl : i = ts.length := by omega
      rw [accE_pos (by omega), accB_pos (by rw [strsE_length, prsT_length (Nat.le_refl _)]; omega)]
      rw [printL_ok z3]
      by_cases hL : 16384 < (Lib.join (ts.map prA) [32]).length
      · rw [if_pos hL]
        repeat' (first | refine esem_seqK 4299177949 ?_ | refine esem_block ?_ | (refine stp ?_; simp only [go_sem]) | (refine Eff.at2 (hjn ) [b + 1] rfl (by first | (simp; done) | (simp; omega) | (simp [bC]; done) | omega) rfl ?_; (try simp only [go_sem])) | (simp (disch := omega) only [wE]) | (refine spl (fun h => ?_) (fun h => ?_) <;> first | (exfalso; omega) | ((try simp only [opRun, opSkip, stepRun, pickZ]); (try simp only [go_sem, h]))) | (refine and_om ?_ ?_; focus omega))
        all_goals exact done_ef2 [] (by simp) rfl (by simp [mA]) (by simp [bC])
      · rw [if_neg hL]
        repeat' (first | refine esem_seqK 4299177949 ?_ | refine esem_block ?_ | (refine stp ?_; simp only [go_sem]) | (refine Eff.at2 (hjn ) [b + 1] rfl (by first | (simp; done) | (simp; omega) | (simp [bC]; done) | omega) rfl ?_; (try simp only [go_sem])) | (simp (disch := omega) only [wE]) | (refine spl (fun h => ?_) (fun h => ?_) <;> first | (exfalso; omega) | ((try simp only [opRun, opSkip, stepRun, pickZ]); (try simp only [go_sem, h]))) | (refine and_om ?_ ?_; focus omega))
        all_goals exact done_ef2 [] (by simp) rfl (by simp [mA]) (by simp [bC])
end Go.Proofs.YtnjbdcdjcfhooaaGreatDoor
namespace Go.Proofs.YtnjbdcdjcfhooaaGreatDoor
open Go.E
set_option linter.all false
set_option maxRecDepth 20000
set_option maxHeartbeats 8000000
abbrev nuE (n : Int) : List EV := [.int .i64 2, .int .i64 0, .str [], .int .i64 n]
abbrev woE (s : List UInt8) : List EV := [.int .i64 1, .int .i64 0, .str s, .int .i64 0]
abbrev quE (s : List UInt8) : List EV := [.int .i64 3, .int .i64 0, .str s, .int .i64 0]
theorem number_t (G : List Gl) (n : Int) : E.Pure G Tryz.prog 79 [.int .i64 n] (.agg (nuE n)) := by
  refine pure_hid fun V hV => ?_
  refine ecalls_in 5 [.cell 2 72] Tryz.func79 rfl rfl rfl (by kernel_rfl) (le_ble rfl) ?_
  repeat' (first | refine esem_seqK 5 ?_ | refine esem_block ?_ | (refine stp ?_; simp only [go_sem]) | (simp (disch := omega) only [wE]) | (refine spl (fun h => ?_) (fun h => ?_) <;> first | (exfalso; omega) | ((try simp only [opRun, opSkip, stepRun, pickZ]); (try simp only [go_sem, h]))) | (refine and_om ?_ ?_; focus omega))
  all_goals (refine done_zero (by simp [EV.bel, allBelow]) ?_; rw [hV])
theorem word_t (G : List Gl) (s : List UInt8) : E.Pure G Tryz.prog 80 [.str s] (.agg (woE s)) := by
  refine pure_hid fun V hV => ?_
  refine ecalls_in 5 [.cell 2 72] Tryz.func80 rfl rfl rfl (by kernel_rfl) (le_ble rfl) ?_
  repeat' (first | refine esem_seqK 5 ?_ | refine esem_block ?_ | (refine stp ?_; simp only [go_sem]) | (simp (disch := omega) only [wE]) | (refine spl (fun h => ?_) (fun h => ?_) <;> first | (exfalso; omega) | ((try simp only [opRun, opSkip, stepRun, pickZ]); (try simp only [go_sem, h]))) | (refine and_om ?_ ?_; focus omega))
  all_goals (refine done_zero (by simp [EV.bel, allBelow]) ?_; rw [hV])
theorem quoted_t (G : List Gl) (s : List UInt8) : E.Pure G Tryz.prog 81 [.str s] (.agg (quE s)) := by
  refine pure_hid fun V hV => ?_
  refine ecalls_in 5 [.cell 2 72] Tryz.func81 rfl rfl rfl (by kernel_rfl) (le_ble rfl) ?_
  repeat' (first | refine esem_seqK 5 ?_ | refine esem_block ?_ | (refine stp ?_; simp only [go_sem]) | (simp (disch := omega) only [wE]) | (refine spl (fun h => ?_) (fun h => ?_) <;> first | (exfalso; omega) | ((try simp only [opRun, opSkip, stepRun, pickZ]); (try simp only [go_sem, h]))) | (refine and_om ?_ ?_; focus omega))
  all_goals (refine done_zero (by simp [EV.bel, allBelow]) ?_; rw [hV])
theorem printL_word (s : List UInt8) : printL [⟨1, 0, s, 0⟩] = if wordB s = true then (if 16384 < s.length then ([], 4) else (s, 0)) else ([], 70) := by
  have e : prS ⟨1, 0, s, 0⟩ = (s, wordB s) := by simp [prS]
  unfold printL
  by_cases h : wordB s = true
  · have e2 : prA ⟨1, 0, s, 0⟩ = s := by unfold prA prT; rw [if_pos rfl, if_pos ⟨h, rfl⟩]; rfl
    rw [if_pos h, if_pos (by simp [e, h]), List.map_cons, List.map_nil, e2, Lib.join_one]
  · rw [if_neg h, if_neg (by simp [e, h])]
theorem name_c (G : List Gl) (t u tz tp : TypeId) (v : List Value) (h3 : gFirst t ∈ G) (h4 : gAcc u ∈ G) (hv : v[15]? = some (.int .u8 4)) (hG : gTz v tz ∈ G) (hp : gPow tp ∈ G) (s : List UInt8) (h63 : s.length ≤ 1000000000000) :
    E.Pure G Tryz.prog 43 [.str s] (.agg (tkE (nameT s))) := by
  refine pure_hid fun V hV => ?_
  have hpr := sprint_c G t u tz tp v h3 h4 hv hG hp [⟨1, 0, s, 0⟩] 1 0 (.inl rfl) rfl (by decide) (by decide) (by simp; omega) (by
    rw [List.map_cons, List.map_nil, Lib.join_one]
    unfold prA prT
    simp only [if_true]
    split
    · simp only [Option.getD_some]; omega
    · simp)
  rw [printL_word] at hpr
  simp only [toksE, tokE, List.append_nil, List.cons_append, List.nil_append] at hpr
  unfold nameT at hV
  by_cases hw : wordB s = true
  · rw [if_pos hw] at hpr hV
    by_cases hl : 16384 < s.length
    · rw [if_pos hl] at hpr
      refine ecalls_in 18 [.cell 2 72] Tryz.func43 rfl rfl rfl (by kernel_rfl) (le_ble rfl) ?_
      repeat' (first | refine esem_seqK 8213 ?_ | refine esem_block ?_ | (refine stp ?_; simp only [go_sem]) | (refine Pure.at (word_t _ _) (by simp) (by simp) rfl ?_; (try simp only [go_sem])) | (refine Pure.at (quoted_t _ _) (by simp) (by simp) rfl ?_; (try simp only [go_sem])) | (refine Eff.at2 (hpr ) [1] rfl (by first | (simp; done) | (simp; omega) | (simp [bC]; done) | omega) rfl ?_; (try simp only [go_sem])) | (simp (disch := omega) only [wE]) | (refine spl (fun h => ?_) (fun h => ?_) <;> first | (exfalso; omega) | ((try simp only [opRun, opSkip, stepRun, pickZ]); (try simp only [go_sem, h]))) | (refine and_om ?_ ?_; focus omega))
      all_goals ((refine done_zero (by simp [EV.bel, allBelow]) ?_; rw [hV]); rfl)
    · rw [if_neg hl] at hpr
      refine ecalls_in 18 [.cell 2 72] Tryz.func43 rfl rfl rfl (by kernel_rfl) (le_ble rfl) ?_
      repeat' (first | refine esem_seqK 8213 ?_ | refine esem_block ?_ | (refine stp ?_; simp only [go_sem]) | (refine Pure.at (word_t _ _) (by simp) (by simp) rfl ?_; (try simp only [go_sem])) | (refine Pure.at (quoted_t _ _) (by simp) (by simp) rfl ?_; (try simp only [go_sem])) | (refine Eff.at2 (hpr ) [1] rfl (by first | (simp; done) | (simp; omega) | (simp [bC]; done) | omega) rfl ?_; (try simp only [go_sem])) | (simp (disch := omega) only [wE]) | (refine spl (fun h => ?_) (fun h => ?_) <;> first | (exfalso; omega) | ((try simp only [opRun, opSkip, stepRun, pickZ]); (try simp only [go_sem, h]))) | (refine and_om ?_ ?_; focus omega))
      all_goals ((refine done_zero (by simp [EV.bel, allBelow]) ?_; rw [hV]); rfl)
  · rw [if_neg hw] at hpr hV
    refine ecalls_in 18 [.cell 2 72] Tryz.func43 rfl rfl rfl (by kernel_rfl) (le_ble rfl) ?_
    repeat' (first | refine esem_seqK 8213 ?_ | refine esem_block ?_ | (refine stp ?_; simp only [go_sem]) | (refine Pure.at (word_t _ _) (by simp) (by simp) rfl ?_; (try simp only [go_sem])) | (refine Pure.at (quoted_t _ _) (by simp) (by simp) rfl ?_; (try simp only [go_sem])) | (refine Eff.at2 (hpr ) [1] rfl (by first | (simp; done) | (simp; omega) | (simp [bC]; done) | omega) rfl ?_; (try simp only [go_sem])) | (simp (disch := omega) only [wE]) | (refine spl (fun h => ?_) (fun h => ?_) <;> first | (exfalso; omega) | ((try simp only [opRun, opSkip, stepRun, pickZ]); (try simp only [go_sem, h]))) | (refine and_om ?_ ?_; focus omega))
    all_goals ((refine done_zero (by simp [EV.bel, allBelow]) ?_; rw [hV]); rfl)
def shE (ws : List (List UInt8)) (n : Int) : List EV := if 0 ≤ n ∧ n < ws.length ∧ ws.getD n.toNat [] ≠ [] then woE (ws.getD n.toNat []) else nuE n
theorem shownG_c (G : List Gl) (n : Int) : Eff G Tryz.prog 41 [.slice (some ⟨0, 0⟩) 2 2, .int .i64 n] [(0, .cells (gravL.map EV.str) 9 0 true 0)] 1 (.agg (shE gravL n)) [] 1 := by
  unfold Eff
  have hc : n < 0 ∨ n = 0 ∨ n = 1 ∨ 2 ≤ n := by omega
  have he : (gravL.length : Int) = 2 := rfl
  have hno : n < 0 ∨ 2 ≤ n → shE gravL n = nuE n := fun h => by unfold shE; rw [he, if_neg (by omega)]
  rcases hc with h | rfl | rfl | h
  · rw [hno (.inl h)]
    simp only [gravL, List.map]
    refine ecalls_in 27 [.cell 4 72] Tryz.func41 rfl rfl rfl (by kernel_rfl) (le_ble rfl) ?_
    repeat' (first | refine esem_seqK 524307 ?_ | refine esem_block ?_ | (refine stp ?_; simp only [go_sem]) | (refine Pure.at (number_t _ _) (by simp) (by simp) rfl ?_; (try simp only [go_sem])) | (refine Pure.at (word_t _ _) (by simp) (by simp) rfl ?_; (try simp only [go_sem])) | (simp (disch := omega) only [wE]) | (refine spl (fun h => ?_) (fun h => ?_) <;> first | (exfalso; omega) | ((try simp only [opRun, opSkip, stepRun, pickZ]); (try simp only [go_sem, h]))) | (refine and_om ?_ ?_; focus omega))
    all_goals exact done_ef2 [] (by simp) rfl (by simp [mA]) (by simp [bC])
  · rw [show shE gravL 0 = woE [115, 116, 97, 121, 115] from rfl]
    simp only [gravL, List.map]
    refine ecalls_in 27 [.cell 4 72] Tryz.func41 rfl rfl rfl (by kernel_rfl) (le_ble rfl) ?_
    repeat' (first | refine esem_seqK 524307 ?_ | refine esem_block ?_ | (refine stp ?_; simp only [go_sem]) | (refine Pure.at (number_t _ _) (by simp) (by simp) rfl ?_; (try simp only [go_sem])) | (refine Pure.at (word_t _ _) (by simp) (by simp) rfl ?_; (try simp only [go_sem])) | (simp (disch := omega) only [wE]) | (refine spl (fun h => ?_) (fun h => ?_) <;> first | (exfalso; omega) | ((try simp only [opRun, opSkip, stepRun, pickZ]); (try simp only [go_sem, h]))) | (refine and_om ?_ ?_; focus omega))
    all_goals exact done_ef2 [] (by simp) rfl (by simp [mA]) (by simp [bC])
  · rw [show shE gravL 1 = woE [103, 111, 101, 115] from rfl]
    simp only [gravL, List.map]
    refine ecalls_in 27 [.cell 4 72] Tryz.func41 rfl rfl rfl (by kernel_rfl) (le_ble rfl) ?_
    repeat' (first | refine esem_seqK 524307 ?_ | refine esem_block ?_ | (refine stp ?_; simp only [go_sem]) | (refine Pure.at (number_t _ _) (by simp) (by simp) rfl ?_; (try simp only [go_sem])) | (refine Pure.at (word_t _ _) (by simp) (by simp) rfl ?_; (try simp only [go_sem])) | (simp (disch := omega) only [wE]) | (refine spl (fun h => ?_) (fun h => ?_) <;> first | (exfalso; omega) | ((try simp only [opRun, opSkip, stepRun, pickZ]); (try simp only [go_sem, h]))) | (refine and_om ?_ ?_; focus omega))
    all_goals exact done_ef2 [] (by simp) rfl (by simp [mA]) (by simp [bC])
  · rw [hno (.inr h)]
    simp only [gravL, List.map]
    refine ecalls_in 27 [.cell 4 72] Tryz.func41 rfl rfl rfl (by kernel_rfl) (le_ble rfl) ?_
    repeat' (first | refine esem_seqK 524307 ?_ | refine esem_block ?_ | (refine stp ?_; simp only [go_sem]) | (refine Pure.at (number_t _ _) (by simp) (by simp) rfl ?_; (try simp only [go_sem])) | (refine Pure.at (word_t _ _) (by simp) (by simp) rfl ?_; (try simp only [go_sem])) | (simp (disch := omega) only [wE]) | (refine spl (fun h => ?_) (fun h => ?_) <;> first | (exfalso; omega) | ((try simp only [opRun, opSkip, stepRun, pickZ]); (try simp only [go_sem, h]))) | (refine and_om ?_ ?_; focus omega))
    all_goals exact done_ef2 [] (by simp) rfl (by simp [mA]) (by simp [bC])
theorem shownM_c (G : List Gl) (n : Int) : Eff G Tryz.prog 41 [.slice (some ⟨0, 0⟩) 9 9, .int .i64 n] [(0, .cells (motL.map EV.str) 9 0 true 0)] 1 (.agg (shE motL n)) [] 1 := by
  unfold Eff
  have hc : n < 0 ∨ n = 0 ∨ n = 1 ∨ n = 2 ∨ n = 3 ∨ n = 4 ∨ n = 5 ∨ n = 6 ∨ n = 7 ∨ n = 8 ∨ 9 ≤ n := by omega
  have he : (motL.length : Int) = 9 := rfl
  have hno : n < 0 ∨ 9 ≤ n → shE motL n = nuE n := fun h => by unfold shE; rw [he, if_neg (by omega)]
  rcases hc with h | rfl | rfl | rfl | rfl | rfl | rfl | rfl | rfl | rfl | h
  · rw [hno (.inl h)]
    simp only [motL, List.map]
    refine ecalls_in 27 [.cell 4 72] Tryz.func41 rfl rfl rfl (by kernel_rfl) (le_ble rfl) ?_
    repeat' (first | refine esem_seqK 524307 ?_ | refine esem_block ?_ | (refine stp ?_; simp only [go_sem]) | (refine Pure.at (number_t _ _) (by simp) (by simp) rfl ?_; (try simp only [go_sem])) | (refine Pure.at (word_t _ _) (by simp) (by simp) rfl ?_; (try simp only [go_sem])) | (simp (disch := omega) only [wE]) | (refine spl (fun h => ?_) (fun h => ?_) <;> first | (exfalso; omega) | ((try simp only [opRun, opSkip, stepRun, pickZ]); (try simp only [go_sem, h]))) | (refine and_om ?_ ?_; focus omega))
    all_goals exact done_ef2 [] (by simp) rfl (by simp [mA]) (by simp [bC])
  · rw [show shE motL 0 = nuE 0 from rfl]
    simp only [motL, List.map]
    refine ecalls_in 27 [.cell 4 72] Tryz.func41 rfl rfl rfl (by kernel_rfl) (le_ble rfl) ?_
    repeat' (first | refine esem_seqK 524307 ?_ | refine esem_block ?_ | (refine stp ?_; simp only [go_sem]) | (refine Pure.at (number_t _ _) (by simp) (by simp) rfl ?_; (try simp only [go_sem])) | (refine Pure.at (word_t _ _) (by simp) (by simp) rfl ?_; (try simp only [go_sem])) | (simp (disch := omega) only [wE]) | (refine spl (fun h => ?_) (fun h => ?_) <;> first | (exfalso; omega) | ((try simp only [opRun, opSkip, stepRun, pickZ]); (try simp only [go_sem, h]))) | (refine and_om ?_ ?_; focus omega))
    all_goals exact done_ef2 [] (by simp) rfl (by simp [mA]) (by simp [bC])
  · rw [show shE motL 1 = woE [108, 101, 102, 116] from rfl]
    simp only [motL, List.map]
    refine ecalls_in 27 [.cell 4 72] Tryz.func41 rfl rfl rfl (by kernel_rfl) (le_ble rfl) ?_
    repeat' (first | refine esem_seqK 524307 ?_ | refine esem_block ?_ | (refine stp ?_; simp only [go_sem]) | (refine Pure.at (number_t _ _) (by simp) (by simp) rfl ?_; (try simp only [go_sem])) | (refine Pure.at (word_t _ _) (by simp) (by simp) rfl ?_; (try simp only [go_sem])) | (simp (disch := omega) only [wE]) | (refine spl (fun h => ?_) (fun h => ?_) <;> first | (exfalso; omega) | ((try simp only [opRun, opSkip, stepRun, pickZ]); (try simp only [go_sem, h]))) | (refine and_om ?_ ?_; focus omega))
    all_goals exact done_ef2 [] (by simp) rfl (by simp [mA]) (by simp [bC])
  · rw [show shE motL 2 = woE [114, 105, 103, 104, 116] from rfl]
    simp only [motL, List.map]
    refine ecalls_in 27 [.cell 4 72] Tryz.func41 rfl rfl rfl (by kernel_rfl) (le_ble rfl) ?_
    repeat' (first | refine esem_seqK 524307 ?_ | refine esem_block ?_ | (refine stp ?_; simp only [go_sem]) | (refine Pure.at (number_t _ _) (by simp) (by simp) rfl ?_; (try simp only [go_sem])) | (refine Pure.at (word_t _ _) (by simp) (by simp) rfl ?_; (try simp only [go_sem])) | (simp (disch := omega) only [wE]) | (refine spl (fun h => ?_) (fun h => ?_) <;> first | (exfalso; omega) | ((try simp only [opRun, opSkip, stepRun, pickZ]); (try simp only [go_sem, h]))) | (refine and_om ?_ ?_; focus omega))
    all_goals exact done_ef2 [] (by simp) rfl (by simp [mA]) (by simp [bC])
  · rw [show shE motL 3 = woE [119, 111, 114, 100, 108, 101, 102, 116] from rfl]
    simp only [motL, List.map]
    refine ecalls_in 27 [.cell 4 72] Tryz.func41 rfl rfl rfl (by kernel_rfl) (le_ble rfl) ?_
    repeat' (first | refine esem_seqK 524307 ?_ | refine esem_block ?_ | (refine stp ?_; simp only [go_sem]) | (refine Pure.at (number_t _ _) (by simp) (by simp) rfl ?_; (try simp only [go_sem])) | (refine Pure.at (word_t _ _) (by simp) (by simp) rfl ?_; (try simp only [go_sem])) | (simp (disch := omega) only [wE]) | (refine spl (fun h => ?_) (fun h => ?_) <;> first | (exfalso; omega) | ((try simp only [opRun, opSkip, stepRun, pickZ]); (try simp only [go_sem, h]))) | (refine and_om ?_ ?_; focus omega))
    all_goals exact done_ef2 [] (by simp) rfl (by simp [mA]) (by simp [bC])
  · rw [show shE motL 4 = woE [119, 111, 114, 100, 114, 105, 103, 104, 116] from rfl]
    simp only [motL, List.map]
    refine ecalls_in 27 [.cell 4 72] Tryz.func41 rfl rfl rfl (by kernel_rfl) (le_ble rfl) ?_
    repeat' (first | refine esem_seqK 524307 ?_ | refine esem_block ?_ | (refine stp ?_; simp only [go_sem]) | (refine Pure.at (number_t _ _) (by simp) (by simp) rfl ?_; (try simp only [go_sem])) | (refine Pure.at (word_t _ _) (by simp) (by simp) rfl ?_; (try simp only [go_sem])) | (simp (disch := omega) only [wE]) | (refine spl (fun h => ?_) (fun h => ?_) <;> first | (exfalso; omega) | ((try simp only [opRun, opSkip, stepRun, pickZ]); (try simp only [go_sem, h]))) | (refine and_om ?_ ?_; focus omega))
    all_goals exact done_ef2 [] (by simp) rfl (by simp [mA]) (by simp [bC])
  · rw [show shE motL 5 = woE [117, 112] from rfl]
    simp only [motL, List.map]
    refine ecalls_in 27 [.cell 4 72] Tryz.func41 rfl rfl rfl (by kernel_rfl) (le_ble rfl) ?_
    repeat' (first | refine esem_seqK 524307 ?_ | refine esem_block ?_ | (refine stp ?_; simp only [go_sem]) | (refine Pure.at (number_t _ _) (by simp) (by simp) rfl ?_; (try simp only [go_sem])) | (refine Pure.at (word_t _ _) (by simp) (by simp) rfl ?_; (try simp only [go_sem])) | (simp (disch := omega) only [wE]) | (refine spl (fun h => ?_) (fun h => ?_) <;> first | (exfalso; omega) | ((try simp only [opRun, opSkip, stepRun, pickZ]); (try simp only [go_sem, h]))) | (refine and_om ?_ ?_; focus omega))
    all_goals exact done_ef2 [] (by simp) rfl (by simp [mA]) (by simp [bC])
  · rw [show shE motL 6 = woE [100, 111, 119, 110] from rfl]
    simp only [motL, List.map]
    refine ecalls_in 27 [.cell 4 72] Tryz.func41 rfl rfl rfl (by kernel_rfl) (le_ble rfl) ?_
    repeat' (first | refine esem_seqK 524307 ?_ | refine esem_block ?_ | (refine stp ?_; simp only [go_sem]) | (refine Pure.at (number_t _ _) (by simp) (by simp) rfl ?_; (try simp only [go_sem])) | (refine Pure.at (word_t _ _) (by simp) (by simp) rfl ?_; (try simp only [go_sem])) | (simp (disch := omega) only [wE]) | (refine spl (fun h => ?_) (fun h => ?_) <;> first | (exfalso; omega) | ((try simp only [opRun, opSkip, stepRun, pickZ]); (try simp only [go_sem, h]))) | (refine and_om ?_ ?_; focus omega))
    all_goals exact done_ef2 [] (by simp) rfl (by simp [mA]) (by simp [bC])
  · rw [show shE motL 7 = woE [115, 116, 97, 114, 116] from rfl]
    simp only [motL, List.map]
    refine ecalls_in 27 [.cell 4 72] Tryz.func41 rfl rfl rfl (by kernel_rfl) (le_ble rfl) ?_
    repeat' (first | refine esem_seqK 524307 ?_ | refine esem_block ?_ | (refine stp ?_; simp only [go_sem]) | (refine Pure.at (number_t _ _) (by simp) (by simp) rfl ?_; (try simp only [go_sem])) | (refine Pure.at (word_t _ _) (by simp) (by simp) rfl ?_; (try simp only [go_sem])) | (simp (disch := omega) only [wE]) | (refine spl (fun h => ?_) (fun h => ?_) <;> first | (exfalso; omega) | ((try simp only [opRun, opSkip, stepRun, pickZ]); (try simp only [go_sem, h]))) | (refine and_om ?_ ?_; focus omega))
    all_goals exact done_ef2 [] (by simp) rfl (by simp [mA]) (by simp [bC])
  · rw [show shE motL 8 = woE [101, 110, 100] from rfl]
    simp only [motL, List.map]
    refine ecalls_in 27 [.cell 4 72] Tryz.func41 rfl rfl rfl (by kernel_rfl) (le_ble rfl) ?_
    repeat' (first | refine esem_seqK 524307 ?_ | refine esem_block ?_ | (refine stp ?_; simp only [go_sem]) | (refine Pure.at (number_t _ _) (by simp) (by simp) rfl ?_; (try simp only [go_sem])) | (refine Pure.at (word_t _ _) (by simp) (by simp) rfl ?_; (try simp only [go_sem])) | (simp (disch := omega) only [wE]) | (refine spl (fun h => ?_) (fun h => ?_) <;> first | (exfalso; omega) | ((try simp only [opRun, opSkip, stepRun, pickZ]); (try simp only [go_sem, h]))) | (refine and_om ?_ ?_; focus omega))
    all_goals exact done_ef2 [] (by simp) rfl (by simp [mA]) (by simp [bC])
  · rw [hno (.inr h)]
    simp only [motL, List.map]
    refine ecalls_in 27 [.cell 4 72] Tryz.func41 rfl rfl rfl (by kernel_rfl) (le_ble rfl) ?_
    repeat' (first | refine esem_seqK 524307 ?_ | refine esem_block ?_ | (refine stp ?_; simp only [go_sem]) | (refine Pure.at (number_t _ _) (by simp) (by simp) rfl ?_; (try simp only [go_sem])) | (refine Pure.at (word_t _ _) (by simp) (by simp) rfl ?_; (try simp only [go_sem])) | (simp (disch := omega) only [wE]) | (refine spl (fun h => ?_) (fun h => ?_) <;> first | (exfalso; omega) | ((try simp only [opRun, opSkip, stepRun, pickZ]); (try simp only [go_sem, h]))) | (refine and_om ?_ ?_; focus omega))
    all_goals exact done_ef2 [] (by simp) rfl (by simp [mA]) (by simp [bC])
end Go.Proofs.YtnjbdcdjcfhooaaGreatDoor
