/-
  Own work: walks and laws of the functions that the statement reaches; the statement itself stands in the last text.
-/
import Derived.Test.YtnjbdcdjcfhooaaGreatDoorHg
namespace Go.Proofs.YtnjbdcdjcfhooaaGreatDoor
open Go.E
set_option linter.all false
set_option maxRecDepth 20000
set_option maxHeartbeats 8000000
/-! The reference's reading of a line. -/
def findS (ws : List (List UInt8)) (s : List UInt8) : Int := if s = [] then -1 else idxS ws s 0
theorem strs_get {ws : List (List UInt8)} {j : Nat} (h : j < ws.length) : (ws.map EV.str)[j]? = some (.str (ws.getD j [])) := by
  simp [List.getD_eq_getElem?_getD, List.getElem?_eq_getElem h]
theorem idxS_step {ws : List (List UInt8)} {s : List UInt8} {j k : Nat} (h : j < ws.length) : idxS (ws.drop j) s k = if s = ws.getD j [] then (k : Int) else idxS (ws.drop (j + 1)) s (k + 1) := by
  rw [List.drop_eq_getElem_cons h, idxS]
  simp [List.getD_eq_getElem?_getD, List.getElem?_eq_getElem h]
theorem find_c (G : List Gl) (ws : List (List UInt8)) (n : Nat) (hn : ws.length = n) (hb : n ≤ 1000) (s : List UInt8) : Eff G Tryz.prog 73 [.slice (some ⟨0, 0⟩) n n, .str s] [(0, .cells (ws.map EV.str) 9 0 true 0)] 1 (.int .i64 (findS ws s)) [] 1 := by
  unfold Eff
  refine ecalls_in 23 [.tmp 4] Tryz.func73 rfl rfl rfl (by kernel_rfl) (le_ble rfl) ?_
  repeat' (first
    | refine esem_seqK 2097715 ?_
    | refine esem_block ?_
    | (refine stp ?_; simp only [go_sem])
    | (simp (disch := omega) only [wrap64E, wrapU8E, wrapU16E, wrapU32E, wrapU64E, wrapI32E, tdivE, tmodE])
    | (refine spl (fun h => ?_) (fun h => ?_) <;> first | (exfalso; omega) | ((try simp only [opRun, opSkip, stepRun, pickZ]); (try simp only [go_sem, h])))
    | (refine and_om ?_ ?_; focus omega))
  refine esem_loopS (fun z : Nat => [(0, .slice (some ⟨0, 0⟩) n n), (1, .str s), (5, .int .i64 z)]) (fun z : Nat => [(0, .cells (ws.map EV.str) 9 0 true 0)]) (fun z : Nat => 1) (fun z : Nat => z ≤ n ∧ (s ≠ [] → idxS (ws.drop z) s z = idxS ws s 0)) (fun z : Nat => n - z) (0) (fun z hz => ⟨by simp [frBel], by first | trivial | simp, by first | exact Nat.le_refl _ | exact Nat.zero_le _ | omega | (simp only []; omega)⟩) (by exact ⟨Nat.zero_le _, fun _ => rfl⟩) (by first | (simp only [go_sem, weakL]; done) | ((try simp only [go_sem, weakL]); ((repeat' apply And.intro) <;> (first | rfl | trivial | ((try simp only [EV.int.injEq, EV.str.injEq, EV.bool.injEq, EV.tuple.injEq, EV.slice.injEq, List.cons.injEq, true_and, and_true]); first | rfl | omega))))) (by first | trivial | (simp only [go_sem, lessL]; done) | ((try simp only [go_sem, lessL]); ((repeat' apply And.intro) <;> (first | rfl | trivial | ((try simp only [EV.int.injEq, EV.str.injEq, EV.bool.injEq, EV.tuple.injEq, EV.slice.injEq, List.cons.injEq, true_and, and_true]); first | rfl | omega))))) ?_
  rintro j ⟨z1, z2⟩
  try simp only at z1 z2
  try simp only []
  by_cases hj : j < n
  · have hg := strs_get (ws := ws) (j := j) (by omega)
    have hst := idxS_step (ws := ws) (s := s) (j := j) (k := j) (by omega)
    repeat' (first
      | refine esem_seqK 2097715 ?_
      | refine esem_block ?_
      | (refine stp ?_; simp only [go_sem, hg])
      | (simp (disch := omega) only [wrap64E, wrapU8E, wrapU16E, wrapU32E, wrapU64E, wrapI32E, tdivE, tmodE])
      | (refine spl (fun h => ?_) (fun h => ?_) <;> first | (exfalso; omega) | ((try simp only [opRun, opSkip, stepRun, pickZ]); (try simp only [go_sem, hg, h])))
      | (refine and_om ?_ ?_; focus omega))
    · rename_i h1
      have e : findS ws s = j := by unfold findS; rw [if_neg h, ← z2 h, hst, if_pos h1.symm]
      rw [e]
      exact done_eff [] (by simp) (by simp) (by simp) (by simp) (by simp) (by simp) rfl (by simp [List.map_append]) (by simp [bytesE_cons, bytesE_nil])
    · (refine ⟨(j + 1), ?_, ?_, rfl, rfl, ?_, ?_⟩; rotate_left; (focus (first | omega | (simp only []; omega))); (focus (first | (simp only [go_sem, weakL]; done) | ((try simp only [go_sem, weakL]); ((repeat' apply And.intro) <;> (first | rfl | trivial | ((try simp only [EV.int.injEq, EV.str.injEq, EV.bool.injEq, EV.tuple.injEq, EV.slice.injEq, List.cons.injEq, true_and, and_true]); first | rfl | omega)))))); (focus (first | trivial | (simp only [go_sem, lessL]; done) | ((try simp only [go_sem, lessL]); ((repeat' apply And.intro) <;> (first | rfl | trivial | ((try simp only [EV.int.injEq, EV.str.injEq, EV.bool.injEq, EV.tuple.injEq, EV.slice.injEq, List.cons.injEq, true_and, and_true]); first | rfl | omega)))))); (try simp only [])); omega
    · (refine ⟨(j + 1), ?_, ?_, rfl, rfl, ?_, ?_⟩; rotate_left; (focus (first | omega | (simp only []; omega))); (focus (first | (simp only [go_sem, weakL]; done) | ((try simp only [go_sem, weakL]); ((repeat' apply And.intro) <;> (first | rfl | trivial | ((try simp only [EV.int.injEq, EV.str.injEq, EV.bool.injEq, EV.tuple.injEq, EV.slice.injEq, List.cons.injEq, true_and, and_true]); first | rfl | omega)))))); (focus (first | trivial | (simp only [go_sem, lessL]; done) | ((try simp only [go_sem, lessL]); ((repeat' apply And.intro) <;> (first | rfl | trivial | ((try simp only [EV.int.injEq, EV.str.injEq, EV.bool.injEq, EV.tuple.injEq, EV.slice.injEq, List.cons.injEq, true_and, and_true]); first | rfl | omega)))))); (try simp only [])); exact ⟨by omega, fun hs => by rw [← z2 hs, hst, if_neg (fun e => h e.symm)]⟩
  · have e : findS ws s = -1 := by
      unfold findS
      split
      · rfl
      · rename_i h2; rw [← z2 h2, List.drop_eq_nil_of_le (by omega)]; rfl
    rw [e]
    repeat' (first
      | refine esem_seqK 2097715 ?_
      | refine esem_block ?_
      | (refine stp ?_; simp only [go_sem])
      | (simp (disch := omega) only [wrap64E, wrapU8E, wrapU16E, wrapU32E, wrapU64E, wrapI32E, tdivE, tmodE])
      | (refine spl (fun h => ?_) (fun h => ?_) <;> first | (exfalso; omega) | ((try simp only [opRun, opSkip, stepRun, pickZ]); (try simp only [go_sem, h])))
      | (refine and_om ?_ ?_; focus omega))
    all_goals first
      | (exfalso; omega)
      | exact done_eff [] (by simp) (by simp) (by simp) (by simp) (by simp) (by simp) rfl (by simp [List.map_append]) (by simp [bytesE_cons, bytesE_nil])
theorem rmotions_c (G : List Gl) : Eff G Tryz.prog 74 [] [] 0 (.slice (some ⟨0, 0⟩) 9 9) [(0, .cells (motL.map EV.str) 9 0 true 0)] 1 := by
  unfold Eff
  refine ecalls_in 2 [.tmp 0] Tryz.func74 rfl rfl rfl (by kernel_rfl) (le_ble rfl) ?_
  repeat' (first
    | refine esem_seqK 1 ?_
    | refine esem_block ?_
    | (refine stp ?_; simp only [go_sem])
    | (simp (disch := omega) only [wrap64E, wrapU8E, wrapU16E, wrapU32E, wrapU64E, wrapI32E, tdivE, tmodE])
    | (refine spl (fun h => ?_) (fun h => ?_) <;> first | (exfalso; omega) | ((try simp only [opRun, opSkip, stepRun, pickZ]); (try simp only [go_sem, h])))
    | (refine and_om ?_ ?_; focus omega))
  simp only [motL, List.map]
  exact done_eff [0] (by simp) (by simp) (by simp) (by simp) (by simp) (by simp) rfl (by simp [List.map_append]) (by simp [bytesE_cons, bytesE_nil])
def putS (c : Cmd) (a : UInt8) (t : Tok) : Cmd × Bool :=
  if a.toNat = 100 then ({c with doc := t.text}, decide (t.kind = 1 ∨ t.kind = 3)) else
  if a.toNat = 120 then ({c with text := t.text}, decide (t.kind = 1 ∨ t.kind = 3)) else
  if a.toNat = 113 then ({c with text := t.text}, decide (t.kind = 3)) else
  if a.toNat = 105 then ({c with id := IntKind.u32.wrap t.num}, decide (t.kind = 2 ∧ t.num < 4294967296)) else
  if a.toNat = 102 then ({c with frm := t.num}, decide (t.kind = 2)) else
  if a.toNat = 116 then ({c with to := t.num}, decide (t.kind = 2)) else
  if a.toNat = 103 then (if t.kind = 1 then ({c with grav := IntKind.u8.wrap (findS gravL t.text)}, decide (0 ≤ findS gravL t.text)) else ({c with grav := IntKind.u8.wrap t.num}, decide (t.kind = 2 ∧ t.num < 256))) else
  if t.kind = 1 then ({c with frm := findS motL t.text}, decide (0 ≤ findS motL t.text)) else ({c with frm := t.num}, decide (t.kind = 2))
theorem put_c (G : List Gl) (c : Cmd) (a : UInt8) (t : Tok) : E.Pure G Tryz.prog 29 [.agg (cmdE c), .int .u8 a.toNat, .agg (tkE t)] (.tuple [.agg (cmdE (putS c a t).1), .bool (putS c a t).2]) := by
  refine pure_hid fun V hV => ?_
  have hG := find_c G gravL 2 rfl (by decide) t.text
  have hM := find_c G motL 9 rfl (by decide) t.text
  have hm0 := rmotions_c G
  unfold putS at hV
  generalize findS gravL t.text = gx at hG hV
  generalize findS motL t.text = mx at hM hV
  simp only [gravL, motL, List.map] at hG hM hm0
  refine ecalls_in 115 [.cell 6 24, .tmp 7] Tryz.func29 rfl rfl rfl (by kernel_rfl) (le_ble rfl) ?_
  repeat' (first
    | refine esem_seqK 10141209713681885460134082121711 ?_
    | refine esem_block ?_
    | (refine stp ?_; simp only [go_sem])
    | (refine drawQ (id := 16) mixed [(1, []), (2, []), (3, []), (0, []), (4, []), (5, []), (6, []), (7, [4]), (8, [])] (by kernel_rfl) ?_; simp only [go_sem])
    | (refine drawQ (id := 29) mixed [(1, []), (2, []), (3, []), (0, []), (4, []), (5, []), (6, []), (7, [4]), (8, [])] (by kernel_rfl) ?_; simp only [go_sem])
    | (refine drawQ (id := 32) mixed [(1, []), (2, []), (0, [2]), (3, []), (4, []), (5, [])] (by kernel_rfl) ?_; simp only [go_sem])
    | (refine drawQ (id := 33) mixed [(1, []), (0, []), (2, []), (3, []), (4, [2]), (5, [])] (by kernel_rfl) ?_; simp only [go_sem])
    | (refine Eff.at2 (hG ) [3] rfl (by first | (simp; done) | (simp; omega) | (simp [bytesE_cons, bytesE_nil]; done) | omega) rfl ?_; (try simp only [go_sem]))
    | (refine Eff.at2 (hm0 ) [] rfl (by first | (simp; done) | (simp; omega) | (simp [bytesE_cons, bytesE_nil]; done) | omega) rfl ?_; (try simp only [go_sem]))
    | (refine Eff.at2 (hM ) [9] rfl (by first | (simp; done) | (simp; omega) | (simp [bytesE_cons, bytesE_nil]; done) | omega) rfl ?_; (try simp only [go_sem]))
    | (simp (disch := omega) only [wrap64E, wrapU8E, wrapU16E, wrapU32E, wrapU64E, wrapI32E, tdivE, tmodE])
    | (refine spl (fun h => ?_) (fun h => ?_) <;> first | (exfalso; omega) | ((try simp only [opRun, opSkip, stepRun, pickZ]); (try simp only [go_sem, h])))
    | (refine and_om ?_ ?_; focus omega))
  all_goals try
    ((refine done_zero (by simp [EV.bel, allBelow]) ?_; rw [hV]); (repeat (first | rw [if_pos (by omega)] | rw [if_neg (by omega)]))
     (try simp only [EV.tuple.injEq, EV.agg.injEq, List.cons.injEq, EV.bool.injEq, true_and, and_true])
     first
     | done
     | (rw [decide_eq_decide]; omega)
     | (rw [eq_comm, decide_eq_true_iff]; omega)
     | (rw [eq_comm, decide_eq_false_iff_not]; omega))
/-- The forms' table, as the reference has it. -/
def refL : List (List UInt8 × List UInt8) := [([], []), ([110, 101, 119], [100]), ([100, 114, 111, 112], [100]), ([114, 101, 110, 97, 109, 101], [100, 120]), ([105, 110, 115, 101, 114, 116], [100, 102, 113]), ([100, 101, 108, 101, 116, 101], [100, 102, 116]), ([114, 101, 112, 108, 97, 99, 101], [100, 102, 116, 113]), ([109, 97, 114, 107], [100, 105, 102, 103]), ([117, 110, 109, 97, 114, 107], [100, 105]), ([99, 117, 114, 115, 111, 114], [100, 105, 102, 116]), ([109, 111, 118, 101], [100, 105, 109, 116]), ([117, 110, 99, 117, 114, 115, 111, 114], [100, 105]), ([117, 110, 100, 111], [100]), ([114, 101, 100, 111], [100]), ([114, 101, 97, 100], [100, 102, 116]), ([108, 101, 110, 103, 116, 104], [100]), ([119, 104, 101, 114, 101], [100, 102]), ([112, 108, 97, 99, 101], [100, 102, 116]), ([109, 97, 114, 107, 115], [100]), ([99, 117, 114, 115, 111, 114, 115], [100]), ([100, 111, 99, 115], []), ([102, 105, 110, 100], [100, 102, 113]), ([115, 116, 97, 116], [100])]
def rowsE : List (List UInt8 × List UInt8) → List EV
  | [] => []
  | (a, b) :: r => .str a :: .str b :: rowsE r
theorem rforms_c (G : List Gl) : Eff G Tryz.prog 28 [] [] 0 (.slice (some ⟨0, 0⟩) 23 23) [(0, .cells (rowsE refL) 89 0 true 0)] 1 := by
  unfold Eff
  refine ecalls_in 25 [.tmp 0] Tryz.func28 rfl rfl rfl (by kernel_rfl) (le_ble rfl) ?_
  repeat' (first
    | refine esem_seqK 1 ?_
    | refine esem_block ?_
    | (refine stp ?_; simp only [go_sem])
    | (simp only [List.append_eq, List.cons_append, List.nil_append, go_sem])
    | (simp (disch := omega) only [wrap64E, wrapU8E, wrapU16E, wrapU32E, wrapU64E, wrapI32E, tdivE, tmodE])
    | (refine spl (fun h => ?_) (fun h => ?_) <;> first | (exfalso; omega) | ((try simp only [opRun, opSkip, stepRun, pickZ]); (try simp only [go_sem, h])))
    | (refine and_om ?_ ?_; focus omega))
  simp only [refL, rowsE]
  exact done_eff [0] (by simp) (by simp) (by simp) (by simp) (by simp) (by simp) rfl (by simp [List.map_append]) (by simp [bytesE_cons, bytesE_nil])
end Go.Proofs.YtnjbdcdjcfhooaaGreatDoor

namespace Go.Proofs.YtnjbdcdjcfhooaaGreatDoor
open Go.E
set_option linter.all false
set_option maxRecDepth 20000
set_option maxHeartbeats 8000000
/-! The reference's Parse. -/
def kindUp (t : Tok) : Nat → Nat
  | 0 => 0
  | i + 1 => if 1 ≤ i ∧ t.kind = 1 ∧ t.text = (refL.getD i ([], [])).1 then i else kindUp t i
theorem kindUp_lt (t : Tok) : ∀ i, kindUp t i ≤ i - 1
  | 0 => by simp [kindUp]
  | i + 1 => by
    have := kindUp_lt t i
    rw [kindUp]
    split <;> omega
theorem rows_get : ∀ {r : List (List UInt8 × List UInt8)} {i : Nat}, i < r.length → (rowsE r)[i * 2]? = some (.str (r.getD i ([], [])).1) ∧ (rowsE r)[i * 2 + 1]? = some (.str (r.getD i ([], [])).2)
  | [], i, h => by simp at h
  | (a, b) :: r, 0, h => by simp [rowsE]
  | (a, b) :: r, i + 1, h => by
    have := rows_get (r := r) (i := i) (by simpa using h)
    have e : (i + 1) * 2 = i * 2 + 1 + 1 := by omega
    rw [e]
    simpa [rowsE] using this
theorem rowsE_length : ∀ r : List (List UInt8 × List UInt8), (rowsE r).length = r.length * 2
  | [] => rfl
  | (a, b) :: r => by simp [rowsE, rowsE_length r]; omega
@[simp] theorem allBelow_rows (k : Nat) : ∀ r, allBelow k (rowsE r)
  | [] => trivial
  | (a, b) :: r => by simp [rowsE, allBelow, EV.bel, allBelow_rows k r]
@[simp] theorem renL_rows (π : Nat → Nat) : ∀ r, renL π (rowsE r) = rowsE r
  | [] => rfl
  | (a, b) :: r => by simp [rowsE, renL, EV.ren, renL_rows π r]
attribute [go_sem] renL_rows
theorem toks_cells {l : List Tok} {i : Nat} (h : i < l.length) : (toksE l)[i * 4]? = some (.int .i64 (tokAt l i).kind) ∧ (toksE l)[i * 4 + 1]? = some (.int .i64 (tokAt l i).at_) ∧ (toksE l)[i * 4 + 2]? = some (.str (tokAt l i).text) := by
  have := toks_at h
  have h0 : ∀ j, j < 4 → (((toksE l).drop (i * 4)).take 4)[j]? = (toksE l)[i * 4 + j]? := fun j hj => by simp [List.getElem?_take, List.getElem?_drop, hj]
  refine ⟨?_, ?_, ?_⟩
  · rw [show i * 4 = i * 4 + 0 from rfl, ← h0 0 (by omega), this]; rfl
  · rw [← h0 1 (by omega), this]; rfl
  · rw [← h0 2 (by omega), this]; rfl
def putR (args : List UInt8) (all : List Tok) (i : Nat) (c : Cmd) : Cmd × Option Nat :=
  if h : i < all.length then
    if args.length < i then (c, some (tokAt all i).at_)
    else if (putS c (args.getD (i - 1) 0) (tokAt all i)).2 = true then putR args all (i + 1) (putS c (args.getD (i - 1) 0) (tokAt all i)).1
    else (c, some (tokAt all i).at_)
  else (c, none)
termination_by all.length - i
theorem putR_step {args : List UInt8} {all : List Tok} {i : Nat} {c : Cmd} (h : i < all.length) : putR args all i c =
    if args.length < i then (c, some (tokAt all i).at_)
    else if (putS c (args.getD (i - 1) 0) (tokAt all i)).2 = true then putR args all (i + 1) (putS c (args.getD (i - 1) 0) (tokAt all i)).1
    else (c, some (tokAt all i).at_) := by
  rw [putR, dif_pos h]
theorem putR_end {args : List UInt8} {all : List Tok} {i : Nat} {c : Cmd} (h : all.length ≤ i) : putR args all i c = (c, none) := by
  rw [putR, dif_neg (by omega)]
def argsOf (k : Nat) : List UInt8 := (refL.getD k ([], [])).2
def rparseT (all : List Tok) (size : Nat) : Cmd × Option Nat :=
  if kindUp (tokAt all 0) 23 = 0 then (zCmd, some (tokAt all 0).at_)
  else match (putR (argsOf (kindUp (tokAt all 0) 23)) all 1 ⟨kindUp (tokAt all 0) 23, [], 0, 0, 0, [], 0⟩).2 with
    | some a => (zCmd, some a)
    | none => if all.length - 1 < (argsOf (kindUp (tokAt all 0) 23)).length ∧ ¬ (kindUp (tokAt all 0) 23 = 22 ∧ all.length = 1) then (zCmd, some size)
      else ((putR (argsOf (kindUp (tokAt all 0) 23)) all 1 ⟨kindUp (tokAt all 0) 23, [], 0, 0, 0, [], 0⟩).1, none)
def rparseP (l : List UInt8) : Cmd × Nat × Nat :=
  if (scanL l).2.1 ≠ 0 then (zCmd, (scanL l).2.1, (scanL l).2.2)
  else if (scanL l).1.length = 0 then (zCmd, 260, l.length)
  else match (rparseT (scanL l).1 l.length).2 with
    | some a => (zCmd, 260, a)
    | none => ((rparseT (scanL l).1 l.length).1, 0, 0)
abbrev rparseV (r : Cmd × Nat × Nat) : EV := .tuple [.agg (cmdE r.1), .int .i64 r.2.1, .int .i64 r.2.2]
theorem rparse_c (G : List Gl) (l : List UInt8) (hlen : l.length ≤ 9223372036854775807) : E.Pure G Tryz.prog 11 [.str l] (rparseV (rparseP l)) := by
  refine pure_hid fun V hV => ?_
  have hsc := rscan_c G l
  have hp : rparseP l = rparseP l := rfl
  conv at hp => rhs; unfold rparseP
  have hal := scanL_len l
  generalize hr : scanL l = r at hsc hp hal
  obtain ⟨ts, code, at_⟩ := r
  simp only at hp hal hsc
  by_cases hts : ts.length = 0
  · obtain rfl : ts = [] := List.eq_nil_of_length_eq_zero hts
    simp only [List.length_nil, accE_zero, toksE, accB_nil, if_true] at hsc hp
    by_cases hc : code = 0
    · subst hc
      rw [if_neg (by decide)] at hp
      rw [hp] at hV
      refine ecalls_in 130 [.cell 2 24, .tmp 3, .tmp 4] Tryz.func11 rfl rfl rfl (by kernel_rfl) (le_ble rfl) ?_
      repeat' (first
        | refine esem_seqK 42535300935722164477059042615620599805 ?_
        | refine esem_block ?_
        | (refine stp ?_; simp only [go_sem])
        | (refine drawQ (id := 11) mixed [(0, []), (1, []), (2, []), (3, []), (4, []), (5, []), (6, []), (7, []), (8, []), (10, []), (11, []), (12, []), (13, []), (9, []), (14, []), (15, []), (16, [])] (by kernel_rfl) ?_; simp only [go_sem])
        | (refine drawQ (id := 14) mixed [(0, []), (1, []), (2, []), (3, []), (4, []), (5, [4]), (6, []), (7, [])] (by kernel_rfl) ?_; simp only [go_sem])
        | (refine drawQ (id := 21) mixed [(0, []), (1, []), (2, []), (3, []), (4, []), (5, []), (6, [5]), (7, []), (8, [])] (by kernel_rfl) ?_; simp only [go_sem])
        | (refine drawQ (id := 22) mixed [(1, []), (2, []), (3, []), (4, []), (5, []), (6, []), (7, []), (0, []), (8, []), (9, []), (10, []), (11, []), (12, []), (13, []), (14, []), (15, [])] (by kernel_rfl) ?_; simp only [go_sem])
        | (refine drawQ (id := 24) mixed [(0, []), (1, []), (2, []), (3, []), (4, []), (5, []), (6, [5]), (7, []), (8, [])] (by kernel_rfl) ?_; simp only [go_sem])
        | (refine Eff.at2 (hsc ) [] rfl (by first | (simp; done) | (simp; omega) | (simp [bytesE_cons, bytesE_nil]; done) | omega) rfl ?_; (try simp only [go_sem]))
        | (simp (disch := omega) only [wrap64E, wrapU8E, wrapU16E, wrapU32E, wrapU64E, wrapI32E, tdivE, tmodE])
        | (refine spl (fun h => ?_) (fun h => ?_) <;> first | (exfalso; omega) | ((try simp only [opRun, opSkip, stepRun, pickZ]); (try simp only [go_sem, h])))
        | (refine and_om ?_ ?_; focus omega))
      (refine done_zero (by simp [EV.bel, allBelow]) ?_; rw [hV]); rfl
    · rw [if_pos hc] at hp
      rw [hp] at hV
      refine ecalls_in 130 [.cell 2 24, .tmp 3, .tmp 4] Tryz.func11 rfl rfl rfl (by kernel_rfl) (le_ble rfl) ?_
      repeat' (first
        | refine esem_seqK 42535300935722164477059042615620599805 ?_
        | refine esem_block ?_
        | (refine stp ?_; simp only [go_sem])
        | (refine drawQ (id := 11) mixed [(0, []), (1, []), (2, []), (3, []), (4, []), (5, []), (6, []), (7, []), (8, []), (10, []), (11, []), (12, []), (13, []), (9, []), (14, []), (15, []), (16, [])] (by kernel_rfl) ?_; simp only [go_sem])
        | (refine drawQ (id := 14) mixed [(0, []), (1, []), (2, []), (3, []), (4, []), (5, [4]), (6, []), (7, [])] (by kernel_rfl) ?_; simp only [go_sem])
        | (refine drawQ (id := 21) mixed [(0, []), (1, []), (2, []), (3, []), (4, []), (5, []), (6, [5]), (7, []), (8, [])] (by kernel_rfl) ?_; simp only [go_sem])
        | (refine drawQ (id := 22) mixed [(1, []), (2, []), (3, []), (4, []), (5, []), (6, []), (7, []), (0, []), (8, []), (9, []), (10, []), (11, []), (12, []), (13, []), (14, []), (15, [])] (by kernel_rfl) ?_; simp only [go_sem])
        | (refine drawQ (id := 24) mixed [(0, []), (1, []), (2, []), (3, []), (4, []), (5, []), (6, [5]), (7, []), (8, [])] (by kernel_rfl) ?_; simp only [go_sem])
        | (refine Eff.at2 (hsc ) [] rfl (by first | (simp; done) | (simp; omega) | (simp [bytesE_cons, bytesE_nil]; done) | omega) rfl ?_; (try simp only [go_sem]))
        | (simp (disch := omega) only [wrap64E, wrapU8E, wrapU16E, wrapU32E, wrapU64E, wrapI32E, tdivE, tmodE])
        | (refine spl (fun h => ?_) (fun h => ?_) <;> first | (exfalso; omega) | ((try simp only [opRun, opSkip, stepRun, pickZ]); (try simp only [go_sem, h])))
        | (refine and_om ?_ ?_; focus omega))
      all_goals first
        | (exfalso; omega)
        | ((refine done_zero (by simp [EV.bel, allBelow]) ?_; rw [hV]); done)
        | ((refine done_zero (by simp [EV.bel, allBelow]) ?_; rw [hV]); rfl)
  · rw [accE_pos (n := ts.length) (by omega), accB_pos (c := toksE ts) (by rw [toksE_length]; omega), if_neg hts] at hsc
    rw [if_neg hts] at hp
    by_cases hc : code = 0
    · subst hc
      rw [if_neg (by decide)] at hp
      obtain ⟨ht0, ht1, ht2⟩ := toks_cells (l := ts) (i := 0) (by omega)
      simp only [Nat.zero_mul, Nat.zero_add] at ht0 ht1 ht2
      refine ecalls_in 130 [.cell 2 24, .tmp 3, .tmp 4] Tryz.func11 rfl rfl rfl (by kernel_rfl) (le_ble rfl) ?_
      repeat' (first
        | refine esem_seqK 42535300935722164477059042615620599805 ?_
        | refine esem_block ?_
        | (refine stp ?_; simp only [go_sem])
        | (refine drawQ (id := 11) mixed [(0, []), (1, []), (2, []), (3, []), (4, []), (5, []), (6, []), (7, []), (8, []), (10, []), (11, []), (12, []), (13, []), (9, []), (14, []), (15, []), (16, [])] (by kernel_rfl) ?_; simp only [go_sem])
        | (refine drawQ (id := 14) mixed [(0, []), (1, []), (2, []), (3, []), (4, []), (5, [4]), (6, []), (7, [])] (by kernel_rfl) ?_; simp only [go_sem])
        | (refine drawQ (id := 21) mixed [(0, []), (1, []), (2, []), (3, []), (4, []), (5, []), (6, [5]), (7, []), (8, [])] (by kernel_rfl) ?_; simp only [go_sem])
        | (refine drawQ (id := 22) mixed [(1, []), (2, []), (3, []), (4, []), (5, []), (6, []), (7, []), (0, []), (8, []), (9, []), (10, []), (11, []), (12, []), (13, []), (14, []), (15, [])] (by kernel_rfl) ?_; simp only [go_sem])
        | (refine drawQ (id := 24) mixed [(0, []), (1, []), (2, []), (3, []), (4, []), (5, []), (6, [5]), (7, []), (8, [])] (by kernel_rfl) ?_; simp only [go_sem])
        | (refine Eff.at2 (hsc ) [] rfl (by first | (simp; done) | (simp; omega) | (simp [bytesE_cons, bytesE_nil]; done) | omega) rfl ?_; (try simp only [go_sem]))
        | (refine Eff.at2 (rforms_c _ ) [] rfl (by first | (simp; done) | (simp; omega) | (simp [bytesE_cons, bytesE_nil]; done) | omega) rfl ?_; (try simp only [go_sem]))
        | (simp (disch := omega) only [wrap64E, wrapU8E, wrapU16E, wrapU32E, wrapU64E, wrapI32E, tdivE, tmodE])
        | (refine spl (fun h => ?_) (fun h => ?_) <;> first | (exfalso; omega) | ((try simp only [opRun, opSkip, stepRun, pickZ]); (try simp only [go_sem, h])))
        | (refine and_om ?_ ?_; focus omega))
      refine esem_loopS (fun z : Nat => [(0, .str l), (2, .ptr (some ⟨0, 0⟩)), (5, .slice (some ⟨1, 0⟩) ts.length ts.length), (9, .slice (some ⟨2, 0⟩) 23 23), (8, .int .i64 (kindUp (tokAt ts 0) z : Nat)), (10, .int .i64 z)]) (fun z : Nat => [(0, .cells (cmdE zCmd) 24 0 true 0), (1, .cells (toksE ts) 72 4 true 0), (2, .cells (rowsE refL) 89 0 true 0)]) (fun z : Nat => 3) (fun z : Nat => 1 ≤ z ∧ z ≤ 23) (fun z : Nat => 23 - z) (1) (fun z hz => ⟨by simp [frBel], by first | trivial | simp, by first | exact Nat.le_refl _ | exact Nat.zero_le _ | omega | (simp only []; omega)⟩) (by exact ⟨by decide, by decide⟩) (by first | (simp only [go_sem, weakL]; done) | ((try simp only [go_sem, weakL]); ((repeat' apply And.intro) <;> (first | rfl | trivial | ((try simp only [EV.int.injEq, EV.str.injEq, EV.bool.injEq, EV.tuple.injEq, EV.slice.injEq, List.cons.injEq, true_and, and_true]); first | rfl | omega))))) (by first | trivial | (simp only [go_sem, lessL]; done) | ((try simp only [go_sem, lessL]); ((repeat' apply And.intro) <;> (first | rfl | trivial | ((try simp only [EV.int.injEq, EV.str.injEq, EV.bool.injEq, EV.tuple.injEq, EV.slice.injEq, List.cons.injEq, true_and, and_true]); first | rfl | omega))))) ?_
      rintro i ⟨z1, z2⟩
      try simp only at z1 z2
      try simp only []
      have hst : kindUp (tokAt ts 0) (i + 1) = if 1 ≤ i ∧ (tokAt ts 0).kind = 1 ∧ (tokAt ts 0).text = (refL.getD i ([], [])).1 then i else kindUp (tokAt ts 0) i := rfl
      by_cases hi : i < 23
      · obtain ⟨hr0, -⟩ := rows_get (r := refL) (i := i) hi
        repeat' (first
          | refine esem_seqK 42535300935722164477059042615620599805 ?_
          | refine esem_block ?_
          | (refine stp ?_; simp only [go_sem, ht0, ht1, ht2, hr0])
          | (refine drawQ (id := 11) mixed [(0, []), (1, []), (2, []), (3, []), (4, []), (5, []), (6, []), (7, []), (8, []), (10, []), (11, []), (12, []), (13, []), (9, []), (14, []), (15, []), (16, [])] (by kernel_rfl) ?_; simp only [go_sem, ht0, ht1, ht2, hr0])
          | (refine drawQ (id := 14) mixed [(0, []), (1, []), (2, []), (3, []), (4, []), (5, [4]), (6, []), (7, [])] (by kernel_rfl) ?_; simp only [go_sem, ht0, ht1, ht2, hr0])
          | (refine drawQ (id := 21) mixed [(0, []), (1, []), (2, []), (3, []), (4, []), (5, []), (6, [5]), (7, []), (8, [])] (by kernel_rfl) ?_; simp only [go_sem, ht0, ht1, ht2, hr0])
          | (refine drawQ (id := 22) mixed [(1, []), (2, []), (3, []), (4, []), (5, []), (6, []), (7, []), (0, []), (8, []), (9, []), (10, []), (11, []), (12, []), (13, []), (14, []), (15, [])] (by kernel_rfl) ?_; simp only [go_sem, ht0, ht1, ht2, hr0])
          | (refine drawQ (id := 24) mixed [(0, []), (1, []), (2, []), (3, []), (4, []), (5, []), (6, [5]), (7, []), (8, [])] (by kernel_rfl) ?_; simp only [go_sem, ht0, ht1, ht2, hr0])
          | (simp (disch := omega) only [wrap64E, wrapU8E, wrapU16E, wrapU32E, wrapU64E, wrapI32E, tdivE, tmodE])
          | (refine spl (fun h => ?_) (fun h => ?_) <;> first | (exfalso; omega) | ((try simp only [opRun, opSkip, stepRun, pickZ]); (try simp only [go_sem, ht0, ht1, ht2, hr0, h])))
          | (refine and_om ?_ ?_; focus omega))
        · rw [if_pos ⟨z1, by omega, h⟩] at hst
          (refine ⟨(i + 1), ?_, ?_, rfl, rfl, ?_, ?_⟩; rotate_left; (focus (first | omega | (simp only []; omega))); (focus (first | (simp only [go_sem, weakL, hst]; done) | ((try simp only [go_sem, weakL, hst]); ((repeat' apply And.intro) <;> (first | rfl | trivial | ((try simp only [EV.int.injEq, EV.str.injEq, EV.bool.injEq, EV.tuple.injEq, EV.slice.injEq, List.cons.injEq, true_and, and_true]); first | rfl | omega)))))); (focus (first | trivial | (simp only [go_sem, lessL, hst]; done) | ((try simp only [go_sem, lessL, hst]); ((repeat' apply And.intro) <;> (first | rfl | trivial | ((try simp only [EV.int.injEq, EV.str.injEq, EV.bool.injEq, EV.tuple.injEq, EV.slice.injEq, List.cons.injEq, true_and, and_true]); first | rfl | omega)))))); (try simp only [])); omega
        · rw [if_neg (fun e => h e.2.2)] at hst
          (refine ⟨(i + 1), ?_, ?_, rfl, rfl, ?_, ?_⟩; rotate_left; (focus (first | omega | (simp only []; omega))); (focus (first | (simp only [go_sem, weakL, hst]; done) | ((try simp only [go_sem, weakL, hst]); ((repeat' apply And.intro) <;> (first | rfl | trivial | ((try simp only [EV.int.injEq, EV.str.injEq, EV.bool.injEq, EV.tuple.injEq, EV.slice.injEq, List.cons.injEq, true_and, and_true]); first | rfl | omega)))))); (focus (first | trivial | (simp only [go_sem, lessL, hst]; done) | ((try simp only [go_sem, lessL, hst]); ((repeat' apply And.intro) <;> (first | rfl | trivial | ((try simp only [EV.int.injEq, EV.str.injEq, EV.bool.injEq, EV.tuple.injEq, EV.slice.injEq, List.cons.injEq, true_and, and_true]); first | rfl | omega)))))); (try simp only [])); omega
        · rw [if_neg (fun e => by omega)] at hst
          (refine ⟨(i + 1), ?_, ?_, rfl, rfl, ?_, ?_⟩; rotate_left; (focus (first | omega | (simp only []; omega))); (focus (first | (simp only [go_sem, weakL, hst]; done) | ((try simp only [go_sem, weakL, hst]); ((repeat' apply And.intro) <;> (first | rfl | trivial | ((try simp only [EV.int.injEq, EV.str.injEq, EV.bool.injEq, EV.tuple.injEq, EV.slice.injEq, List.cons.injEq, true_and, and_true]); first | rfl | omega)))))); (focus (first | trivial | (simp only [go_sem, lessL, hst]; done) | ((try simp only [go_sem, lessL, hst]); ((repeat' apply And.intro) <;> (first | rfl | trivial | ((try simp only [EV.int.injEq, EV.str.injEq, EV.bool.injEq, EV.tuple.injEq, EV.slice.injEq, List.cons.injEq, true_and, and_true]); first | rfl | omega)))))); (try simp only [])); omega
      · obtain rfl : i = 23 := by omega
        have hku := kindUp_lt (tokAt ts 0) 23
        generalize hk : kindUp (tokAt ts 0) 23 = k at hku
        obtain ⟨-, hr1⟩ := rows_get (r := refL) (i := k) (show k < 23 by omega)
        rw [show (refL.getD k ([], [])).2 = argsOf k from rfl] at hr1
        repeat' (first
          | refine esem_seqK 42535300935722164477059042615620599805 ?_
          | refine esem_block ?_
          | (refine stp ?_; simp only [go_sem, ht0, ht1, ht2, hr1])
          | (refine drawQ (id := 11) mixed [(0, []), (1, []), (2, []), (3, []), (4, []), (5, []), (6, []), (7, []), (8, []), (10, []), (11, []), (12, []), (13, []), (9, []), (14, []), (15, []), (16, [])] (by kernel_rfl) ?_; simp only [go_sem, ht0, ht1, ht2, hr1])
          | (refine drawQ (id := 14) mixed [(0, []), (1, []), (2, []), (3, []), (4, []), (5, [4]), (6, []), (7, [])] (by kernel_rfl) ?_; simp only [go_sem, ht0, ht1, ht2, hr1])
          | (refine drawQ (id := 21) mixed [(0, []), (1, []), (2, []), (3, []), (4, []), (5, []), (6, [5]), (7, []), (8, [])] (by kernel_rfl) ?_; simp only [go_sem, ht0, ht1, ht2, hr1])
          | (refine drawQ (id := 22) mixed [(1, []), (2, []), (3, []), (4, []), (5, []), (6, []), (7, []), (0, []), (8, []), (9, []), (10, []), (11, []), (12, []), (13, []), (14, []), (15, [])] (by kernel_rfl) ?_; simp only [go_sem, ht0, ht1, ht2, hr1])
          | (refine drawQ (id := 24) mixed [(0, []), (1, []), (2, []), (3, []), (4, []), (5, []), (6, [5]), (7, []), (8, [])] (by kernel_rfl) ?_; simp only [go_sem, ht0, ht1, ht2, hr1])
          | (simp (disch := omega) only [wrap64E, wrapU8E, wrapU16E, wrapU32E, wrapU64E, wrapI32E, tdivE, tmodE])
          | (refine spl (fun h => ?_) (fun h => ?_) <;> first | (exfalso; omega) | ((try simp only [opRun, opSkip, stepRun, pickZ]); (try simp only [go_sem, ht0, ht1, ht2, hr1, h])))
          | (refine and_om ?_ ?_; focus omega))
        · have hT : rparseT ts l.length = (zCmd, some (tokAt ts 0).at_) := by unfold rparseT; rw [hk, if_pos (by omega)]
          rw [hT] at hp
          rw [hp] at hV
          (refine done_zero (by simp [EV.bel, allBelow]) ?_; rw [hV]); rfl
        have hT : rparseT ts l.length = match (putR (argsOf k) ts 1 ⟨k, [], 0, 0, 0, [], 0⟩).2 with
          | some a => (zCmd, some a)
          | none => if ts.length - 1 < (argsOf k).length ∧ ¬ (k = 22 ∧ ts.length = 1) then (zCmd, some l.length)
            else ((putR (argsOf k) ts 1 ⟨k, [], 0, 0, 0, [], 0⟩).1, none) := by unfold rparseT; rw [hk, if_neg (by omega)]
        have ha4 : (argsOf k).length ≤ 4 := by
          have : ∀ j : Fin 23, (argsOf j.1).length ≤ 4 := by decide
          exact this ⟨k, by omega⟩
        rw [hT] at hp
        refine esem_loopS (fun z : Nat × Cmd => [(0, .str l), (2, .ptr (some ⟨0, 0⟩)), (5, .slice (some ⟨1, 0⟩) ts.length ts.length), (8, .int .i64 k), (11, .ptr (some ⟨3, 0⟩)), (12, .str (argsOf k)), (13, .int .i64 z.1)]) (fun z : Nat × Cmd => [(0, .cells (cmdE zCmd) 24 0 true 0), (1, .cells (toksE ts) 72 4 true 0), (3, .cells (cmdE z.2) 24 0 true 0)]) (fun z : Nat × Cmd => 4) (fun z : Nat × Cmd => 1 ≤ z.1 ∧ z.1 ≤ ts.length ∧ putR (argsOf k) ts z.1 z.2 = putR (argsOf k) ts 1 ⟨k, [], 0, 0, 0, [], 0⟩) (fun z : Nat × Cmd => ts.length - z.1) (((1 : Nat), (⟨k, [], 0, 0, 0, [], 0⟩ : Cmd))) (fun z hz => ⟨by simp [frBel], by first | trivial | simp, by first | exact Nat.le_refl _ | exact Nat.zero_le _ | omega | (simp only []; omega)⟩) (by exact ⟨Nat.le_refl _, by show 1 ≤ ts.length; omega, rfl⟩) (by first | (simp only [go_sem, weakL]; done) | ((try simp only [go_sem, weakL]); ((repeat' apply And.intro) <;> (first | rfl | trivial | ((try simp only [EV.int.injEq, EV.str.injEq, EV.bool.injEq, EV.tuple.injEq, EV.slice.injEq, List.cons.injEq, true_and, and_true]); first | rfl | omega))))) (by first | trivial | (simp only [go_sem, lessL]; done) | ((try simp only [go_sem, lessL]); ((repeat' apply And.intro) <;> (first | rfl | trivial | ((try simp only [EV.int.injEq, EV.str.injEq, EV.bool.injEq, EV.tuple.injEq, EV.slice.injEq, List.cons.injEq, true_and, and_true]); first | rfl | omega))))) ?_
        rintro ⟨i, c⟩ ⟨y1, y2, y3⟩
        simp only at y1 y2 y3
        simp only []
        by_cases hi : i < ts.length
        · obtain ⟨hu0, hu1, hu2⟩ := toks_cells hi
          have hua := toks_at hi
          have hps := putR_step (args := argsOf k) (c := c) hi
          rw [y3] at hps
          have hput := put_c G c ((argsOf k).getD (i - 1) 0) (tokAt ts i)
          generalize hps2 : putS c ((argsOf k).getD (i - 1) 0) (tokAt ts i) = q at hput hps
          obtain ⟨c2, ok⟩ := q
          simp only at hput hps
          by_cases hgt : (argsOf k).length < i
          · rw [if_pos hgt] at hps
            rw [hps] at hp
            simp only at hp
            rw [hp] at hV
            repeat' (first
              | refine esem_seqK 42535300935722164477059042615620599805 ?_
              | refine esem_block ?_
              | (refine stp ?_; simp only [go_sem, hu0, hu1, hu2])
              | (refine drawQ (id := 11) mixed [(0, []), (1, []), (2, []), (3, []), (4, []), (5, []), (6, []), (7, []), (8, []), (10, []), (11, []), (12, []), (13, []), (9, []), (14, []), (15, []), (16, [])] (by kernel_rfl) ?_; simp only [go_sem, hu0, hu1, hu2])
              | (refine drawQ (id := 14) mixed [(0, []), (1, []), (2, []), (3, []), (4, []), (5, [4]), (6, []), (7, [])] (by kernel_rfl) ?_; simp only [go_sem, hu0, hu1, hu2])
              | (refine drawQ (id := 21) mixed [(0, []), (1, []), (2, []), (3, []), (4, []), (5, []), (6, [5]), (7, []), (8, [])] (by kernel_rfl) ?_; simp only [go_sem, hu0, hu1, hu2])
              | (refine drawQ (id := 22) mixed [(1, []), (2, []), (3, []), (4, []), (5, []), (6, []), (7, []), (0, []), (8, []), (9, []), (10, []), (11, []), (12, []), (13, []), (14, []), (15, [])] (by kernel_rfl) ?_; simp only [go_sem, hu0, hu1, hu2])
              | (refine drawQ (id := 24) mixed [(0, []), (1, []), (2, []), (3, []), (4, []), (5, []), (6, [5]), (7, []), (8, [])] (by kernel_rfl) ?_; simp only [go_sem, hu0, hu1, hu2])
              | (simp (disch := omega) only [wrap64E, wrapU8E, wrapU16E, wrapU32E, wrapU64E, wrapI32E, tdivE, tmodE])
              | (refine spl (fun h => ?_) (fun h => ?_) <;> first | (exfalso; omega) | ((try simp only [opRun, opSkip, stepRun, pickZ]); (try simp only [go_sem, hu0, hu1, hu2, h])))
              | (refine and_om ?_ ?_; focus omega))
            all_goals first
              | (exfalso; omega)
              | (exfalso; have h2 := not_f h; simp only [decide_eq_true_eq] at h2; omega)
              | (exfalso; have h2 := not_t h; simp only [decide_eq_true_eq] at h2; omega)
              | ((refine done_zero (by simp [EV.bel, allBelow]) ?_; rw [hV]); done)
              | ((refine done_zero (by simp [EV.bel, allBelow]) ?_; rw [hV]); rfl)
          · rw [if_neg hgt] at hps
            cases ok with
            | true =>
              simp only [if_true] at hps
              repeat' (first
                | refine esem_seqK 42535300935722164477059042615620599805 ?_
                | refine esem_block ?_
                | (refine stp ?_; simp only [go_sem, hu0, hu1, hu2, hua, EV.one, List.length_cons, List.length_nil])
                | (refine drawQ (id := 11) mixed [(0, []), (1, []), (2, []), (3, []), (4, []), (5, []), (6, []), (7, []), (8, []), (10, []), (11, []), (12, []), (13, []), (9, []), (14, []), (15, []), (16, [])] (by kernel_rfl) ?_; simp only [go_sem, hu0, hu1, hu2, hua, EV.one, List.length_cons, List.length_nil])
                | (refine drawQ (id := 14) mixed [(0, []), (1, []), (2, []), (3, []), (4, []), (5, [4]), (6, []), (7, [])] (by kernel_rfl) ?_; simp only [go_sem, hu0, hu1, hu2, hua, EV.one, List.length_cons, List.length_nil])
                | (refine drawQ (id := 21) mixed [(0, []), (1, []), (2, []), (3, []), (4, []), (5, []), (6, [5]), (7, []), (8, [])] (by kernel_rfl) ?_; simp only [go_sem, hu0, hu1, hu2, hua, EV.one, List.length_cons, List.length_nil])
                | (refine drawQ (id := 22) mixed [(1, []), (2, []), (3, []), (4, []), (5, []), (6, []), (7, []), (0, []), (8, []), (9, []), (10, []), (11, []), (12, []), (13, []), (14, []), (15, [])] (by kernel_rfl) ?_; simp only [go_sem, hu0, hu1, hu2, hua, EV.one, List.length_cons, List.length_nil])
                | (refine drawQ (id := 24) mixed [(0, []), (1, []), (2, []), (3, []), (4, []), (5, []), (6, [5]), (7, []), (8, [])] (by kernel_rfl) ?_; simp only [go_sem, hu0, hu1, hu2, hua, EV.one, List.length_cons, List.length_nil])
                | (simp only [show ((i : Int) - 1).toNat = i - 1 by omega])
                | (refine Pure.at (hput) (by simp) (by simp) rfl ?_; (try simp only [go_sem, hu0, hu1, hu2, hua, EV.one, List.length_cons, List.length_nil]))
                | (simp (disch := omega) only [wrap64E, wrapU8E, wrapU16E, wrapU32E, wrapU64E, wrapI32E, tdivE, tmodE])
                | (refine spl (fun h => ?_) (fun h => ?_) <;> first | (exfalso; omega) | ((try simp only [opRun, opSkip, stepRun, pickZ]); (try simp only [go_sem, hu0, hu1, hu2, hua, EV.one, List.length_cons, List.length_nil, h])))
                | (refine and_om ?_ ?_; focus omega))
              · (refine ⟨(i + 1, c2), ?_, ?_, rfl, rfl, ?_, ?_⟩; rotate_left; (focus (first | omega | (simp only []; omega))); (focus (first | (simp only [go_sem, weakL]; done) | ((try simp only [go_sem, weakL]); ((repeat' apply And.intro) <;> (first | rfl | trivial | ((try simp only [EV.int.injEq, EV.str.injEq, EV.bool.injEq, EV.tuple.injEq, EV.slice.injEq, List.cons.injEq, true_and, and_true]); first | rfl | omega)))))); (focus (first | trivial | (simp only [go_sem, lessL]; done) | ((try simp only [go_sem, lessL]); ((repeat' apply And.intro) <;> (first | rfl | trivial | ((try simp only [EV.int.injEq, EV.str.injEq, EV.bool.injEq, EV.tuple.injEq, EV.slice.injEq, List.cons.injEq, true_and, and_true]); first | rfl | omega)))))); (try simp only [])); exact ⟨by omega, by omega, hps.symm⟩
            | false =>
              simp only [Bool.false_eq_true, if_false] at hps
              rw [hps] at hp
              simp only at hp
              rw [hp] at hV
              repeat' (first
                | refine esem_seqK 42535300935722164477059042615620599805 ?_
                | refine esem_block ?_
                | (refine stp ?_; simp only [go_sem, hu0, hu1, hu2, hua, EV.one, List.length_cons, List.length_nil])
                | (refine drawQ (id := 11) mixed [(0, []), (1, []), (2, []), (3, []), (4, []), (5, []), (6, []), (7, []), (8, []), (10, []), (11, []), (12, []), (13, []), (9, []), (14, []), (15, []), (16, [])] (by kernel_rfl) ?_; simp only [go_sem, hu0, hu1, hu2, hua, EV.one, List.length_cons, List.length_nil])
                | (refine drawQ (id := 14) mixed [(0, []), (1, []), (2, []), (3, []), (4, []), (5, [4]), (6, []), (7, [])] (by kernel_rfl) ?_; simp only [go_sem, hu0, hu1, hu2, hua, EV.one, List.length_cons, List.length_nil])
                | (refine drawQ (id := 21) mixed [(0, []), (1, []), (2, []), (3, []), (4, []), (5, []), (6, [5]), (7, []), (8, [])] (by kernel_rfl) ?_; simp only [go_sem, hu0, hu1, hu2, hua, EV.one, List.length_cons, List.length_nil])
                | (refine drawQ (id := 22) mixed [(1, []), (2, []), (3, []), (4, []), (5, []), (6, []), (7, []), (0, []), (8, []), (9, []), (10, []), (11, []), (12, []), (13, []), (14, []), (15, [])] (by kernel_rfl) ?_; simp only [go_sem, hu0, hu1, hu2, hua, EV.one, List.length_cons, List.length_nil])
                | (refine drawQ (id := 24) mixed [(0, []), (1, []), (2, []), (3, []), (4, []), (5, []), (6, [5]), (7, []), (8, [])] (by kernel_rfl) ?_; simp only [go_sem, hu0, hu1, hu2, hua, EV.one, List.length_cons, List.length_nil])
                | (simp only [show ((i : Int) - 1).toNat = i - 1 by omega])
                | (refine Pure.at (hput) (by simp) (by simp) rfl ?_; (try simp only [go_sem, hu0, hu1, hu2, hua, EV.one, List.length_cons, List.length_nil]))
                | (simp (disch := omega) only [wrap64E, wrapU8E, wrapU16E, wrapU32E, wrapU64E, wrapI32E, tdivE, tmodE])
                | (refine spl (fun h => ?_) (fun h => ?_) <;> first | (exfalso; omega) | ((try simp only [opRun, opSkip, stepRun, pickZ]); (try simp only [go_sem, hu0, hu1, hu2, hua, EV.one, List.length_cons, List.length_nil, h])))
                | (refine and_om ?_ ?_; focus omega))
              · (refine done_zero (by simp [EV.bel, allBelow]) ?_; rw [hV]); rfl
        · rw [putR_end (by omega)] at y3
          rw [← y3] at hp
          simp only at hp
          by_cases hfew : ts.length - 1 < (argsOf k).length ∧ ¬ (k = 22 ∧ ts.length = 1)
          · rw [if_pos hfew] at hp
            simp only at hp
            rw [hp] at hV
            repeat' (first
              | refine esem_seqK 42535300935722164477059042615620599805 ?_
              | refine esem_block ?_
              | (refine stp ?_; simp only [go_sem])
              | (refine drawQ (id := 11) mixed [(0, []), (1, []), (2, []), (3, []), (4, []), (5, []), (6, []), (7, []), (8, []), (10, []), (11, []), (12, []), (13, []), (9, []), (14, []), (15, []), (16, [])] (by kernel_rfl) ?_; simp only [go_sem])
              | (refine drawQ (id := 14) mixed [(0, []), (1, []), (2, []), (3, []), (4, []), (5, [4]), (6, []), (7, [])] (by kernel_rfl) ?_; simp only [go_sem])
              | (refine drawQ (id := 21) mixed [(0, []), (1, []), (2, []), (3, []), (4, []), (5, []), (6, [5]), (7, []), (8, [])] (by kernel_rfl) ?_; simp only [go_sem])
              | (refine drawQ (id := 22) mixed [(1, []), (2, []), (3, []), (4, []), (5, []), (6, []), (7, []), (0, []), (8, []), (9, []), (10, []), (11, []), (12, []), (13, []), (14, []), (15, [])] (by kernel_rfl) ?_; simp only [go_sem])
              | (refine drawQ (id := 24) mixed [(0, []), (1, []), (2, []), (3, []), (4, []), (5, []), (6, [5]), (7, []), (8, [])] (by kernel_rfl) ?_; simp only [go_sem])
              | (simp (disch := omega) only [wrap64E, wrapU8E, wrapU16E, wrapU32E, wrapU64E, wrapI32E, tdivE, tmodE])
              | (refine spl (fun h => ?_) (fun h => ?_) <;> first | (exfalso; omega) | ((try simp only [opRun, opSkip, stepRun, pickZ]); (try simp only [go_sem, h])))
              | (refine and_om ?_ ?_; focus omega))
            all_goals first
              | (exfalso; omega)
              | (exfalso; have h2 := not_f h; simp only [decide_eq_true_eq] at h2; omega)
              | (exfalso; have h2 := not_t h; simp only [decide_eq_true_eq] at h2; omega)
              | ((refine done_zero (by simp [EV.bel, allBelow]) ?_; rw [hV]); done)
              | ((refine done_zero (by simp [EV.bel, allBelow]) ?_; rw [hV]); rfl)
          · rw [if_neg hfew] at hp
            simp only at hp
            rw [hp] at hV
            repeat' (first
              | refine esem_seqK 42535300935722164477059042615620599805 ?_
              | refine esem_block ?_
              | (refine stp ?_; simp only [go_sem])
              | (refine drawQ (id := 11) mixed [(0, []), (1, []), (2, []), (3, []), (4, []), (5, []), (6, []), (7, []), (8, []), (10, []), (11, []), (12, []), (13, []), (9, []), (14, []), (15, []), (16, [])] (by kernel_rfl) ?_; simp only [go_sem])
              | (refine drawQ (id := 14) mixed [(0, []), (1, []), (2, []), (3, []), (4, []), (5, [4]), (6, []), (7, [])] (by kernel_rfl) ?_; simp only [go_sem])
              | (refine drawQ (id := 21) mixed [(0, []), (1, []), (2, []), (3, []), (4, []), (5, []), (6, [5]), (7, []), (8, [])] (by kernel_rfl) ?_; simp only [go_sem])
              | (refine drawQ (id := 22) mixed [(1, []), (2, []), (3, []), (4, []), (5, []), (6, []), (7, []), (0, []), (8, []), (9, []), (10, []), (11, []), (12, []), (13, []), (14, []), (15, [])] (by kernel_rfl) ?_; simp only [go_sem])
              | (refine drawQ (id := 24) mixed [(0, []), (1, []), (2, []), (3, []), (4, []), (5, []), (6, [5]), (7, []), (8, [])] (by kernel_rfl) ?_; simp only [go_sem])
              | (simp (disch := omega) only [wrap64E, wrapU8E, wrapU16E, wrapU32E, wrapU64E, wrapI32E, tdivE, tmodE])
              | (refine spl (fun h => ?_) (fun h => ?_) <;> first | (exfalso; omega) | ((try simp only [opRun, opSkip, stepRun, pickZ]); (try simp only [go_sem, h])))
              | (refine and_om ?_ ?_; focus omega))
            all_goals first
              | (exfalso; omega)
              | (exfalso; have h2 := not_f h; simp only [decide_eq_true_eq] at h2; omega)
              | (exfalso; have h2 := not_t h; simp only [decide_eq_true_eq] at h2; omega)
              | ((refine done_zero (by simp [EV.bel, allBelow]) ?_; rw [hV]); done)
              | ((refine done_zero (by simp [EV.bel, allBelow]) ?_; rw [hV]); rfl)
    · rw [if_pos hc] at hp
      rw [hp] at hV
      refine ecalls_in 130 [.cell 2 24, .tmp 3, .tmp 4] Tryz.func11 rfl rfl rfl (by kernel_rfl) (le_ble rfl) ?_
      repeat' (first
        | refine esem_seqK 42535300935722164477059042615620599805 ?_
        | refine esem_block ?_
        | (refine stp ?_; simp only [go_sem])
        | (refine drawQ (id := 11) mixed [(0, []), (1, []), (2, []), (3, []), (4, []), (5, []), (6, []), (7, []), (8, []), (10, []), (11, []), (12, []), (13, []), (9, []), (14, []), (15, []), (16, [])] (by kernel_rfl) ?_; simp only [go_sem])
        | (refine drawQ (id := 14) mixed [(0, []), (1, []), (2, []), (3, []), (4, []), (5, [4]), (6, []), (7, [])] (by kernel_rfl) ?_; simp only [go_sem])
        | (refine drawQ (id := 21) mixed [(0, []), (1, []), (2, []), (3, []), (4, []), (5, []), (6, [5]), (7, []), (8, [])] (by kernel_rfl) ?_; simp only [go_sem])
        | (refine drawQ (id := 22) mixed [(1, []), (2, []), (3, []), (4, []), (5, []), (6, []), (7, []), (0, []), (8, []), (9, []), (10, []), (11, []), (12, []), (13, []), (14, []), (15, [])] (by kernel_rfl) ?_; simp only [go_sem])
        | (refine drawQ (id := 24) mixed [(0, []), (1, []), (2, []), (3, []), (4, []), (5, []), (6, [5]), (7, []), (8, [])] (by kernel_rfl) ?_; simp only [go_sem])
        | (refine Eff.at2 (hsc ) [] rfl (by first | (simp; done) | (simp; omega) | (simp [bytesE_cons, bytesE_nil]; done) | omega) rfl ?_; (try simp only [go_sem]))
        | (simp (disch := omega) only [wrap64E, wrapU8E, wrapU16E, wrapU32E, wrapU64E, wrapI32E, tdivE, tmodE])
        | (refine spl (fun h => ?_) (fun h => ?_) <;> first | (exfalso; omega) | ((try simp only [opRun, opSkip, stepRun, pickZ]); (try simp only [go_sem, h])))
        | (refine and_om ?_ ?_; focus omega))
      all_goals first
        | (exfalso; omega)
        | ((refine done_zero (by simp [EV.bel, allBelow]) ?_; rw [hV]); done)
        | ((refine done_zero (by simp [EV.bel, allBelow]) ?_; rw [hV]); rfl)
end Go.Proofs.YtnjbdcdjcfhooaaGreatDoor

namespace Go.Proofs.YtnjbdcdjcfhooaaGreatDoor
open Go.E
set_option linter.all false
set_option maxRecDepth 20000
set_option maxHeartbeats 8000000
/-! Both Parses say the same. -/
def okTok (t : Tok) : Prop := (t.kind = 1 ∨ t.kind = 2 ∨ t.kind = 3) ∧ (t.kind = 1 → t.text ≠ []) ∧ t.num ≤ 9223372036854775807
def partOf (a : UInt8) : Nat :=
  if a.toNat = 100 then 60 else if a.toNat = 120 then 61 else if a.toNat = 113 then 63 else if a.toNat = 105 then 65 else
  if a.toNat = 102 then 62 else if a.toNat = 116 then 64 else if a.toNat = 103 then 66 else 67
def letter (a : UInt8) : Prop := a.toNat = 100 ∨ a.toNat = 120 ∨ a.toNat = 113 ∨ a.toNat = 105 ∨ a.toNat = 102 ∨ a.toNat = 116 ∨ a.toNat = 103 ∨ a.toNat = 109
theorem partS_put {a : UInt8} (ha : letter a) {all : List Tok} {size i : Nat} {c : Cmd} (h : i < all.length) (ht : okTok (tokAt all i)) :
    ((putS c a (tokAt all i)).2 = true → partS (partOf a) all size c i = ((putS c a (tokAt all i)).1, i + 1, none)) ∧
    ((putS c a (tokAt all i)).2 = false → (partS (partOf a) all size c i).2.2 = some (tokAt all i).at_) := by
  have hg := idxS_bd gravL (tokAt all i).text 0
  rw [show gravL.length = 2 from rfl] at hg
  have hm : (tokAt all i).kind = 1 → findS motL (tokAt all i).text = idxS motL (tokAt all i).text 0 := fun h => by unfold findS; rw [if_neg (ht.2.1 h)]
  have hgf : findS gravL (tokAt all i).text = idxS gravL (tokAt all i).text 0 := by
    unfold findS
    split
    · rename_i e; rw [e]; rfl
    · rfl
  obtain ⟨ht1, -, ht3⟩ := ht
  unfold partS putS partOf
  rw [hgf]
  generalize tokAt all i = t at *
  generalize idxS gravL t.text 0 = gx at *
  have hn : ¬ all.length ≤ i := by omega
  rcases ha with ha | ha | ha | ha | ha | ha | ha | ha
  all_goals
    simp only [ha, Nat.reduceEqDiff, if_true, if_false, false_and, hn, or_false, or_true, true_or, false_or, and_false]
    by_cases hk : t.kind = 1
    · simp only [hk, if_true, Nat.reduceEqDiff, if_false, true_or, or_false, decide_eq_true_eq, decide_eq_false_iff_not, hm hk, decide_true, false_and, decide_false, not_true_eq_false, false_implies, and_true, true_and, reduceCtorEq, forall_const]
      try
        constructor
        · intro h; (repeat' split) <;> first | rfl | (exfalso; omega) | (rw [wrapU8E (by omega) (by omega)]) | (rw [wrapU32E (by omega) (by omega)])
        · intro h; (repeat' split) <;> first | rfl | (exfalso; omega)
    · simp only [hk, if_false, false_or, decide_eq_true_eq, decide_eq_false_iff_not]
      constructor
      · intro h; (repeat' split) <;> first | rfl | (exfalso; omega) | (rw [wrapU8E (by omega) (by omega)]) | (rw [wrapU32E (by omega) (by omega)])
      · intro h; (repeat' split) <;> first | rfl | (exfalso; omega)
theorem partS_end {a : UInt8} (ha : letter a) {all : List Tok} {size i : Nat} {c : Cmd} (h : all.length ≤ i) : (partS (partOf a) all size c i).2.2 = some size := by
  unfold partS partOf
  rcases ha with ha | ha | ha | ha | ha | ha | ha | ha
  all_goals simp only [ha, Nat.reduceEqDiff, if_true, if_false, false_and, h, or_false, or_true, true_or, false_or, and_false]
theorem runP_bad (all : List Tok) (size : Nat) : ∀ (ps : List Nat) (c : Cmd) (i a : Nat), (runP all size ps (c, i, some a)).2.2 = some a
  | [], _, _, _ => rfl
  | g :: r, c, i, a => by
    simp only [runP, List.foldl]
    exact runP_bad all size r _ _ a
def finP (r : Cmd × Option Nat) : Cmd × Nat × Nat := match r.2 with
  | some a => (zCmd, 260, a)
  | none => (r.1, 0, 0)
theorem finP_bad (all : List Tok) {r : Cmd × Nat × Option Nat} {a : Nat} (h : r.2.2 = some a) : finP (endP all r) = (zCmd, 260, a) := by
  unfold finP endP
  simp only [h, orO]
  by_cases hi : r.2.1 < all.length <;> simp only [hi, if_true, if_false]
theorem run_put (A : List UInt8) (hA : ∀ a ∈ A, letter a) (all : List Tok) (hall : ∀ i, i < all.length → okTok (tokAt all i)) (size : Nat) : ∀ (n i : Nat) (c : Cmd), all.length - i = n → 1 ≤ i → i ≤ all.length → i ≤ A.length + 1 →
    finP (endP all (runP all size ((A.drop (i - 1)).map partOf) (c, i, none))) = match (putR A all i c).2 with
      | some a => (zCmd, 260, a)
      | none => if all.length - 1 < A.length then (zCmd, 260, size) else ((putR A all i c).1, 0, 0) := by
  intro n
  induction n with
  | zero =>
    intro i c hn h1 h2 h3
    have hi : i = all.length := by omega
    rw [putR_end (by omega)]
    simp only
    by_cases hr : i - 1 < A.length
    · rw [if_pos (by omega), List.drop_eq_getElem_cons hr]
      simp only [List.map_cons, runP, List.foldl]
      have he := partS_end (hA _ (List.getElem_mem hr)) (size := size) (c := c) (show all.length ≤ i by omega)
      refine finP_bad all ?_
      have : stepP all size (c, i, none) (partOf A[i - 1]) = ((partS (partOf A[i - 1]) all size c i).1, (partS (partOf A[i - 1]) all size c i).2.1, some size) := by simp only [stepP, orO, he]
      rw [this]
      exact runP_bad all size _ _ _ _
    · rw [if_neg (by omega), List.drop_eq_nil_of_le (by omega)]
      simp only [List.map_nil, runP, List.foldl, endP, finP, hi, Nat.lt_irrefl, if_false]
  | succ n ih =>
    intro i c hn h1 h2 h3
    have hi : i < all.length := by omega
    rw [putR_step hi]
    by_cases hr : i - 1 < A.length
    · rw [if_neg (by omega), List.drop_eq_getElem_cons hr]
      have e : A.getD (i - 1) 0 = A[i - 1] := by rw [List.getD_eq_getElem?_getD, List.getElem?_eq_getElem hr]; rfl
      rw [e]
      obtain ⟨p1, p2⟩ := partS_put (hA _ (List.getElem_mem hr)) (size := size) (c := c) hi (hall i hi)
      simp only [List.map_cons, runP, List.foldl]
      cases hok : (putS c A[i - 1] (tokAt all i)).2 with
      | true =>
        have hst : stepP all size (c, i, none) (partOf A[i - 1]) = ((putS c A[i - 1] (tokAt all i)).1, i + 1, none) := by simp only [stepP, orO, p1 hok]
        rw [hst]
        have := ih (i + 1) (putS c A[i - 1] (tokAt all i)).1 (by omega) (by omega) (by omega) (by omega)
        simp only [runP] at this
        rw [show i + 1 - 1 = i - 1 + 1 by omega] at this
        rw [this]
        simp only [if_true]
      | false =>
        have hst : stepP all size (c, i, none) (partOf A[i - 1]) = ((partS (partOf A[i - 1]) all size c i).1, (partS (partOf A[i - 1]) all size c i).2.1, some (tokAt all i).at_) := by simp only [stepP, orO, p2 hok]
        rw [hst]
        simp only [Bool.false_eq_true, if_false]
        exact finP_bad all (runP_bad all size _ _ _ _)
    · rw [if_pos (by omega), List.drop_eq_nil_of_le (by omega)]
      simp only [List.map_nil, runP, List.foldl, endP, finP, hi, if_true, orO]
theorem form_kind (t : Tok) (hk : t.kind = 1) : (formOf t.text = none ∧ kindUp t 23 = 0) ∨ (∃ k : Nat, formOf t.text = some ((k : Int), (argsOf k).map partOf) ∧ kindUp t 23 = k ∧ 1 ≤ k ∧ k ≠ 22 ∧ ∀ a ∈ argsOf k, letter a) ∨ (formOf t.text = some (22, [68]) ∧ kindUp t 23 = 22) := by
  by_cases w1 : t.text = [110, 101, 119]
  · refine .inr (.inl ⟨1, by rw [w1]; rfl, by simp [kindUp, refL, hk, w1], by decide, by decide, by simp [argsOf, refL, letter]⟩)
  by_cases w2 : t.text = [100, 114, 111, 112]
  · refine .inr (.inl ⟨2, by rw [w2]; rfl, by simp [kindUp, refL, hk, w2], by decide, by decide, by simp [argsOf, refL, letter]⟩)
  by_cases w3 : t.text = [114, 101, 110, 97, 109, 101]
  · refine .inr (.inl ⟨3, by rw [w3]; rfl, by simp [kindUp, refL, hk, w3], by decide, by decide, by simp [argsOf, refL, letter]⟩)
  by_cases w4 : t.text = [105, 110, 115, 101, 114, 116]
  · refine .inr (.inl ⟨4, by rw [w4]; rfl, by simp [kindUp, refL, hk, w4], by decide, by decide, by simp [argsOf, refL, letter]⟩)
  by_cases w5 : t.text = [100, 101, 108, 101, 116, 101]
  · refine .inr (.inl ⟨5, by rw [w5]; rfl, by simp [kindUp, refL, hk, w5], by decide, by decide, by simp [argsOf, refL, letter]⟩)
  by_cases w6 : t.text = [114, 101, 112, 108, 97, 99, 101]
  · refine .inr (.inl ⟨6, by rw [w6]; rfl, by simp [kindUp, refL, hk, w6], by decide, by decide, by simp [argsOf, refL, letter]⟩)
  by_cases w7 : t.text = [109, 97, 114, 107]
  · refine .inr (.inl ⟨7, by rw [w7]; rfl, by simp [kindUp, refL, hk, w7], by decide, by decide, by simp [argsOf, refL, letter]⟩)
  by_cases w8 : t.text = [117, 110, 109, 97, 114, 107]
  · refine .inr (.inl ⟨8, by rw [w8]; rfl, by simp [kindUp, refL, hk, w8], by decide, by decide, by simp [argsOf, refL, letter]⟩)
  by_cases w9 : t.text = [99, 117, 114, 115, 111, 114]
  · refine .inr (.inl ⟨9, by rw [w9]; rfl, by simp [kindUp, refL, hk, w9], by decide, by decide, by simp [argsOf, refL, letter]⟩)
  by_cases w10 : t.text = [109, 111, 118, 101]
  · refine .inr (.inl ⟨10, by rw [w10]; rfl, by simp [kindUp, refL, hk, w10], by decide, by decide, by simp [argsOf, refL, letter]⟩)
  by_cases w11 : t.text = [117, 110, 99, 117, 114, 115, 111, 114]
  · refine .inr (.inl ⟨11, by rw [w11]; rfl, by simp [kindUp, refL, hk, w11], by decide, by decide, by simp [argsOf, refL, letter]⟩)
  by_cases w12 : t.text = [117, 110, 100, 111]
  · refine .inr (.inl ⟨12, by rw [w12]; rfl, by simp [kindUp, refL, hk, w12], by decide, by decide, by simp [argsOf, refL, letter]⟩)
  by_cases w13 : t.text = [114, 101, 100, 111]
  · refine .inr (.inl ⟨13, by rw [w13]; rfl, by simp [kindUp, refL, hk, w13], by decide, by decide, by simp [argsOf, refL, letter]⟩)
  by_cases w14 : t.text = [114, 101, 97, 100]
  · refine .inr (.inl ⟨14, by rw [w14]; rfl, by simp [kindUp, refL, hk, w14], by decide, by decide, by simp [argsOf, refL, letter]⟩)
  by_cases w15 : t.text = [108, 101, 110, 103, 116, 104]
  · refine .inr (.inl ⟨15, by rw [w15]; rfl, by simp [kindUp, refL, hk, w15], by decide, by decide, by simp [argsOf, refL, letter]⟩)
  by_cases w16 : t.text = [119, 104, 101, 114, 101]
  · refine .inr (.inl ⟨16, by rw [w16]; rfl, by simp [kindUp, refL, hk, w16], by decide, by decide, by simp [argsOf, refL, letter]⟩)
  by_cases w17 : t.text = [112, 108, 97, 99, 101]
  · refine .inr (.inl ⟨17, by rw [w17]; rfl, by simp [kindUp, refL, hk, w17], by decide, by decide, by simp [argsOf, refL, letter]⟩)
  by_cases w18 : t.text = [109, 97, 114, 107, 115]
  · refine .inr (.inl ⟨18, by rw [w18]; rfl, by simp [kindUp, refL, hk, w18], by decide, by decide, by simp [argsOf, refL, letter]⟩)
  by_cases w19 : t.text = [99, 117, 114, 115, 111, 114, 115]
  · refine .inr (.inl ⟨19, by rw [w19]; rfl, by simp [kindUp, refL, hk, w19], by decide, by decide, by simp [argsOf, refL, letter]⟩)
  by_cases w20 : t.text = [100, 111, 99, 115]
  · refine .inr (.inl ⟨20, by rw [w20]; rfl, by simp [kindUp, refL, hk, w20], by decide, by decide, by simp [argsOf, refL, letter]⟩)
  by_cases w21 : t.text = [102, 105, 110, 100]
  · refine .inr (.inl ⟨21, by rw [w21]; rfl, by simp [kindUp, refL, hk, w21], by decide, by decide, by simp [argsOf, refL, letter]⟩)
  by_cases w22 : t.text = [115, 116, 97, 116]
  · refine .inr (.inr ⟨by rw [w22]; rfl, by simp [kindUp, refL, hk, w22]⟩)
  refine .inl ⟨by simp [formOf, formL, w1, w2, w3, w4, w5, w6, w7, w8, w9, w10, w11, w12, w13, w14, w15, w16, w17, w18, w19, w20, w21, w22], ?_⟩
  simp [kindUp, refL, hk, w1, w2, w3, w4, w5, w6, w7, w8, w9, w10, w11, w12, w13, w14, w15, w16, w17, w18, w19, w20, w21, w22]
theorem kind_not (t : Tok) (hk : t.kind ≠ 1) : ∀ i, kindUp t i = 0
  | 0 => rfl
  | i + 1 => by rw [kindUp, if_neg (fun h => hk h.2.1), kind_not t hk i]
theorem same_T (all : List Tok) (h0 : 0 < all.length) (hall : ∀ i, i < all.length → okTok (tokAt all i)) (size : Nat) : finP (parseT all size) = finP (rparseT all size) := by
  by_cases hk : (tokAt all 0).kind = 1
  · unfold parseT rparseT
    rcases form_kind (tokAt all 0) hk with ⟨h1, h2⟩ | ⟨k, h1, h2, h3, h4, h5⟩ | ⟨h1, h2⟩
    · rw [h1, h2, if_pos rfl]
      simp only [finP]
      have := finP_bad all (r := (zCmd, 1, some (tokAt all 0).at_)) rfl
      simpa only [finP] using this
    · rw [h1, h2, if_neg (show ¬ k = 0 by omega)]
      simp only [if_pos hk]
      have := run_put (argsOf k) h5 all hall size _ 1 ⟨k, [], 0, 0, 0, [], 0⟩ rfl (Nat.le_refl _) h0 (by omega)
      rw [show 1 - 1 = 0 from rfl, List.drop_zero] at this
      refine this.trans ?_
      generalize putR (argsOf k) all 1 ⟨k, [], 0, 0, 0, [], 0⟩ = r
      obtain ⟨c, o⟩ := r
      cases o with
      | some a => rfl
      | none =>
        simp only
        by_cases hl : all.length - 1 < (argsOf k).length
        · rw [if_pos hl, if_pos ⟨hl, fun h => h4 h.1⟩]; rfl
        · rw [if_neg hl, if_neg (fun h => hl h.1)]; rfl
    · rw [h1, h2, if_neg (show ¬ 22 = 0 by omega)]
      simp only [if_pos hk]
      have ha : argsOf 22 = [100] := rfl
      rw [ha]
      by_cases h1' : all.length = 1
      · rw [putR_end (by omega)]
        simp only
        rw [if_neg (fun h => h.2 ⟨trivial, h1'⟩)]
        simp only [runP, List.foldl, stepP, partS, h1', true_and, Nat.le_refl, if_true, orO, endP, finP, Nat.lt_irrefl, if_false]
        rfl
      · have hr := run_put [100] (by simp [letter]) all hall size _ 1 ⟨22, [], 0, 0, 0, [], 0⟩ rfl (Nat.le_refl _) h0 (by simp)
        rw [show 1 - 1 = 0 from rfl, List.drop_zero] at hr
        have hs : partS 68 all size ⟨22, [], 0, 0, 0, [], 0⟩ 1 = partS (partOf 100) all size ⟨22, [], 0, 0, 0, [], 0⟩ 1 := by
          have e : partOf 100 = 60 := rfl
          rw [e]
          simp only [partS, show ¬ all.length ≤ 1 by omega, and_false, if_false, or_true, true_or, if_true]
        have he : runP all size [68] (⟨22, [], 0, 0, 0, [], 0⟩, 1, none) = runP all size (List.map partOf [100]) (⟨22, [], 0, 0, 0, [], 0⟩, 1, none) := by
          simp only [runP, List.foldl, List.map, stepP, hs]
        refine (congrArg (fun r => finP (endP all r)) he).trans (hr.trans ?_)
        rw [show ((22 : Nat) : Int) = 22 from rfl]
        generalize putR [100] all 1 ⟨22, [], 0, 0, 0, [], 0⟩ = r
        obtain ⟨c, o⟩ := r
        cases o with
        | some a => rfl
        | none =>
          simp only [List.length_cons, List.length_nil]
          rw [if_neg (by omega), if_neg (by omega)]; rfl
  · unfold parseT rparseT
    rw [kind_not _ hk, if_pos rfl]
    have : ∀ x : Option (Int × List Nat), finP (match x with
      | some (k, ps) => endP all (runP all size ps ({zCmd with kind := k}, 1, if (tokAt all 0).kind = 1 then none else some (tokAt all 0).at_))
      | none => endP all (zCmd, 1, some (tokAt all 0).at_)) = (zCmd, 260, (tokAt all 0).at_) := by
      intro x
      cases x with
      | none => exact finP_bad all rfl
      | some y =>
        obtain ⟨k, ps⟩ := y
        simp only [if_neg hk]
        exact finP_bad all (runP_bad all size ps _ _ _)
    exact this _
theorem scanG_ok (s : List UInt8) : ∀ (n i : Nat) (out : List Tok), s.length - i = n → i ≤ s.length → (∀ t ∈ out, okTok t) → ∀ t ∈ (scanG s i out).1, okTok t := by
  intro n
  induction n using Nat.strongRecOn with
  | ind n ih =>
    intro i out hn hi hout
    have hb := skipP_ge blankB s i
    have hb2 : skipP blankB s i ≤ s.length := by
      unfold skipP
      have := (List.takeWhile_prefix blankB (l := s.drop i)).length_le
      rw [List.length_drop] at this; omega
    generalize hj : skipP blankB s i = j at hb hb2
    have happ : ∀ t : Tok, okTok t → ∀ u ∈ out ++ [t], okTok u := fun t ht u hu => by
      rcases List.mem_append.1 hu with h | h
      · exact hout u h
      · rw [List.mem_singleton.1 h]; exact ht
    by_cases h : j < s.length
    · by_cases hc : (s.getD j 0).toNat = 34
      · rw [scanG_quo hj h hc]
        split
        · rename_i hq
          split
          · have h1 := quoG_lt (s.drop j) _ 1 [] rfl hq
            rw [List.length_drop] at h1
            exact ih (s.length - (j + (quoG (s.drop j) 1 []).2.1)) (by omega) _ _ rfl (by omega) (happ _ ⟨.inr (.inr rfl), fun h => by simp at h, by simp⟩)
          · simp
        · simp
      · rw [scanG_run hj h hc]
        have hr := skipP_ge runB s j
        have hr2 : skipP runB s j ≤ s.length := by
          unfold skipP
          have := (List.takeWhile_prefix runB (l := s.drop j)).length_le
          rw [List.length_drop] at this; omega
        split
        · simp
        · rename_i hne
          split
          · refine ih (s.length - skipP runB s j) (by omega) _ _ rfl (by omega) (happ _ ?_)
            unfold runTok
            cases hnum : isNum ((s.drop j).take (skipP runB s j - j)) with
            | some n => exact ⟨.inr (.inl rfl), fun h => by simp at h, (number_some hnum).2.2⟩
            | none =>
              refine ⟨.inl rfl, fun _ he => ?_, by simp⟩
              have he : (s.drop j).take (skipP runB s j - j) = [] := he
              have : ((s.drop j).take (skipP runB s j - j)).length = 0 := by rw [he]; rfl
              rw [List.length_take, List.length_drop] at this
              omega
          · simp
    · rw [scanG_end hj (by omega)]; exact hout
theorem scanL_ok (l : List UInt8) (i : Nat) (h : i < (scanL l).1.length) : okTok (tokAt (scanL l).1 i) := by
  have : ∀ t ∈ (scanL l).1, okTok t := by
    unfold scanL
    split
    · simp
    · exact scanG_ok l _ 0 [] rfl (Nat.zero_le _) (by simp)
  refine this _ ?_
  unfold tokAt
  rw [List.getD_eq_getElem?_getD, List.getElem?_eq_getElem h]
  exact List.getElem_mem h
/-- Of every line both read the same. -/
theorem parse_same (l : List UInt8) : parseP l = rparseP l := by
  unfold parseP rparseP
  by_cases hc : (scanL l).2.1 ≠ 0
  · rw [if_pos hc, if_pos hc]
  · rw [if_neg hc, if_neg hc]
    by_cases hn : (scanL l).1.length = 0
    · rw [if_pos hn, if_pos hn]
    · rw [if_neg hn, if_neg hn]
      have := same_T (scanL l).1 (by omega) (scanL_ok l) l.length
      unfold finP at this
      exact this
end Go.Proofs.YtnjbdcdjcfhooaaGreatDoor
