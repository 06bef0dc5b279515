/-
  Own work: walks and laws of the functions that the statement reaches; the statement itself stands in the last text.
-/
import Derived.Test.YtnjbdcdjcfhooaaGreatDoorHt
namespace Go.Proofs.YtnjbdcdjcfhooaaGreatDoor
open Go.E Go.ChangeShapes Go.WideShapes Go.ChangeAt Go.RowKit
set_option linter.all false
set_option maxRecDepth 20000
set_option maxHeartbeats 8000000
theorem rrow2_c (G : List Gl) (tp : TypeId) (hp : gPow tp ∈ G) (a b : Int) (ha : i64B a) (hb : i64B b) : Eff G Tryz.prog 47 [.slice (some ⟨0, 0⟩) 2 2] [(0, .cells [.int .i64 a, .int .i64 b] 3 0 true 0)] 1 (.str (rowL [a, b])) [] 1 := by
  have ia := itoa_c G tp hp a ha.1 ha.2
  have ib := itoa_c G tp hp b hb.1 hb.2
  have la := itoa_lenI a ha
  have lb := itoa_lenI b hb
  have hj : rowL [a, b] = Lib.itoa a ++ [32] ++ Lib.itoa b := by simp [rowL, Lib.join_cons, Lib.joinTail]
  rw [hj]
  unfold Eff
  generalize Lib.itoa a = A at ia la
  generalize Lib.itoa b = B at ib lb
  refine ecalls_in 23 [.tmp 2] Tryz.func47 rfl rfl rfl (by kernel_rfl) (le_ble rfl) ?_
  repeat' (first | refine esem_seqK 4381 ?_ | refine esem_block ?_ | (refine stp ?_; simp only [go_sem]) | (refine Pure.at (ia) (by simp) (by simp) rfl ?_; (try simp only [go_sem])) | (refine Pure.at (ib) (by simp) (by simp) rfl ?_; (try simp only [go_sem])) | (refine and_om ?_ ?_; focus (simp only [List.length_append, List.length_cons, List.length_nil]; omega)) | (refine esem_loopN 4381 3 ?_; simp only [go_sem]) | (simp (disch := omega) only [wE]) | (refine spl (fun h => ?_) (fun h => ?_) <;> first | (exfalso; omega) | ((try simp only [opRun, opSkip, stepRun, pickZ]); (try simp only [go_sem, h]))) | (refine and_om ?_ ?_; focus omega))
  all_goals exact done_ef2 [] (by simp) rfl (by simp [mA]) (by simp [bC])
theorem rrow4_c (G : List Gl) (tp : TypeId) (hp : gPow tp ∈ G) (a b c d : Int) (ha : i64B a) (hb : i64B b) (hc : i64B c) (hd : i64B d) : Eff G Tryz.prog 47 [.slice (some ⟨0, 0⟩) 4 4] [(0, .cells [.int .i64 a, .int .i64 b, .int .i64 c, .int .i64 d] 3 0 true 0)] 1 (.str (rowL [a, b, c, d])) [] 1 := by
  have ia := itoa_c G tp hp a ha.1 ha.2
  have ib := itoa_c G tp hp b hb.1 hb.2
  have ic := itoa_c G tp hp c hc.1 hc.2
  have id := itoa_c G tp hp d hd.1 hd.2
  have la := itoa_lenI a ha
  have lb := itoa_lenI b hb
  have lc := itoa_lenI c hc
  have ld := itoa_lenI d hd
  have hj : rowL [a, b, c, d] = Lib.itoa a ++ [32] ++ Lib.itoa b ++ [32] ++ Lib.itoa c ++ [32] ++ Lib.itoa d := by simp [rowL, Lib.join_cons, Lib.joinTail]
  rw [hj]
  unfold Eff
  generalize Lib.itoa a = A at ia la
  generalize Lib.itoa b = B at ib lb
  generalize Lib.itoa c = C at ic lc
  generalize Lib.itoa d = D at id ld
  refine ecalls_in 23 [.tmp 2] Tryz.func47 rfl rfl rfl (by kernel_rfl) (le_ble rfl) ?_
  repeat' (first | refine esem_seqK 4381 ?_ | refine esem_block ?_ | (refine stp ?_; simp only [go_sem]) | (refine Pure.at (ia) (by simp) (by simp) rfl ?_; (try simp only [go_sem])) | (refine Pure.at (ib) (by simp) (by simp) rfl ?_; (try simp only [go_sem])) | (refine Pure.at (ic) (by simp) (by simp) rfl ?_; (try simp only [go_sem])) | (refine Pure.at (id) (by simp) (by simp) rfl ?_; (try simp only [go_sem])) | (refine and_om ?_ ?_; focus (simp only [List.length_append, List.length_cons, List.length_nil]; omega)) | (refine esem_loopN 4381 5 ?_; simp only [go_sem]) | (simp (disch := omega) only [wE]) | (refine spl (fun h => ?_) (fun h => ?_) <;> first | (exfalso; omega) | ((try simp only [opRun, opSkip, stepRun, pickZ]); (try simp only [go_sem, h]))) | (refine and_om ?_ ?_; focus omega))
  all_goals exact done_ef2 [] (by simp) rfl (by simp [mA]) (by simp [bC])
theorem rjoined_0 (G : List Gl) : E.Pure G Tryz.prog 50 [.slice none 0 0] (.str [110, 111, 110, 101]) := by
  refine pure_hid fun V hV => ?_
  refine ecalls_in 25 [.tmp 2] Tryz.func50 rfl rfl rfl (by kernel_rfl) (le_ble rfl) ?_
  repeat' (first | refine esem_seqK 16541 ?_ | refine esem_block ?_ | (refine stp ?_; simp only [go_sem]) | (simp (disch := omega) only [wE]) | (refine spl (fun h => ?_) (fun h => ?_) <;> first | (exfalso; omega) | ((try simp only [opRun, opSkip, stepRun, pickZ]); (try simp only [go_sem, h]))) | (refine and_om ?_ ?_; focus omega))
  all_goals (refine done_zero (by simp [EV.bel, allBelow]) ?_; rw [hV])
theorem joinTail_le (sep : List UInt8) : ∀ (ps : List (List UInt8)) (i : Nat), (Lib.joinTail sep (ps.take i)).length ≤ (Lib.joinTail sep ps).length
  | [], i => by simp
  | p :: r, 0 => by simp [Lib.joinTail]
  | p :: r, i + 1 => by
    have := joinTail_le sep r i
    simp only [List.take_succ_cons, Lib.joinTail, List.map_cons, List.flatten_cons, List.length_append] at *
    omega
theorem joinTail_snoc (sep p : List UInt8) (ps : List (List UInt8)) : Lib.joinTail sep (ps ++ [p]) = Lib.joinTail sep ps ++ (sep ++ p) := by simp [Lib.joinTail]
theorem join_take_le (sep : List UInt8) (ps : List (List UInt8)) (i : Nat) : (Lib.join (ps.take i) sep).length ≤ (Lib.join ps sep).length := by
  cases ps with
  | nil => simp
  | cons p r =>
    cases i with
    | zero => simp [Lib.join]
    | succ i =>
      have := joinTail_le sep r i
      rw [List.take_succ_cons, Lib.join_cons, Lib.join_cons, List.length_append, List.length_append]; omega
theorem join_take_step (sep : List UInt8) {ps : List (List UInt8)} {i : Nat} (h0 : 0 < i) (h : i < ps.length) : Lib.join (ps.take (i + 1)) sep = Lib.join (ps.take i) sep ++ sep ++ ps.getD i [] := by
  have e : ps.take (i + 1) = ps.take i ++ [ps.getD i []] := by
    rw [List.take_succ, List.getElem?_eq_getElem h, List.getD_eq_getElem?_getD, List.getElem?_eq_getElem h]; rfl
  rw [e]
  cases ps with
  | nil => simp at h
  | cons p r =>
    obtain ⟨i, rfl⟩ : ∃ j, i = j + 1 := ⟨i - 1, by omega⟩
    rw [List.take_succ_cons, List.cons_append, Lib.join_cons, Lib.join_cons, joinTail_snoc]
    simp
theorem rjoined_c (G : List Gl) (ps : List (List UInt8)) (n z : Nat) (hn : ps.length = n) (h0 : 0 < n) (hN : n ≤ 4000000) (hlen : (Lib.join ps [44, 32]).length ≤ 140737488355328) : Eff G Tryz.prog 50 [.slice (some ⟨0, 0⟩) n n] [(0, .cells (strsE ps) 9 z true 0)] 1 (.str (Lib.join ps [44, 32])) [] 1 := by
  unfold Eff
  subst hn
  have g0 : (strsE ps)[0]? = some (.str (ps.getD 0 [])) := strs_get h0
  refine ecalls_in 25 [.tmp 2] Tryz.func50 rfl rfl rfl (by kernel_rfl) (le_ble rfl) ?_
  repeat' (first | refine esem_seqK 16541 ?_ | refine esem_block ?_ | (refine stp ?_; simp only [go_sem, g0]) | (simp (disch := omega) only [wE]) | (refine spl (fun h => ?_) (fun h => ?_) <;> first | (exfalso; omega) | ((try simp only [opRun, opSkip, stepRun, pickZ]); (try simp only [go_sem, g0, h]))) | (refine and_om ?_ ?_; focus omega))
  have hz1 : Lib.join (ps.take 1) [44, 32] = ps.getD 0 [] := by
    cases ps with
    | nil => simp at h0
    | cons p r => simp [Lib.join_one]
  refine esem_loopS (fun x : Nat => [(0, .slice (some ⟨0, 0⟩) ps.length ps.length), (3, .str (Lib.join (ps.take x) [44, 32])), (4, .int .i64 x)]) (fun _ => [(0, .cells (strsE ps) 9 z true 0)]) (fun _ => 1) (fun x => 0 < x ∧ x ≤ ps.length) (fun x => ps.length - x) (1 : Nat)
    (fun x hx => ⟨by simp [frBel, EV.bel, allBelow], by simp [blBelow, EO.bel], Nat.le_refl _⟩) ⟨by decide, h0⟩ (by simp only [go_sem, weakL, hz1]; (first | done | rfl | exact ⟨trivial, trivial, rfl, trivial⟩)) (by simp only [go_sem, lessL]) ?_
  rintro i ⟨z1, z2⟩
  try simp only []
  have hb := join_take_le [44, 32] ps i
  by_cases hi : i < ps.length
  · have gi : (strsE ps)[i]? = some (.str (ps.getD i [])) := strs_get hi
    have hs := join_take_step [44, 32] z1 hi
    have hb2 := join_take_le [44, 32] ps (i + 1)
    rw [hs] at hb2
    simp only [List.length_append, List.length_cons, List.length_nil] at hb2
    generalize Lib.join (ps.take i) [44, 32] = s at hs hb hb2
    repeat' (first | refine esem_seqK 16541 ?_ | refine esem_block ?_ | (refine stp ?_; simp only [go_sem, gi]) | (refine and_om ?_ ?_; focus (simp only [List.length_append, List.length_cons, List.length_nil]; omega)) | (simp (disch := omega) only [wE]) | (refine spl (fun h => ?_) (fun h => ?_) <;> first | (exfalso; omega) | ((try simp only [opRun, opSkip, stepRun, pickZ]); (try simp only [go_sem, gi, h]))) | (refine and_om ?_ ?_; focus omega))
    (refine ⟨(i + 1), ?_, ?_, rfl, rfl, ?_, ?_⟩; rotate_left; (focus (first | omega | (simp only []; omega))); (focus (first | (simp only [go_sem, weakL, hs]; done) | ((try simp only [go_sem, weakL, hs]); ((repeat' apply And.intro) <;> (first | rfl | trivial | ((try simp only [EV.int.injEq, EV.str.injEq, EV.bool.injEq, EV.tuple.injEq, EV.slice.injEq, List.cons.injEq, true_and, and_true]); first | rfl | omega)))))); (focus (first | trivial | (simp only [go_sem, lessL, hs]; done) | ((try simp only [go_sem, lessL, hs]); ((repeat' apply And.intro) <;> (first | rfl | trivial | ((try simp only [EV.int.injEq, EV.str.injEq, EV.bool.injEq, EV.tuple.injEq, EV.slice.injEq, List.cons.injEq, true_and, and_true]); first | rfl | omega)))))); (try simp only []))
    exact ⟨by omega, by omega⟩
  · obtain rfl : i = ps.length := by omega
    rw [List.take_length]
    repeat' (first | refine esem_seqK 16541 ?_ | refine esem_block ?_ | (refine stp ?_; simp only [go_sem]) | (simp (disch := omega) only [wE]) | (refine spl (fun h => ?_) (fun h => ?_) <;> first | (exfalso; omega) | ((try simp only [opRun, opSkip, stepRun, pickZ]); (try simp only [go_sem, h]))) | (refine and_om ?_ ?_; focus omega))
    all_goals exact done_ef2 [] (by simp) rfl (by simp [mA]) (by simp [bC])
def namesS (s : List UInt8) : List UInt8 := if wordB s then s else quoteL s
theorem rsaid_c (G : List Gl) (tz : TypeId) (v : List Value) (hv : v[15]? = some (.int .u8 4)) (hG : gTz v tz ∈ G) (s : List UInt8) (h63 : s.length ≤ 1000000000000) : E.Pure G Tryz.prog 48 [.str s] (.str (namesS s)) := by
  refine pure_hid fun V hV => ?_
  have nc := rname_c G s h63
  have qc := rquote_c G v tz hv hG s h63
  unfold namesS at hV
  unfold nameT at nc
  cases hw : wordB s with
  | true =>
    rw [hw, if_pos rfl] at nc hV
    refine ecalls_in 12 [.tmp 2] Tryz.func48 rfl rfl rfl (by kernel_rfl) (le_ble rfl) ?_
    repeat' (first | refine esem_seqK 269 ?_ | refine esem_block ?_ | (refine stp ?_; simp only [go_sem]) | (refine Pure.at (nc) (by simp) (by simp) rfl ?_; (try simp only [go_sem])) | (refine Pure.at (qc) (by simp) (by simp) rfl ?_; (try simp only [go_sem])) | (simp (disch := omega) only [wE]) | (refine spl (fun h => ?_) (fun h => ?_) <;> first | (exfalso; omega) | ((try simp only [opRun, opSkip, stepRun, pickZ]); (try simp only [go_sem, h]))) | (refine and_om ?_ ?_; focus omega))
    all_goals (refine done_zero (by simp [EV.bel, allBelow]) ?_; rw [hV])
  | false =>
    rw [hw, if_neg (by simp)] at nc hV
    refine ecalls_in 12 [.tmp 2] Tryz.func48 rfl rfl rfl (by kernel_rfl) (le_ble rfl) ?_
    repeat' (first | refine esem_seqK 269 ?_ | refine esem_block ?_ | (refine stp ?_; simp only [go_sem]) | (refine Pure.at (nc) (by simp) (by simp) rfl ?_; (try simp only [go_sem])) | (refine Pure.at (qc) (by simp) (by simp) rfl ?_; (try simp only [go_sem])) | (simp (disch := omega) only [wE]) | (refine spl (fun h => ?_) (fun h => ?_) <;> first | (exfalso; omega) | ((try simp only [opRun, opSkip, stepRun, pickZ]); (try simp only [go_sem, h]))) | (refine and_om ?_ ?_; focus omega))
    all_goals (refine done_zero (by simp [EV.bel, allBelow]) ?_; rw [hV])
structure Sts where
  docs : Int
  bytes : Int
  marks : Int
  curs : Int
  chg : Int
  pay : Int
  names : Int
  chars : Int
  lines : Int
abbrev stsE (s : Sts) : List EV := [.int .i64 s.docs, .int .i64 s.bytes, .int .i64 s.marks, .int .i64 s.curs, .int .i64 s.chg, .int .i64 s.pay, .int .i64 s.names, .int .i64 s.chars, .int .i64 s.lines]
def stsOK (s : Sts) : Prop := i64B s.docs ∧ i64B s.bytes ∧ i64B s.marks ∧ i64B s.curs ∧ i64B s.chg ∧ i64B s.pay ∧ i64B s.names ∧ i64B s.chars ∧ i64B s.lines
def stsP (s : Sts) : List (List UInt8) := [[100, 111, 99, 115] ++ ([32] ++ Lib.itoa s.docs), [98, 121, 116, 101, 115] ++ ([32] ++ Lib.itoa s.bytes), [99, 104, 97, 114, 115] ++ ([32] ++ Lib.itoa s.chars), [108, 105, 110, 101, 115] ++ ([32] ++ Lib.itoa s.lines), [109, 97, 114, 107, 115] ++ ([32] ++ Lib.itoa s.marks), [99, 117, 114, 115, 111, 114, 115] ++ ([32] ++ Lib.itoa s.curs), [99, 104, 97, 110, 103, 101, 115] ++ ([32] ++ Lib.itoa s.chg), [112, 97, 121, 108, 111, 97, 100] ++ ([32] ++ Lib.itoa s.pay), [110, 97, 109, 101, 115] ++ ([32] ++ Lib.itoa s.names)]
def statL (s : Sts) : List UInt8 := Lib.join (stsP s) [32]
theorem rstats_c (G : List Gl) (tp : TypeId) (hp : gPow tp ∈ G) (s : Sts) (hs : stsOK s) : E.Pure G Tryz.prog 49 [.agg (stsE s)] (.str (statL s)) := by
  refine pure_hid fun V hV => ?_
  obtain ⟨d0, d1, d2, d3, d4, d5, d6, d7, d8⟩ := s
  obtain ⟨h0, h1, h2, h3, h4, h5, h6, h7, h8⟩ := hs
  simp only [statL, stsP, Lib.join_cons, Lib.joinTail, List.flatMap_cons, List.flatMap_nil] at hV
  simp only at h0 h1 h2 h3 h4 h5 h6 h7 h8
  have i0 := itoa_c G tp hp d0 h0.1 h0.2
  have i1 := itoa_c G tp hp d1 h1.1 h1.2
  have i2 := itoa_c G tp hp d2 h2.1 h2.2
  have i3 := itoa_c G tp hp d3 h3.1 h3.2
  have i4 := itoa_c G tp hp d4 h4.1 h4.2
  have i5 := itoa_c G tp hp d5 h5.1 h5.2
  have i6 := itoa_c G tp hp d6 h6.1 h6.2
  have i7 := itoa_c G tp hp d7 h7.1 h7.2
  have i8 := itoa_c G tp hp d8 h8.1 h8.2
  have l0 := itoa_lenI d0 h0
  have l1 := itoa_lenI d1 h1
  have l2 := itoa_lenI d2 h2
  have l3 := itoa_lenI d3 h3
  have l4 := itoa_lenI d4 h4
  have l5 := itoa_lenI d5 h5
  have l6 := itoa_lenI d6 h6
  have l7 := itoa_lenI d7 h7
  have l8 := itoa_lenI d8 h8
  clear h0 h1 h2 h3 h4 h5 h6 h7 h8
  generalize Lib.itoa d0 = A0 at i0 l0 hV
  generalize Lib.itoa d1 = A1 at i1 l1 hV
  generalize Lib.itoa d2 = A2 at i2 l2 hV
  generalize Lib.itoa d3 = A3 at i3 l3 hV
  generalize Lib.itoa d4 = A4 at i4 l4 hV
  generalize Lib.itoa d5 = A5 at i5 l5 hV
  generalize Lib.itoa d6 = A6 at i6 l6 hV
  generalize Lib.itoa d7 = A7 at i7 l7 hV
  generalize Lib.itoa d8 = A8 at i8 l8 hV
  refine ecalls_in 51 [.tmp 2] Tryz.func49 rfl rfl rfl (by kernel_rfl) (le_ble rfl) ?_
  repeat' (first | refine esem_seqK 18253611135 ?_ | refine esem_block ?_ | (refine stp ?_; simp only [go_sem]) | (refine drawQ (id := 9) mixed [(0, []), (1, []), (2, []), (3, []), (7, []), (8, []), (9, []), (4, []), (5, []), (6, []), (10, []), (11, [4]), (12, []), (13, [])] (by kernel_rfl) ?_; simp only [go_sem]) | (refine Pure.at (i0) (by simp) (by simp) rfl ?_; (try simp only [go_sem])) | (refine Pure.at (i1) (by simp) (by simp) rfl ?_; (try simp only [go_sem])) | (refine Pure.at (i2) (by simp) (by simp) rfl ?_; (try simp only [go_sem])) | (refine Pure.at (i3) (by simp) (by simp) rfl ?_; (try simp only [go_sem])) | (refine Pure.at (i4) (by simp) (by simp) rfl ?_; (try simp only [go_sem])) | (refine Pure.at (i5) (by simp) (by simp) rfl ?_; (try simp only [go_sem])) | (refine Pure.at (i6) (by simp) (by simp) rfl ?_; (try simp only [go_sem])) | (refine Pure.at (i7) (by simp) (by simp) rfl ?_; (try simp only [go_sem])) | (refine Pure.at (i8) (by simp) (by simp) rfl ?_; (try simp only [go_sem])) | (refine and_om ?_ ?_; focus (simp only [List.length_append, List.length_cons, List.length_nil]; omega)) | (refine esem_loopN 18253611135 10 ?_; simp only [go_sem]) | (simp (disch := omega) only [wE]) | (refine spl (fun h => ?_) (fun h => ?_) <;> first | (exfalso; omega) | ((try simp only [opRun, opSkip, stepRun, pickZ]); (try simp only [go_sem, h]))) | (refine and_om ?_ ?_; focus omega))
  all_goals ((refine done_zero (by simp [EV.bel, allBelow]) ?_; rw [hV]); simp)
end Go.Proofs.YtnjbdcdjcfhooaaGreatDoor
namespace Go.Proofs.YtnjbdcdjcfhooaaGreatDoor
open Go.E Go.ChangeShapes Go.WideShapes Go.ChangeAt Go.RowKit
set_option linter.all false
set_option maxRecDepth 20000
set_option maxHeartbeats 8000000
theorem stats_c (G : List Gl) (tp : TypeId) (hp : gPow tp ∈ G) (s : Sts) (hs : stsOK s) : E.Pure G Tryz.prog 39 [.agg (stsE s)] (.str (statL s)) := by
  refine pure_hid fun V hV => ?_
  obtain ⟨d0, d1, d2, d3, d4, d5, d6, d7, d8⟩ := s
  obtain ⟨h0, h1, h2, h3, h4, h5, h6, h7, h8⟩ := hs
  simp only [statL] at hV
  simp only at h0 h1 h2 h3 h4 h5 h6 h7 h8
  have i0 := decimal_c G tp hp d0 h0.1 h0.2
  have i1 := decimal_c G tp hp d1 h1.1 h1.2
  have i2 := decimal_c G tp hp d2 h2.1 h2.2
  have i3 := decimal_c G tp hp d3 h3.1 h3.2
  have i4 := decimal_c G tp hp d4 h4.1 h4.2
  have i5 := decimal_c G tp hp d5 h5.1 h5.2
  have i6 := decimal_c G tp hp d6 h6.1 h6.2
  have i7 := decimal_c G tp hp d7 h7.1 h7.2
  have i8 := decimal_c G tp hp d8 h8.1 h8.2
  have l0 := itoa_lenI d0 h0
  have l1 := itoa_lenI d1 h1
  have l2 := itoa_lenI d2 h2
  have l3 := itoa_lenI d3 h3
  have l4 := itoa_lenI d4 h4
  have l5 := itoa_lenI d5 h5
  have l6 := itoa_lenI d6 h6
  have l7 := itoa_lenI d7 h7
  have l8 := itoa_lenI d8 h8
  have hl := join_len 40 (stsP ⟨d0, d1, d2, d3, d4, d5, d6, d7, d8⟩) (by
    intro p hp
    simp only [stsP, List.mem_cons, List.not_mem_nil, or_false] at hp
    rcases hp with rfl | rfl | rfl | rfl | rfl | rfl | rfl | rfl | rfl <;> simp only [List.length_append, List.length_cons, List.length_nil] <;> omega)
  have hj := join_c G (stsP ⟨d0, d1, d2, d3, d4, d5, d6, d7, d8⟩) 9 0 rfl (by decide) (by decide) [32] (by simp only [stsP, List.length_cons, List.length_nil] at hl ⊢; omega)
  generalize hJ : Lib.join (stsP ⟨d0, d1, d2, d3, d4, d5, d6, d7, d8⟩) [32] = J at hj hV
  clear h0 h1 h2 h3 h4 h5 h6 h7 h8 hl hJ
  simp only [stsP, List.map_cons, List.map_nil, List.cons_append, List.nil_append] at hj
  generalize Lib.itoa d0 = A0 at i0 l0 hj
  generalize Lib.itoa d1 = A1 at i1 l1 hj
  generalize Lib.itoa d2 = A2 at i2 l2 hj
  generalize Lib.itoa d3 = A3 at i3 l3 hj
  generalize Lib.itoa d4 = A4 at i4 l4 hj
  generalize Lib.itoa d5 = A5 at i5 l5 hj
  generalize Lib.itoa d6 = A6 at i6 l6 hj
  generalize Lib.itoa d7 = A7 at i7 l7 hj
  generalize Lib.itoa d8 = A8 at i8 l8 hj
  refine ecalls_in 46 [.tmp 2] Tryz.func39 rfl rfl rfl (by kernel_rfl) (le_ble rfl) ?_
  repeat' (first | refine esem_seqK 939524159 ?_ | refine esem_block ?_ | (refine stp ?_; simp only [go_sem, List.cons_append, List.nil_append]) | (refine drawQ (id := 6) mixed [(0, []), (1, []), (2, []), (4, []), (5, []), (6, []), (3, []), (7, []), (8, [3]), (9, []), (10, []), (11, []), (12, [])] (by kernel_rfl) ?_; simp only [go_sem, List.cons_append, List.nil_append]) | (refine Pure.at (i0) (by simp) (by simp) rfl ?_; (try simp only [go_sem, List.cons_append, List.nil_append])) | (refine Pure.at (i1) (by simp) (by simp) rfl ?_; (try simp only [go_sem, List.cons_append, List.nil_append])) | (refine Pure.at (i2) (by simp) (by simp) rfl ?_; (try simp only [go_sem, List.cons_append, List.nil_append])) | (refine Pure.at (i3) (by simp) (by simp) rfl ?_; (try simp only [go_sem, List.cons_append, List.nil_append])) | (refine Pure.at (i4) (by simp) (by simp) rfl ?_; (try simp only [go_sem, List.cons_append, List.nil_append])) | (refine Pure.at (i5) (by simp) (by simp) rfl ?_; (try simp only [go_sem, List.cons_append, List.nil_append])) | (refine Pure.at (i6) (by simp) (by simp) rfl ?_; (try simp only [go_sem, List.cons_append, List.nil_append])) | (refine Pure.at (i7) (by simp) (by simp) rfl ?_; (try simp only [go_sem, List.cons_append, List.nil_append])) | (refine Pure.at (i8) (by simp) (by simp) rfl ?_; (try simp only [go_sem, List.cons_append, List.nil_append])) | (refine and_om ?_ ?_; focus (simp only [List.length_append, List.length_cons, List.length_nil]; omega)) | (refine Eff.at2 (hj ) [1] rfl (by first | (simp; done) | (simp; omega) | (simp [bC]; done) | omega) rfl ?_; (try simp only [go_sem, List.cons_append, List.nil_append])) | (refine esem_loopN 939524159 10 ?_; simp only [go_sem, List.cons_append, List.nil_append]) | (simp (disch := omega) only [wE]) | (refine spl (fun h => ?_) (fun h => ?_) <;> first | (exfalso; omega) | ((try simp only [opRun, opSkip, stepRun, pickZ]); (try simp only [go_sem, List.cons_append, List.nil_append, h]))) | (refine and_om ?_ ?_; focus omega))
  all_goals (refine done_zero (by simp [EV.bel, allBelow]) ?_; rw [hV])
end Go.Proofs.YtnjbdcdjcfhooaaGreatDoor
