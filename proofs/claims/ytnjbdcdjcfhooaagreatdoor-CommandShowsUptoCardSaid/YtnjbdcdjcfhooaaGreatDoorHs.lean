/-
  Own work: walks and laws of the functions that the statement reaches; the statement itself stands in the last text.
-/
import Derived.Test.YtnjbdcdjcfhooaaGreatDoorHk
import Derived.Test.YtnjbdcdjcfhooaaGreatDoorHr
namespace Go.Proofs.YtnjbdcdjcfhooaaGreatDoor
open Go.E
set_option linter.all false
set_option maxRecDepth 20000
set_option maxHeartbeats 8000000
theorem rquote_c (G : List Gl) (v : List Value) (t : TypeId) (hv : v[15]? = some (.int .u8 4)) (hG : gTz v t ∈ G) (l : List UInt8) (h63 : l.length ≤ 1000000000000) : E.Pure G Tryz.prog 46 [.str l] (.str (quoteL l)) := by
  refine pure_hid fun V hV => ?_
  refine ecalls_in 91 [.tmp 2] Tryz.func46 rfl rfl rfl (by kernel_rfl) (le_ble rfl) ?_
  repeat' (first | refine esem_seqK 4722385078377766719741 ?_ | refine esem_block ?_ | (refine stp ?_; simp only [go_sem]) | (refine drawQ (id := 17) mixed [(0, []), (2, []), (3, []), (4, []), (1, []), (5, []), (6, []), (7, [])] (by kernel_rfl) ?_; simp only [go_sem]) | (simp (disch := omega) only [wE]) | (refine spl (fun h => ?_) (fun h => ?_) <;> first | (exfalso; omega) | ((try simp only [opRun, opSkip, stepRun, pickZ]); (try simp only [go_sem, h]))) | (refine and_om ?_ ?_; focus omega))
  refine esem_loopS (fun z => [(0, .str l), (4, .int .i64 z.1), (3, .slice (some ⟨z.2.1, 0⟩) z.2.2.2.length z.2.2.2.length)]) (fun z => [(z.2.1, .cells (bytesE z.2.2.2) 5 z.2.2.1 true 0)]) (fun z => z.2.1 + 1) (fun z => 0 < z.2.2.2.length ∧ z.2.2.2.length ≤ 8 * z.1 + 1 ∧ z.1 ≤ l.length ∧ (z.2.2.1 = 0 ∨ z.2.2.1 = 1) ∧ z.2.2.2 ++ quoL l z.1 = quoteL l) (fun z => l.length - z.1) (((0 : Nat), (0 : Nat), (0 : Nat), ([34] : List UInt8))) (fun z hz => ⟨by simp [frBel], by first | trivial | simp, by first | exact Nat.le_refl _ | exact Nat.zero_le _ | omega | (simp only []; omega)⟩) (by exact ⟨by decide, by decide, Nat.zero_le _, .inl rfl, rfl⟩) (by first | (simp only [go_sem, weakL]; done) | ((try simp only [go_sem, weakL]); ((repeat' apply And.intro) <;> (first | rfl | trivial | ((try simp only [EV.int.injEq, EV.str.injEq, EV.bool.injEq, EV.tuple.injEq, EV.slice.injEq, List.cons.injEq, true_and, and_true]); first | rfl | omega))))) (by first | trivial | (simp only [go_sem, lessL]; done) | ((try simp only [go_sem, lessL]); ((repeat' apply And.intro) <;> (first | rfl | trivial | ((try simp only [EV.int.injEq, EV.str.injEq, EV.bool.injEq, EV.tuple.injEq, EV.slice.injEq, List.cons.injEq, true_and, and_true]); first | rfl | omega))))) ?_
  rintro ⟨i, b, zf, out⟩ ⟨z1, z2, z3, z5, z4⟩
  simp only at z1 z2 z3 z4 z5
  simp only []
  by_cases hi : i < l.length
  · have hs := quoL_step (s := l) hi
    rw [hs] at z4
    have hc := chQ_len (l.drop i) (by rw [List.length_drop]; omega)
    have hd := decE_pos (l.drop i)
    have hbd := decE_bd (l.drop i)
    have hd2 : (decE (l.drop i)).2 ≤ l.length - i := by have := decE_le (l.drop i) (by rw [List.length_drop]; omega); rwa [List.length_drop] at this
    have ht : ((l.drop i).take (decE (l.drop i)).2).length = (decE (l.drop i)).2 := by rw [List.length_take, List.length_drop, Nat.min_eq_left hd2]
    have has := decE_ascii (l.drop i)
    rw [getD_drop, Nat.add_zero] at has
    have hsp := chQ_split (l.drop i)
    rw [getD_drop, Nat.add_zero] at hsp
    have hxl := hexS_len (decE (l.drop i)).1
    have hfm := fmt_c G v t hv hG (decE (l.drop i)).1
    generalize hwd : (l.drop i).take (decE (l.drop i)).2 = wd at ht hsp
    generalize hexS (decE (l.drop i)).1 = hx at hxl hfm hsp
    have w1 := take_bytes out [92, 120] 2 rfl
    have w2 := len_bytes out [92, 120] 2 rfl
    have w3 := take_bytes out [92, 117, 123] 3 rfl
    have w4 := len_bytes out [92, 117, 123] 3 rfl
    have w5 : List.take (out.length + 3 + hx.length) (bytesE out ++ bytesE [92, 117, 123] ++ bytesE hx) = bytesE out ++ bytesE [92, 117, 123] ++ bytesE hx := List.take_of_length_le (by rw [List.length_append, List.length_append, bytesE_length, bytesE_length, bytesE_length]; simp)
    have w6 : (bytesE out ++ bytesE [92, 117, 123] ++ bytesE hx).length = out.length + 3 + hx.length := by rw [List.length_append, List.length_append, bytesE_length, bytesE_length, bytesE_length]; rfl
    have bx : bytesE (92 :: 120 :: hexP (l.getD i 0)) = bytesE [92, 120] ++ bytesE (hexP (l.getD i 0)) := rfl
    have bu : bytesE (92 :: 117 :: 123 :: (hx ++ [125])) = bytesE [92, 117, 123] ++ (bytesE hx ++ [EV.int IntKind.u8 125]) := by
      rw [show 92 :: 117 :: 123 :: (hx ++ [125]) = [92, 117, 123] ++ (hx ++ [125]) from rfl, bytesE_append, bytesE_append]; rfl
    have hnp := not_plain (r := (decE (l.drop i)).1)
    rcases hsp with ⟨hr, hq⟩ | ⟨hr, hq⟩ | ⟨hr, hq⟩ | ⟨hr, hq⟩ | ⟨hr, hq⟩ | ⟨⟨n1, n2, n3, n4, n5⟩, hR, hq⟩ | ⟨⟨n1, n2, n3, n4, n5⟩, hR, hr, hq⟩ | ⟨⟨n1, n2, n3, n4, n5⟩, hR, hr, hq⟩ | ⟨⟨n1, n2, n3, n4, n5⟩, hR, n6, n7, hP, hq⟩ | ⟨⟨n1, n2, n3, n4, n5⟩, hR, n6, n7, hP, hq⟩
    · rw [hq] at z4 hc
      have hcl := hc.2
      (try simp only [List.length_append, List.length_cons, List.length_nil, hexP_length] at hcl)
      rcases z5 with rfl | rfl
      all_goals
        repeat' (first | refine esem_seqK 4722385078377766719741 ?_ | refine esem_block ?_ | (refine stp ?_; simp only [go_sem, ebinS, hexP_length, and_false, or_false, not_true_eq_false, w1, w2, w3, w4, w5, w6]) | (refine drawQ (id := 17) mixed [(0, []), (2, []), (3, []), (4, []), (1, []), (5, []), (6, []), (7, [])] (by kernel_rfl) ?_; simp only [go_sem, ebinS, hexP_length, and_false, or_false, not_true_eq_false, w1, w2, w3, w4, w5, w6]) | (refine Pure.at (rchar_c _ _ (by rw [List.length_drop]; omega) (by rw [List.length_drop]; omega)) (by simp) (by simp) rfl ?_; (try simp only [go_sem, ebinS, hexP_length, and_false, or_false, not_true_eq_false, w1, w2, w3, w4, w5, w6])) | (refine Pure.at (hex_c _ _) (by simp) (by simp) rfl ?_; (try simp only [go_sem, ebinS, hexP_length, and_false, or_false, not_true_eq_false, w1, w2, w3, w4, w5, w6])) | (refine Pure.at (rplain_c _ _) (by simp) (by simp) rfl ?_; (try simp only [go_sem, ebinS, hexP_length, and_false, or_false, not_true_eq_false, w1, w2, w3, w4, w5, w6])) | (simp only [toNat_addE, add_sub_selfE, hwd]) | (simp (disch := omega) only [wE]) | (refine spl (fun h => ?_) (fun h => ?_) <;> first | (exfalso; omega) | ((try simp only [opRun, opSkip, stepRun, pickZ]); (try simp only [go_sem, ebinS, hexP_length, and_false, or_false, not_true_eq_false, w1, w2, w3, w4, w5, w6, h]))) | (refine and_om ?_ ?_; focus omega))
        (refine ⟨(i + (decE (l.drop i)).2, b + 1, (1 : Nat), out ++ ([92, 34])), ?_, ?_, rfl, rfl, ?_, ?_⟩; rotate_left; (focus (first | omega | (simp only []; omega))); (focus (first | (simp only [go_sem, weakL, List.length_append, bytesE_append, List.length_cons, List.length_nil, hexP_length, ← List.append_assoc, ← Nat.add_assoc, bx, bu]; done) | ((try simp only [go_sem, weakL, List.length_append, bytesE_append, List.length_cons, List.length_nil, hexP_length, ← List.append_assoc, ← Nat.add_assoc, bx, bu]); ((repeat' apply And.intro) <;> (first | rfl | trivial | ((try simp only [EV.int.injEq, EV.str.injEq, EV.bool.injEq, EV.tuple.injEq, EV.slice.injEq, List.cons.injEq, true_and, and_true]); first | rfl | omega)))))); (focus (first | trivial | (simp only [go_sem, lessL, List.length_append, bytesE_append, List.length_cons, List.length_nil, hexP_length, ← List.append_assoc, ← Nat.add_assoc, bx, bu]; done) | ((try simp only [go_sem, lessL, List.length_append, bytesE_append, List.length_cons, List.length_nil, hexP_length, ← List.append_assoc, ← Nat.add_assoc, bx, bu]); ((repeat' apply And.intro) <;> (first | rfl | trivial | ((try simp only [EV.int.injEq, EV.str.injEq, EV.bool.injEq, EV.tuple.injEq, EV.slice.injEq, List.cons.injEq, true_and, and_true]); first | rfl | omega)))))); (try simp only []))
        exact ⟨by (simp only [List.length_append, List.length_cons, List.length_nil]; omega), by (simp only [List.length_append, List.length_cons, List.length_nil, hexP_length]; omega), by omega, by simp, by rw [List.append_assoc]; exact z4⟩
    · rw [hq] at z4 hc
      have hcl := hc.2
      (try simp only [List.length_append, List.length_cons, List.length_nil, hexP_length] at hcl)
      rcases z5 with rfl | rfl
      all_goals
        repeat' (first | refine esem_seqK 4722385078377766719741 ?_ | refine esem_block ?_ | (refine stp ?_; simp only [go_sem, ebinS, hexP_length, and_false, or_false, not_true_eq_false, w1, w2, w3, w4, w5, w6]) | (refine drawQ (id := 17) mixed [(0, []), (2, []), (3, []), (4, []), (1, []), (5, []), (6, []), (7, [])] (by kernel_rfl) ?_; simp only [go_sem, ebinS, hexP_length, and_false, or_false, not_true_eq_false, w1, w2, w3, w4, w5, w6]) | (refine Pure.at (rchar_c _ _ (by rw [List.length_drop]; omega) (by rw [List.length_drop]; omega)) (by simp) (by simp) rfl ?_; (try simp only [go_sem, ebinS, hexP_length, and_false, or_false, not_true_eq_false, w1, w2, w3, w4, w5, w6])) | (refine Pure.at (hex_c _ _) (by simp) (by simp) rfl ?_; (try simp only [go_sem, ebinS, hexP_length, and_false, or_false, not_true_eq_false, w1, w2, w3, w4, w5, w6])) | (refine Pure.at (rplain_c _ _) (by simp) (by simp) rfl ?_; (try simp only [go_sem, ebinS, hexP_length, and_false, or_false, not_true_eq_false, w1, w2, w3, w4, w5, w6])) | (simp only [toNat_addE, add_sub_selfE, hwd]) | (simp (disch := omega) only [wE]) | (refine spl (fun h => ?_) (fun h => ?_) <;> first | (exfalso; omega) | ((try simp only [opRun, opSkip, stepRun, pickZ]); (try simp only [go_sem, ebinS, hexP_length, and_false, or_false, not_true_eq_false, w1, w2, w3, w4, w5, w6, h]))) | (refine and_om ?_ ?_; focus omega))
        (refine ⟨(i + (decE (l.drop i)).2, b + 1, (1 : Nat), out ++ ([92, 92])), ?_, ?_, rfl, rfl, ?_, ?_⟩; rotate_left; (focus (first | omega | (simp only []; omega))); (focus (first | (simp only [go_sem, weakL, List.length_append, bytesE_append, List.length_cons, List.length_nil, hexP_length, ← List.append_assoc, ← Nat.add_assoc, bx, bu]; done) | ((try simp only [go_sem, weakL, List.length_append, bytesE_append, List.length_cons, List.length_nil, hexP_length, ← List.append_assoc, ← Nat.add_assoc, bx, bu]); ((repeat' apply And.intro) <;> (first | rfl | trivial | ((try simp only [EV.int.injEq, EV.str.injEq, EV.bool.injEq, EV.tuple.injEq, EV.slice.injEq, List.cons.injEq, true_and, and_true]); first | rfl | omega)))))); (focus (first | trivial | (simp only [go_sem, lessL, List.length_append, bytesE_append, List.length_cons, List.length_nil, hexP_length, ← List.append_assoc, ← Nat.add_assoc, bx, bu]; done) | ((try simp only [go_sem, lessL, List.length_append, bytesE_append, List.length_cons, List.length_nil, hexP_length, ← List.append_assoc, ← Nat.add_assoc, bx, bu]); ((repeat' apply And.intro) <;> (first | rfl | trivial | ((try simp only [EV.int.injEq, EV.str.injEq, EV.bool.injEq, EV.tuple.injEq, EV.slice.injEq, List.cons.injEq, true_and, and_true]); first | rfl | omega)))))); (try simp only []))
        exact ⟨by (simp only [List.length_append, List.length_cons, List.length_nil]; omega), by (simp only [List.length_append, List.length_cons, List.length_nil, hexP_length]; omega), by omega, by simp, by rw [List.append_assoc]; exact z4⟩
    · rw [hq] at z4 hc
      have hcl := hc.2
      (try simp only [List.length_append, List.length_cons, List.length_nil, hexP_length] at hcl)
      rcases z5 with rfl | rfl
      all_goals
        repeat' (first | refine esem_seqK 4722385078377766719741 ?_ | refine esem_block ?_ | (refine stp ?_; simp only [go_sem, ebinS, hexP_length, and_false, or_false, not_true_eq_false, w1, w2, w3, w4, w5, w6]) | (refine drawQ (id := 17) mixed [(0, []), (2, []), (3, []), (4, []), (1, []), (5, []), (6, []), (7, [])] (by kernel_rfl) ?_; simp only [go_sem, ebinS, hexP_length, and_false, or_false, not_true_eq_false, w1, w2, w3, w4, w5, w6]) | (refine Pure.at (rchar_c _ _ (by rw [List.length_drop]; omega) (by rw [List.length_drop]; omega)) (by simp) (by simp) rfl ?_; (try simp only [go_sem, ebinS, hexP_length, and_false, or_false, not_true_eq_false, w1, w2, w3, w4, w5, w6])) | (refine Pure.at (hex_c _ _) (by simp) (by simp) rfl ?_; (try simp only [go_sem, ebinS, hexP_length, and_false, or_false, not_true_eq_false, w1, w2, w3, w4, w5, w6])) | (refine Pure.at (rplain_c _ _) (by simp) (by simp) rfl ?_; (try simp only [go_sem, ebinS, hexP_length, and_false, or_false, not_true_eq_false, w1, w2, w3, w4, w5, w6])) | (simp only [toNat_addE, add_sub_selfE, hwd]) | (simp (disch := omega) only [wE]) | (refine spl (fun h => ?_) (fun h => ?_) <;> first | (exfalso; omega) | ((try simp only [opRun, opSkip, stepRun, pickZ]); (try simp only [go_sem, ebinS, hexP_length, and_false, or_false, not_true_eq_false, w1, w2, w3, w4, w5, w6, h]))) | (refine and_om ?_ ?_; focus omega))
        (refine ⟨(i + (decE (l.drop i)).2, b + 1, (1 : Nat), out ++ ([92, 110])), ?_, ?_, rfl, rfl, ?_, ?_⟩; rotate_left; (focus (first | omega | (simp only []; omega))); (focus (first | (simp only [go_sem, weakL, List.length_append, bytesE_append, List.length_cons, List.length_nil, hexP_length, ← List.append_assoc, ← Nat.add_assoc, bx, bu]; done) | ((try simp only [go_sem, weakL, List.length_append, bytesE_append, List.length_cons, List.length_nil, hexP_length, ← List.append_assoc, ← Nat.add_assoc, bx, bu]); ((repeat' apply And.intro) <;> (first | rfl | trivial | ((try simp only [EV.int.injEq, EV.str.injEq, EV.bool.injEq, EV.tuple.injEq, EV.slice.injEq, List.cons.injEq, true_and, and_true]); first | rfl | omega)))))); (focus (first | trivial | (simp only [go_sem, lessL, List.length_append, bytesE_append, List.length_cons, List.length_nil, hexP_length, ← List.append_assoc, ← Nat.add_assoc, bx, bu]; done) | ((try simp only [go_sem, lessL, List.length_append, bytesE_append, List.length_cons, List.length_nil, hexP_length, ← List.append_assoc, ← Nat.add_assoc, bx, bu]); ((repeat' apply And.intro) <;> (first | rfl | trivial | ((try simp only [EV.int.injEq, EV.str.injEq, EV.bool.injEq, EV.tuple.injEq, EV.slice.injEq, List.cons.injEq, true_and, and_true]); first | rfl | omega)))))); (try simp only []))
        exact ⟨by (simp only [List.length_append, List.length_cons, List.length_nil]; omega), by (simp only [List.length_append, List.length_cons, List.length_nil, hexP_length]; omega), by omega, by simp, by rw [List.append_assoc]; exact z4⟩
    · rw [hq] at z4 hc
      have hcl := hc.2
      (try simp only [List.length_append, List.length_cons, List.length_nil, hexP_length] at hcl)
      rcases z5 with rfl | rfl
      all_goals
        repeat' (first | refine esem_seqK 4722385078377766719741 ?_ | refine esem_block ?_ | (refine stp ?_; simp only [go_sem, ebinS, hexP_length, and_false, or_false, not_true_eq_false, w1, w2, w3, w4, w5, w6]) | (refine drawQ (id := 17) mixed [(0, []), (2, []), (3, []), (4, []), (1, []), (5, []), (6, []), (7, [])] (by kernel_rfl) ?_; simp only [go_sem, ebinS, hexP_length, and_false, or_false, not_true_eq_false, w1, w2, w3, w4, w5, w6]) | (refine Pure.at (rchar_c _ _ (by rw [List.length_drop]; omega) (by rw [List.length_drop]; omega)) (by simp) (by simp) rfl ?_; (try simp only [go_sem, ebinS, hexP_length, and_false, or_false, not_true_eq_false, w1, w2, w3, w4, w5, w6])) | (refine Pure.at (hex_c _ _) (by simp) (by simp) rfl ?_; (try simp only [go_sem, ebinS, hexP_length, and_false, or_false, not_true_eq_false, w1, w2, w3, w4, w5, w6])) | (refine Pure.at (rplain_c _ _) (by simp) (by simp) rfl ?_; (try simp only [go_sem, ebinS, hexP_length, and_false, or_false, not_true_eq_false, w1, w2, w3, w4, w5, w6])) | (simp only [toNat_addE, add_sub_selfE, hwd]) | (simp (disch := omega) only [wE]) | (refine spl (fun h => ?_) (fun h => ?_) <;> first | (exfalso; omega) | ((try simp only [opRun, opSkip, stepRun, pickZ]); (try simp only [go_sem, ebinS, hexP_length, and_false, or_false, not_true_eq_false, w1, w2, w3, w4, w5, w6, h]))) | (refine and_om ?_ ?_; focus omega))
        (refine ⟨(i + (decE (l.drop i)).2, b + 1, (1 : Nat), out ++ ([92, 114])), ?_, ?_, rfl, rfl, ?_, ?_⟩; rotate_left; (focus (first | omega | (simp only []; omega))); (focus (first | (simp only [go_sem, weakL, List.length_append, bytesE_append, List.length_cons, List.length_nil, hexP_length, ← List.append_assoc, ← Nat.add_assoc, bx, bu]; done) | ((try simp only [go_sem, weakL, List.length_append, bytesE_append, List.length_cons, List.length_nil, hexP_length, ← List.append_assoc, ← Nat.add_assoc, bx, bu]); ((repeat' apply And.intro) <;> (first | rfl | trivial | ((try simp only [EV.int.injEq, EV.str.injEq, EV.bool.injEq, EV.tuple.injEq, EV.slice.injEq, List.cons.injEq, true_and, and_true]); first | rfl | omega)))))); (focus (first | trivial | (simp only [go_sem, lessL, List.length_append, bytesE_append, List.length_cons, List.length_nil, hexP_length, ← List.append_assoc, ← Nat.add_assoc, bx, bu]; done) | ((try simp only [go_sem, lessL, List.length_append, bytesE_append, List.length_cons, List.length_nil, hexP_length, ← List.append_assoc, ← Nat.add_assoc, bx, bu]); ((repeat' apply And.intro) <;> (first | rfl | trivial | ((try simp only [EV.int.injEq, EV.str.injEq, EV.bool.injEq, EV.tuple.injEq, EV.slice.injEq, List.cons.injEq, true_and, and_true]); first | rfl | omega)))))); (try simp only []))
        exact ⟨by (simp only [List.length_append, List.length_cons, List.length_nil]; omega), by (simp only [List.length_append, List.length_cons, List.length_nil, hexP_length]; omega), by omega, by simp, by rw [List.append_assoc]; exact z4⟩
    · rw [hq] at z4 hc
      have hcl := hc.2
      (try simp only [List.length_append, List.length_cons, List.length_nil, hexP_length] at hcl)
      rcases z5 with rfl | rfl
      all_goals
        repeat' (first | refine esem_seqK 4722385078377766719741 ?_ | refine esem_block ?_ | (refine stp ?_; simp only [go_sem, ebinS, hexP_length, and_false, or_false, not_true_eq_false, w1, w2, w3, w4, w5, w6]) | (refine drawQ (id := 17) mixed [(0, []), (2, []), (3, []), (4, []), (1, []), (5, []), (6, []), (7, [])] (by kernel_rfl) ?_; simp only [go_sem, ebinS, hexP_length, and_false, or_false, not_true_eq_false, w1, w2, w3, w4, w5, w6]) | (refine Pure.at (rchar_c _ _ (by rw [List.length_drop]; omega) (by rw [List.length_drop]; omega)) (by simp) (by simp) rfl ?_; (try simp only [go_sem, ebinS, hexP_length, and_false, or_false, not_true_eq_false, w1, w2, w3, w4, w5, w6])) | (refine Pure.at (hex_c _ _) (by simp) (by simp) rfl ?_; (try simp only [go_sem, ebinS, hexP_length, and_false, or_false, not_true_eq_false, w1, w2, w3, w4, w5, w6])) | (refine Pure.at (rplain_c _ _) (by simp) (by simp) rfl ?_; (try simp only [go_sem, ebinS, hexP_length, and_false, or_false, not_true_eq_false, w1, w2, w3, w4, w5, w6])) | (simp only [toNat_addE, add_sub_selfE, hwd]) | (simp (disch := omega) only [wE]) | (refine spl (fun h => ?_) (fun h => ?_) <;> first | (exfalso; omega) | ((try simp only [opRun, opSkip, stepRun, pickZ]); (try simp only [go_sem, ebinS, hexP_length, and_false, or_false, not_true_eq_false, w1, w2, w3, w4, w5, w6, h]))) | (refine and_om ?_ ?_; focus omega))
        (refine ⟨(i + (decE (l.drop i)).2, b + 1, (1 : Nat), out ++ ([92, 116])), ?_, ?_, rfl, rfl, ?_, ?_⟩; rotate_left; (focus (first | omega | (simp only []; omega))); (focus (first | (simp only [go_sem, weakL, List.length_append, bytesE_append, List.length_cons, List.length_nil, hexP_length, ← List.append_assoc, ← Nat.add_assoc, bx, bu]; done) | ((try simp only [go_sem, weakL, List.length_append, bytesE_append, List.length_cons, List.length_nil, hexP_length, ← List.append_assoc, ← Nat.add_assoc, bx, bu]); ((repeat' apply And.intro) <;> (first | rfl | trivial | ((try simp only [EV.int.injEq, EV.str.injEq, EV.bool.injEq, EV.tuple.injEq, EV.slice.injEq, List.cons.injEq, true_and, and_true]); first | rfl | omega)))))); (focus (first | trivial | (simp only [go_sem, lessL, List.length_append, bytesE_append, List.length_cons, List.length_nil, hexP_length, ← List.append_assoc, ← Nat.add_assoc, bx, bu]; done) | ((try simp only [go_sem, lessL, List.length_append, bytesE_append, List.length_cons, List.length_nil, hexP_length, ← List.append_assoc, ← Nat.add_assoc, bx, bu]); ((repeat' apply And.intro) <;> (first | rfl | trivial | ((try simp only [EV.int.injEq, EV.str.injEq, EV.bool.injEq, EV.tuple.injEq, EV.slice.injEq, List.cons.injEq, true_and, and_true]); first | rfl | omega)))))); (try simp only []))
        exact ⟨by (simp only [List.length_append, List.length_cons, List.length_nil]; omega), by (simp only [List.length_append, List.length_cons, List.length_nil, hexP_length]; omega), by omega, by simp, by rw [List.append_assoc]; exact z4⟩
    · rw [hq] at z4 hc
      have hcl := hc.2
      (try simp only [List.length_append, List.length_cons, List.length_nil, hexP_length] at hcl)
      rcases z5 with rfl | rfl
      all_goals
        repeat' (first | refine esem_seqK 4722385078377766719741 ?_ | refine esem_block ?_ | (refine stp ?_; simp only [go_sem, ebinS, hexP_length, and_false, or_false, not_true_eq_false, w1, w2, w3, w4, w5, w6, hR, Bool.not_false]) | (refine drawQ (id := 17) mixed [(0, []), (2, []), (3, []), (4, []), (1, []), (5, []), (6, []), (7, [])] (by kernel_rfl) ?_; simp only [go_sem, ebinS, hexP_length, and_false, or_false, not_true_eq_false, w1, w2, w3, w4, w5, w6, hR, Bool.not_false]) | (refine Pure.at (rchar_c _ _ (by rw [List.length_drop]; omega) (by rw [List.length_drop]; omega)) (by simp) (by simp) rfl ?_; (try simp only [go_sem, ebinS, hexP_length, and_false, or_false, not_true_eq_false, w1, w2, w3, w4, w5, w6, hR, Bool.not_false])) | (refine Pure.at (hex_c _ _) (by simp) (by simp) rfl ?_; (try simp only [go_sem, ebinS, hexP_length, and_false, or_false, not_true_eq_false, w1, w2, w3, w4, w5, w6, hR, Bool.not_false])) | (refine Pure.at (rplain_c _ _) (by simp) (by simp) rfl ?_; (try simp only [go_sem, ebinS, hexP_length, and_false, or_false, not_true_eq_false, w1, w2, w3, w4, w5, w6, hR, Bool.not_false])) | (simp only [toNat_addE, add_sub_selfE, hwd]) | (simp (disch := omega) only [wE]) | (refine spl (fun h => ?_) (fun h => ?_) <;> first | (exfalso; omega) | ((try simp only [opRun, opSkip, stepRun, pickZ]); (try simp only [go_sem, ebinS, hexP_length, and_false, or_false, not_true_eq_false, w1, w2, w3, w4, w5, w6, hR, Bool.not_false, h]))) | (refine and_om ?_ ?_; focus omega))
        (refine ⟨(i + (decE (l.drop i)).2, b + 10, (1 : Nat), out ++ ([92, 120] ++ hexP (l.getD i 0))), ?_, ?_, rfl, rfl, ?_, ?_⟩; rotate_left; (focus (first | omega | (simp only []; omega))); (focus (first | (simp only [go_sem, weakL, List.length_append, bytesE_append, List.length_cons, List.length_nil, hexP_length, ← List.append_assoc, ← Nat.add_assoc, bx, bu]; done) | ((try simp only [go_sem, weakL, List.length_append, bytesE_append, List.length_cons, List.length_nil, hexP_length, ← List.append_assoc, ← Nat.add_assoc, bx, bu]); ((repeat' apply And.intro) <;> (first | rfl | trivial | ((try simp only [EV.int.injEq, EV.str.injEq, EV.bool.injEq, EV.tuple.injEq, EV.slice.injEq, List.cons.injEq, true_and, and_true]); first | rfl | omega)))))); (focus (first | trivial | (simp only [go_sem, lessL, List.length_append, bytesE_append, List.length_cons, List.length_nil, hexP_length, ← List.append_assoc, ← Nat.add_assoc, bx, bu]; done) | ((try simp only [go_sem, lessL, List.length_append, bytesE_append, List.length_cons, List.length_nil, hexP_length, ← List.append_assoc, ← Nat.add_assoc, bx, bu]); ((repeat' apply And.intro) <;> (first | rfl | trivial | ((try simp only [EV.int.injEq, EV.str.injEq, EV.bool.injEq, EV.tuple.injEq, EV.slice.injEq, List.cons.injEq, true_and, and_true]); first | rfl | omega)))))); (try simp only []))
        exact ⟨by (simp only [List.length_append, List.length_cons, List.length_nil]; omega), by (simp only [List.length_append, List.length_cons, List.length_nil, hexP_length]; omega), by omega, by simp, by rw [List.append_assoc]; exact z4⟩
    · rw [hq] at z4 hc
      have hcl := hc.2
      (try simp only [List.length_append, List.length_cons, List.length_nil, hexP_length] at hcl)
      rcases z5 with rfl | rfl
      all_goals
        repeat' (first | refine esem_seqK 4722385078377766719741 ?_ | refine esem_block ?_ | (refine stp ?_; simp only [go_sem, ebinS, hexP_length, and_false, or_false, not_true_eq_false, w1, w2, w3, w4, w5, w6, hR, Bool.not_true]) | (refine drawQ (id := 17) mixed [(0, []), (2, []), (3, []), (4, []), (1, []), (5, []), (6, []), (7, [])] (by kernel_rfl) ?_; simp only [go_sem, ebinS, hexP_length, and_false, or_false, not_true_eq_false, w1, w2, w3, w4, w5, w6, hR, Bool.not_true]) | (refine Pure.at (rchar_c _ _ (by rw [List.length_drop]; omega) (by rw [List.length_drop]; omega)) (by simp) (by simp) rfl ?_; (try simp only [go_sem, ebinS, hexP_length, and_false, or_false, not_true_eq_false, w1, w2, w3, w4, w5, w6, hR, Bool.not_true])) | (refine Pure.at (hex_c _ _) (by simp) (by simp) rfl ?_; (try simp only [go_sem, ebinS, hexP_length, and_false, or_false, not_true_eq_false, w1, w2, w3, w4, w5, w6, hR, Bool.not_true])) | (refine Pure.at (rplain_c _ _) (by simp) (by simp) rfl ?_; (try simp only [go_sem, ebinS, hexP_length, and_false, or_false, not_true_eq_false, w1, w2, w3, w4, w5, w6, hR, Bool.not_true])) | (simp only [toNat_addE, add_sub_selfE, hwd]) | (simp (disch := omega) only [wE]) | (refine spl (fun h => ?_) (fun h => ?_) <;> first | (exfalso; omega) | ((try simp only [opRun, opSkip, stepRun, pickZ]); (try simp only [go_sem, ebinS, hexP_length, and_false, or_false, not_true_eq_false, w1, w2, w3, w4, w5, w6, hR, Bool.not_true, h]))) | (refine and_om ?_ ?_; focus omega))
        (refine ⟨(i + (decE (l.drop i)).2, b + 10, (1 : Nat), out ++ ([92, 120] ++ hexP (l.getD i 0))), ?_, ?_, rfl, rfl, ?_, ?_⟩; rotate_left; (focus (first | omega | (simp only []; omega))); (focus (first | (simp only [go_sem, weakL, List.length_append, bytesE_append, List.length_cons, List.length_nil, hexP_length, ← List.append_assoc, ← Nat.add_assoc, bx, bu]; done) | ((try simp only [go_sem, weakL, List.length_append, bytesE_append, List.length_cons, List.length_nil, hexP_length, ← List.append_assoc, ← Nat.add_assoc, bx, bu]); ((repeat' apply And.intro) <;> (first | rfl | trivial | ((try simp only [EV.int.injEq, EV.str.injEq, EV.bool.injEq, EV.tuple.injEq, EV.slice.injEq, List.cons.injEq, true_and, and_true]); first | rfl | omega)))))); (focus (first | trivial | (simp only [go_sem, lessL, List.length_append, bytesE_append, List.length_cons, List.length_nil, hexP_length, ← List.append_assoc, ← Nat.add_assoc, bx, bu]; done) | ((try simp only [go_sem, lessL, List.length_append, bytesE_append, List.length_cons, List.length_nil, hexP_length, ← List.append_assoc, ← Nat.add_assoc, bx, bu]); ((repeat' apply And.intro) <;> (first | rfl | trivial | ((try simp only [EV.int.injEq, EV.str.injEq, EV.bool.injEq, EV.tuple.injEq, EV.slice.injEq, List.cons.injEq, true_and, and_true]); first | rfl | omega)))))); (try simp only []))
        exact ⟨by (simp only [List.length_append, List.length_cons, List.length_nil]; omega), by (simp only [List.length_append, List.length_cons, List.length_nil, hexP_length]; omega), by omega, by simp, by rw [List.append_assoc]; exact z4⟩
    · rw [hq] at z4 hc
      have hcl := hc.2
      (try simp only [List.length_append, List.length_cons, List.length_nil, hexP_length] at hcl)
      rcases z5 with rfl | rfl
      all_goals
        repeat' (first | refine esem_seqK 4722385078377766719741 ?_ | refine esem_block ?_ | (refine stp ?_; simp only [go_sem, ebinS, hexP_length, and_false, or_false, not_true_eq_false, w1, w2, w3, w4, w5, w6, hR, Bool.not_true]) | (refine drawQ (id := 17) mixed [(0, []), (2, []), (3, []), (4, []), (1, []), (5, []), (6, []), (7, [])] (by kernel_rfl) ?_; simp only [go_sem, ebinS, hexP_length, and_false, or_false, not_true_eq_false, w1, w2, w3, w4, w5, w6, hR, Bool.not_true]) | (refine Pure.at (rchar_c _ _ (by rw [List.length_drop]; omega) (by rw [List.length_drop]; omega)) (by simp) (by simp) rfl ?_; (try simp only [go_sem, ebinS, hexP_length, and_false, or_false, not_true_eq_false, w1, w2, w3, w4, w5, w6, hR, Bool.not_true])) | (refine Pure.at (hex_c _ _) (by simp) (by simp) rfl ?_; (try simp only [go_sem, ebinS, hexP_length, and_false, or_false, not_true_eq_false, w1, w2, w3, w4, w5, w6, hR, Bool.not_true])) | (refine Pure.at (rplain_c _ _) (by simp) (by simp) rfl ?_; (try simp only [go_sem, ebinS, hexP_length, and_false, or_false, not_true_eq_false, w1, w2, w3, w4, w5, w6, hR, Bool.not_true])) | (simp only [toNat_addE, add_sub_selfE, hwd]) | (simp (disch := omega) only [wE]) | (refine spl (fun h => ?_) (fun h => ?_) <;> first | (exfalso; omega) | ((try simp only [opRun, opSkip, stepRun, pickZ]); (try simp only [go_sem, ebinS, hexP_length, and_false, or_false, not_true_eq_false, w1, w2, w3, w4, w5, w6, hR, Bool.not_true, h]))) | (refine and_om ?_ ?_; focus omega))
        (refine ⟨(i + (decE (l.drop i)).2, b + 10, (1 : Nat), out ++ ([92, 120] ++ hexP (l.getD i 0))), ?_, ?_, rfl, rfl, ?_, ?_⟩; rotate_left; (focus (first | omega | (simp only []; omega))); (focus (first | (simp only [go_sem, weakL, List.length_append, bytesE_append, List.length_cons, List.length_nil, hexP_length, ← List.append_assoc, ← Nat.add_assoc, bx, bu]; done) | ((try simp only [go_sem, weakL, List.length_append, bytesE_append, List.length_cons, List.length_nil, hexP_length, ← List.append_assoc, ← Nat.add_assoc, bx, bu]); ((repeat' apply And.intro) <;> (first | rfl | trivial | ((try simp only [EV.int.injEq, EV.str.injEq, EV.bool.injEq, EV.tuple.injEq, EV.slice.injEq, List.cons.injEq, true_and, and_true]); first | rfl | omega)))))); (focus (first | trivial | (simp only [go_sem, lessL, List.length_append, bytesE_append, List.length_cons, List.length_nil, hexP_length, ← List.append_assoc, ← Nat.add_assoc, bx, bu]; done) | ((try simp only [go_sem, lessL, List.length_append, bytesE_append, List.length_cons, List.length_nil, hexP_length, ← List.append_assoc, ← Nat.add_assoc, bx, bu]); ((repeat' apply And.intro) <;> (first | rfl | trivial | ((try simp only [EV.int.injEq, EV.str.injEq, EV.bool.injEq, EV.tuple.injEq, EV.slice.injEq, List.cons.injEq, true_and, and_true]); first | rfl | omega)))))); (try simp only []))
        exact ⟨by (simp only [List.length_append, List.length_cons, List.length_nil]; omega), by (simp only [List.length_append, List.length_cons, List.length_nil, hexP_length]; omega), by omega, by simp, by rw [List.append_assoc]; exact z4⟩
    · rw [hq] at z4 hc
      have hcl := hc.2
      (try simp only [List.length_append, List.length_cons, List.length_nil, hexP_length] at hcl)
      rcases z5 with rfl | rfl
      all_goals
        repeat' (first | refine esem_seqK 4722385078377766719741 ?_ | refine esem_block ?_ | (refine stp ?_; simp only [go_sem, ebinS, hexP_length, and_false, or_false, not_true_eq_false, w1, w2, w3, w4, w5, w6, hR, hP, Bool.not_true, Bool.not_false]) | (refine drawQ (id := 17) mixed [(0, []), (2, []), (3, []), (4, []), (1, []), (5, []), (6, []), (7, [])] (by kernel_rfl) ?_; simp only [go_sem, ebinS, hexP_length, and_false, or_false, not_true_eq_false, w1, w2, w3, w4, w5, w6, hR, hP, Bool.not_true, Bool.not_false]) | (refine Pure.at (rchar_c _ _ (by rw [List.length_drop]; omega) (by rw [List.length_drop]; omega)) (by simp) (by simp) rfl ?_; (try simp only [go_sem, ebinS, hexP_length, and_false, or_false, not_true_eq_false, w1, w2, w3, w4, w5, w6, hR, hP, Bool.not_true, Bool.not_false])) | (refine Pure.at (hex_c _ _) (by simp) (by simp) rfl ?_; (try simp only [go_sem, ebinS, hexP_length, and_false, or_false, not_true_eq_false, w1, w2, w3, w4, w5, w6, hR, hP, Bool.not_true, Bool.not_false])) | (refine Pure.at (rplain_c _ _) (by simp) (by simp) rfl ?_; (try simp only [go_sem, ebinS, hexP_length, and_false, or_false, not_true_eq_false, w1, w2, w3, w4, w5, w6, hR, hP, Bool.not_true, Bool.not_false])) | (simp only [toNat_addE, add_sub_selfE, hwd]) | (refine Pure.at (hfm (hnp hP (by omega) (by omega) (by omega) (by omega))) (by simp) (by simp) rfl ?_; (try simp only [go_sem, ebinS, hexP_length, and_false, or_false, not_true_eq_false, w1, w2, w3, w4, w5, w6, hR, hP, Bool.not_true, Bool.not_false])) | (simp (disch := omega) only [wE]) | (refine spl (fun h => ?_) (fun h => ?_) <;> first | (exfalso; omega) | ((try simp only [opRun, opSkip, stepRun, pickZ]); (try simp only [go_sem, ebinS, hexP_length, and_false, or_false, not_true_eq_false, w1, w2, w3, w4, w5, w6, hR, hP, Bool.not_true, Bool.not_false, h]))) | (refine and_om ?_ ?_; focus omega))
        (refine ⟨(i + (decE (l.drop i)).2, b + 4, (1 : Nat), out ++ ([92, 117, 123] ++ hx ++ [125])), ?_, ?_, rfl, rfl, ?_, ?_⟩; rotate_left; (focus (first | omega | (simp only []; omega))); (focus (first | (simp only [go_sem, weakL, List.length_append, bytesE_append, List.length_cons, List.length_nil, hexP_length, ← List.append_assoc, ← Nat.add_assoc, bx, bu]; done) | ((try simp only [go_sem, weakL, List.length_append, bytesE_append, List.length_cons, List.length_nil, hexP_length, ← List.append_assoc, ← Nat.add_assoc, bx, bu]); ((repeat' apply And.intro) <;> (first | rfl | trivial | ((try simp only [EV.int.injEq, EV.str.injEq, EV.bool.injEq, EV.tuple.injEq, EV.slice.injEq, List.cons.injEq, true_and, and_true]); first | rfl | omega)))))); (focus (first | trivial | (simp only [go_sem, lessL, List.length_append, bytesE_append, List.length_cons, List.length_nil, hexP_length, ← List.append_assoc, ← Nat.add_assoc, bx, bu]; done) | ((try simp only [go_sem, lessL, List.length_append, bytesE_append, List.length_cons, List.length_nil, hexP_length, ← List.append_assoc, ← Nat.add_assoc, bx, bu]); ((repeat' apply And.intro) <;> (first | rfl | trivial | ((try simp only [EV.int.injEq, EV.str.injEq, EV.bool.injEq, EV.tuple.injEq, EV.slice.injEq, List.cons.injEq, true_and, and_true]); first | rfl | omega)))))); (try simp only []))
        exact ⟨by (simp only [List.length_append, List.length_cons, List.length_nil]; omega), by (simp only [List.length_append, List.length_cons, List.length_nil, hexP_length]; omega), by omega, by simp, by rw [List.append_assoc]; exact z4⟩
    · rw [hq] at z4 hc
      have hcl := hc.2
      (try simp only [List.length_append, List.length_cons, List.length_nil, hexP_length] at hcl)
      rcases z5 with rfl | rfl
      all_goals
        repeat' (first | refine esem_seqK 4722385078377766719741 ?_ | refine esem_block ?_ | (refine stp ?_; simp only [go_sem, ebinS, hexP_length, and_false, or_false, not_true_eq_false, w1, w2, w3, w4, w5, w6, hR, hP, Bool.not_true, Bool.not_false]) | (refine drawQ (id := 17) mixed [(0, []), (2, []), (3, []), (4, []), (1, []), (5, []), (6, []), (7, [])] (by kernel_rfl) ?_; simp only [go_sem, ebinS, hexP_length, and_false, or_false, not_true_eq_false, w1, w2, w3, w4, w5, w6, hR, hP, Bool.not_true, Bool.not_false]) | (refine Pure.at (rchar_c _ _ (by rw [List.length_drop]; omega) (by rw [List.length_drop]; omega)) (by simp) (by simp) rfl ?_; (try simp only [go_sem, ebinS, hexP_length, and_false, or_false, not_true_eq_false, w1, w2, w3, w4, w5, w6, hR, hP, Bool.not_true, Bool.not_false])) | (refine Pure.at (hex_c _ _) (by simp) (by simp) rfl ?_; (try simp only [go_sem, ebinS, hexP_length, and_false, or_false, not_true_eq_false, w1, w2, w3, w4, w5, w6, hR, hP, Bool.not_true, Bool.not_false])) | (refine Pure.at (rplain_c _ _) (by simp) (by simp) rfl ?_; (try simp only [go_sem, ebinS, hexP_length, and_false, or_false, not_true_eq_false, w1, w2, w3, w4, w5, w6, hR, hP, Bool.not_true, Bool.not_false])) | (simp only [toNat_addE, add_sub_selfE, hwd]) | (simp (disch := omega) only [wE]) | (refine spl (fun h => ?_) (fun h => ?_) <;> first | (exfalso; omega) | ((try simp only [opRun, opSkip, stepRun, pickZ]); (try simp only [go_sem, ebinS, hexP_length, and_false, or_false, not_true_eq_false, w1, w2, w3, w4, w5, w6, hR, hP, Bool.not_true, Bool.not_false, h]))) | (refine and_om ?_ ?_; focus omega))
        (refine ⟨(i + (decE (l.drop i)).2, b + 1, (1 : Nat), out ++ (wd)), ?_, ?_, rfl, rfl, ?_, ?_⟩; rotate_left; (focus (first | omega | (simp only []; omega))); (focus (first | (simp only [go_sem, weakL, List.length_append, bytesE_append, List.length_cons, List.length_nil, hexP_length, ← List.append_assoc, ← Nat.add_assoc, bx, bu]; done) | ((try simp only [go_sem, weakL, List.length_append, bytesE_append, List.length_cons, List.length_nil, hexP_length, ← List.append_assoc, ← Nat.add_assoc, bx, bu]); ((repeat' apply And.intro) <;> (first | rfl | trivial | ((try simp only [EV.int.injEq, EV.str.injEq, EV.bool.injEq, EV.tuple.injEq, EV.slice.injEq, List.cons.injEq, true_and, and_true]); first | rfl | omega)))))); (focus (first | trivial | (simp only [go_sem, lessL, List.length_append, bytesE_append, List.length_cons, List.length_nil, hexP_length, ← List.append_assoc, ← Nat.add_assoc, bx, bu]; done) | ((try simp only [go_sem, lessL, List.length_append, bytesE_append, List.length_cons, List.length_nil, hexP_length, ← List.append_assoc, ← Nat.add_assoc, bx, bu]); ((repeat' apply And.intro) <;> (first | rfl | trivial | ((try simp only [EV.int.injEq, EV.str.injEq, EV.bool.injEq, EV.tuple.injEq, EV.slice.injEq, List.cons.injEq, true_and, and_true]); first | rfl | omega)))))); (try simp only []))
        exact ⟨by (simp only [List.length_append, List.length_cons, List.length_nil]; omega), by (simp only [List.length_append, List.length_cons, List.length_nil, hexP_length]; omega), by omega, by simp, by rw [List.append_assoc]; exact z4⟩
  · rw [quoL_end (by omega)] at z4
    rcases z5 with rfl | rfl
    all_goals
      repeat' (first | refine esem_seqK 4722385078377766719741 ?_ | refine esem_block ?_ | (refine stp ?_; simp only [go_sem, and_false, or_false, true_or, not_true_eq_false]) | (refine drawQ (id := 17) mixed [(0, []), (2, []), (3, []), (4, []), (1, []), (5, []), (6, []), (7, [])] (by kernel_rfl) ?_; simp only [go_sem, and_false, or_false, true_or, not_true_eq_false]) | (simp (disch := omega) only [wE]) | (refine spl (fun h => ?_) (fun h => ?_) <;> first | (exfalso; omega) | ((try simp only [opRun, opSkip, stepRun, pickZ]); (try simp only [go_sem, and_false, or_false, true_or, not_true_eq_false, h]))) | (refine and_om ?_ ?_; focus omega))
    all_goals
      rw [show bytesE out ++ [EV.int IntKind.u8 34] = bytesE (out ++ [34]) from by rw [bytesE_append]; rfl, show out.length + 1 = (out ++ [34]).length from by rw [List.length_append]; rfl, take_bytesE (out ++ [34])]
      refine ⟨⟨by rw [bytesE_length]; exact Nat.le_refl _, isU8_bytesE _⟩, ?_⟩
      rw [unbytes_bytesE]
      refine esem_ret ?_
      simp only [go_sem]
      rw [z4]
      (refine done_zero (by simp [EV.bel, allBelow]) ?_; rw [hV])
end Go.Proofs.YtnjbdcdjcfhooaaGreatDoor
namespace Go.Proofs.YtnjbdcdjcfhooaaGreatDoor
open Go.E Go.ChangeShapes Go.WideShapes Go.ChangeAt Go.RowKit
set_option linter.all false
set_option maxRecDepth 20000
set_option maxHeartbeats 8000000
theorem rnumber_is (l : List UInt8) : ∃ n : Nat, rnumberE l = .tuple [.int .i64 n, .bool (isNum l).isSome] := by
  unfold rnumberE isNum
  cases h : numL 0 l with
  | none => exact ⟨0, rfl⟩
  | some n =>
    refine ⟨n, ?_⟩
    simp only
    by_cases h0 : l = [] ∨ (1 < l.length ∧ (l.getD 0 0).toNat = 48)
    · rw [if_pos h0, decide_eq_false]; · rfl
      rcases h0 with rfl | h0
      · simp
      · omega
    · rw [if_neg h0, decide_eq_true]; · rfl
      have : l.length ≠ 0 := fun h => h0 (.inl (List.length_eq_zero_iff.1 h))
      by_cases h1 : l.length = 1
      · exact .inl h1
      · exact .inr ⟨by omega, fun h2 => h0 (.inr ⟨by omega, h2⟩)⟩
theorem prS_word {t : Tok} (h : t.kind = 1) : (prS t).2 = (decide (t.text ≠ []) && !(isNum t.text).isSome && t.text.all runB && decide (t.num = 0)) := by
  unfold prS wordB
  rw [if_pos h]
  cases isNum t.text <;> rfl
theorem may_c (G : List Gl) (t : Tok) (h63 : t.text.length ≤ 1000000000000) : E.Pure G Tryz.prog 88 [.agg (tkE t)] (.bool (prS t).2) := by
  refine pure_hid fun V hV => ?_
  have nm := rnumber_c G t.text (by omega)
  obtain ⟨n, hn⟩ := rnumber_is t.text
  rw [hn] at nm
  refine ecalls_in 57 [.tmp 2] Tryz.func88 rfl rfl rfl (by kernel_rfl) (le_ble rfl) ?_
  repeat' (first | refine esem_seqK 4507997678092719 ?_ | refine esem_block ?_ | (refine stp ?_; simp only [go_sem]) | (simp (disch := omega) only [wE]) | (refine spl (fun h => ?_) (fun h => ?_) <;> first | (exfalso; omega) | ((try simp only [opRun, opSkip, stepRun, pickZ]); (try simp only [go_sem, h]))) | (refine and_om ?_ ?_; focus omega))
  · rw [prS_word (by omega)] at hV
    generalize (isNum t.text).isSome = q at nm hV
    refine esem_loopS (fun z : Nat => [(1, .ptr (some ⟨0, 0⟩)), (3, .int .i64 z)]) (fun z : Nat => [(0, .cells (tkE t) 72 0 true 0)]) (fun z : Nat => 1) (fun z : Nat => z ≤ t.text.length ∧ (t.text.take z).all runB = true) (fun z : Nat => t.text.length - z) ((0 : Nat)) (fun z hz => ⟨by simp [frBel], by first | trivial | simp, by first | exact Nat.le_refl _ | exact Nat.zero_le _ | omega | (simp only []; omega)⟩) (by exact ⟨Nat.zero_le _, rfl⟩) (by first | (simp only [go_sem, weakL]; done) | ((try simp only [go_sem, weakL]); ((repeat' apply And.intro) <;> (first | rfl | trivial | ((try simp only [EV.int.injEq, EV.str.injEq, EV.bool.injEq, EV.tuple.injEq, EV.slice.injEq, List.cons.injEq, true_and, and_true]); first | rfl | omega))))) (by first | trivial | (simp only [go_sem, lessL]; done) | ((try simp only [go_sem, lessL]); ((repeat' apply And.intro) <;> (first | rfl | trivial | ((try simp only [EV.int.injEq, EV.str.injEq, EV.bool.injEq, EV.tuple.injEq, EV.slice.injEq, List.cons.injEq, true_and, and_true]); first | rfl | omega))))) ?_
    rintro i ⟨z1, z2⟩
    try simp only at z1 z2
    try simp only []
    by_cases hi : i < t.text.length
    · have rc := rrun_c G (t.text.getD i 0)
      have hts : t.text.take (i + 1) = t.text.take i ++ [t.text.getD i 0] := by
        rw [List.take_succ, List.getElem?_eq_getElem hi, List.getD_eq_getElem?_getD, List.getElem?_eq_getElem hi]; rfl
      have hno : runB (t.text.getD i 0) = false → t.text.all runB = false := fun h => by
        rw [List.all_eq_false]
        refine ⟨t.text.getD i 0, ?_, by rw [h]; simp⟩
        rw [List.getD_eq_getElem?_getD, List.getElem?_eq_getElem hi]; exact List.getElem_mem hi
      cases hr : runB (t.text.getD i 0) with
      | false =>
        rw [hr] at rc
        rw [hno hr] at hV
        simp only [Bool.and_false, Bool.false_and] at hV
        repeat' (first | refine esem_seqK 4507997678092719 ?_ | refine esem_block ?_ | (refine stp ?_; simp only [go_sem]) | (refine Pure.at (rc) (by simp) (by simp) rfl ?_; (try simp only [go_sem])) | (simp (disch := omega) only [wE]) | (refine spl (fun h => ?_) (fun h => ?_) <;> first | (exfalso; omega) | ((try simp only [opRun, opSkip, stepRun, pickZ]); (try simp only [go_sem, h]))) | (refine and_om ?_ ?_; focus omega))
        all_goals (refine done_zero (by simp [EV.bel, allBelow]) ?_; rw [hV])
      | true =>
        rw [hr] at rc
        repeat' (first | refine esem_seqK 4507997678092719 ?_ | refine esem_block ?_ | (refine stp ?_; simp only [go_sem]) | (refine Pure.at (rc) (by simp) (by simp) rfl ?_; (try simp only [go_sem])) | (simp (disch := omega) only [wE]) | (refine spl (fun h => ?_) (fun h => ?_) <;> first | (exfalso; omega) | ((try simp only [opRun, opSkip, stepRun, pickZ]); (try simp only [go_sem, h]))) | (refine and_om ?_ ?_; focus omega))
        (refine ⟨(i + 1), ?_, ?_, rfl, rfl, ?_, ?_⟩; rotate_left; (focus (first | omega | (simp only []; omega))); (focus (first | (simp only [go_sem, weakL]; done) | ((try simp only [go_sem, weakL]); ((repeat' apply And.intro) <;> (first | rfl | trivial | ((try simp only [EV.int.injEq, EV.str.injEq, EV.bool.injEq, EV.tuple.injEq, EV.slice.injEq, List.cons.injEq, true_and, and_true]); first | rfl | omega)))))); (focus (first | trivial | (simp only [go_sem, lessL]; done) | ((try simp only [go_sem, lessL]); ((repeat' apply And.intro) <;> (first | rfl | trivial | ((try simp only [EV.int.injEq, EV.str.injEq, EV.bool.injEq, EV.tuple.injEq, EV.slice.injEq, List.cons.injEq, true_and, and_true]); first | rfl | omega)))))); (try simp only []))
        exact ⟨by omega, by rw [hts, List.all_append, z2, List.all_cons, List.all_nil, hr]; rfl⟩
    · obtain rfl : i = t.text.length := by omega
      rw [List.take_length] at z2
      rw [z2] at hV
      have h0 : (decide (t.text ≠ [])) = decide (t.text.length > 0) := by
        cases t.text <;> simp
      rw [h0] at hV
      by_cases hl : t.text.length > 0
      · rw [decide_eq_true hl] at hV
        by_cases hm : t.num = 0
        · rw [decide_eq_true hm] at hV
          cases q
          · repeat' (first | refine esem_seqK 4507997678092719 ?_ | refine esem_block ?_ | (refine stp ?_; simp only [go_sem]) | (refine Pure.at (nm) (by simp) (by simp) rfl ?_; (try simp only [go_sem])) | (simp (disch := omega) only [wE]) | (refine spl (fun h => ?_) (fun h => ?_) <;> first | (exfalso; omega) | ((try simp only [opRun, opSkip, stepRun, pickZ]); (try simp only [go_sem, h]))) | (refine and_om ?_ ?_; focus omega))
            all_goals ((refine done_zero (by simp [EV.bel, allBelow]) ?_; rw [hV]); first | rfl | simp [hm])
          · repeat' (first | refine esem_seqK 4507997678092719 ?_ | refine esem_block ?_ | (refine stp ?_; simp only [go_sem]) | (refine Pure.at (nm) (by simp) (by simp) rfl ?_; (try simp only [go_sem])) | (simp (disch := omega) only [wE]) | (refine spl (fun h => ?_) (fun h => ?_) <;> first | (exfalso; omega) | ((try simp only [opRun, opSkip, stepRun, pickZ]); (try simp only [go_sem, h]))) | (refine and_om ?_ ?_; focus omega))
            all_goals ((refine done_zero (by simp [EV.bel, allBelow]) ?_; rw [hV]); first | rfl | simp [hm])
        · rw [decide_eq_false hm] at hV
          cases q
          · repeat' (first | refine esem_seqK 4507997678092719 ?_ | refine esem_block ?_ | (refine stp ?_; simp only [go_sem]) | (refine Pure.at (nm) (by simp) (by simp) rfl ?_; (try simp only [go_sem])) | (simp (disch := omega) only [wE]) | (refine spl (fun h => ?_) (fun h => ?_) <;> first | (exfalso; omega) | ((try simp only [opRun, opSkip, stepRun, pickZ]); (try simp only [go_sem, h]))) | (refine and_om ?_ ?_; focus omega))
            all_goals ((refine done_zero (by simp [EV.bel, allBelow]) ?_; rw [hV]); first | rfl | simp [hm])
          · repeat' (first | refine esem_seqK 4507997678092719 ?_ | refine esem_block ?_ | (refine stp ?_; simp only [go_sem]) | (refine Pure.at (nm) (by simp) (by simp) rfl ?_; (try simp only [go_sem])) | (simp (disch := omega) only [wE]) | (refine spl (fun h => ?_) (fun h => ?_) <;> first | (exfalso; omega) | ((try simp only [opRun, opSkip, stepRun, pickZ]); (try simp only [go_sem, h]))) | (refine and_om ?_ ?_; focus omega))
            all_goals ((refine done_zero (by simp [EV.bel, allBelow]) ?_; rw [hV]); first | rfl | simp [hm])
      · rw [decide_eq_false hl] at hV
        repeat' (first | refine esem_seqK 4507997678092719 ?_ | refine esem_block ?_ | (refine stp ?_; simp only [go_sem]) | (refine Pure.at (nm) (by simp) (by simp) rfl ?_; (try simp only [go_sem])) | (simp (disch := omega) only [wE]) | (refine spl (fun h => ?_) (fun h => ?_) <;> first | (exfalso; omega) | ((try simp only [opRun, opSkip, stepRun, pickZ]); (try simp only [go_sem, h]))) | (refine and_om ?_ ?_; focus omega))
        all_goals ((refine done_zero (by simp [EV.bel, allBelow]) ?_; rw [hV]); simp)
  all_goals ((refine done_zero (by simp [EV.bel, allBelow]) ?_; rw [hV]); unfold prS)
  · rename_i k1 k2
    rw [if_neg (by omega), if_pos (by omega), decide_eq_true h, decide_eq_true (by omega)]
  · rename_i k1 k2
    rw [if_neg (by omega), if_pos (by omega), decide_eq_false h]
  · rename_i k1 k2
    rw [if_neg (by omega), if_neg (by omega), if_pos (by omega)]
    simp only [EV.bool.injEq, decide_eq_decide]; omega
  · rename_i k1 k2
    rw [if_neg (by omega), if_neg (by omega), if_neg (by omega)]
theorem rname_c (G : List Gl) (s : List UInt8) (h63 : s.length ≤ 1000000000000) : E.Pure G Tryz.prog 87 [.str s] (.agg (tkE (nameT s))) := by
  refine pure_hid fun V hV => ?_
  have mc := may_c G ⟨1, 0, s, 0⟩ h63
  have hp : (prS ⟨1, 0, s, 0⟩).2 = wordB s := by unfold prS; simp
  rw [hp] at mc
  unfold nameT at hV
  cases hw : wordB s with
  | true =>
    rw [hw] at mc
    rw [hw, if_pos rfl] at hV
    refine ecalls_in 11 [.cell 2 72] Tryz.func87 rfl rfl rfl (by kernel_rfl) (le_ble rfl) ?_
    repeat' (first | refine esem_seqK 269 ?_ | refine esem_block ?_ | (refine stp ?_; simp only [go_sem]) | (refine Pure.at (mc) (by simp) (by simp) rfl ?_; (try simp only [go_sem])) | (simp (disch := omega) only [wE]) | (refine spl (fun h => ?_) (fun h => ?_) <;> first | (exfalso; omega) | ((try simp only [opRun, opSkip, stepRun, pickZ]); (try simp only [go_sem, h]))) | (refine and_om ?_ ?_; focus omega))
    all_goals ((refine done_zero (by simp [EV.bel, allBelow]) ?_; rw [hV]); rfl)
  | false =>
    rw [hw] at mc
    rw [hw, if_neg (by simp)] at hV
    refine ecalls_in 11 [.cell 2 72] Tryz.func87 rfl rfl rfl (by kernel_rfl) (le_ble rfl) ?_
    repeat' (first | refine esem_seqK 269 ?_ | refine esem_block ?_ | (refine stp ?_; simp only [go_sem]) | (refine Pure.at (mc) (by simp) (by simp) rfl ?_; (try simp only [go_sem])) | (simp (disch := omega) only [wE]) | (refine spl (fun h => ?_) (fun h => ?_) <;> first | (exfalso; omega) | ((try simp only [opRun, opSkip, stepRun, pickZ]); (try simp only [go_sem, h]))) | (refine and_om ?_ ?_; focus omega))
    all_goals ((refine done_zero (by simp [EV.bel, allBelow]) ?_; rw [hV]); rfl)
end Go.Proofs.YtnjbdcdjcfhooaaGreatDoor
namespace Go.Proofs.YtnjbdcdjcfhooaaGreatDoor
open Go.E Go.ChangeShapes Go.WideShapes Go.ChangeAt Go.RowKit
set_option linter.all false
set_option maxRecDepth 20000
set_option maxHeartbeats 8000000
end Go.Proofs.YtnjbdcdjcfhooaaGreatDoor
