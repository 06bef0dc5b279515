/-
  Own work: walks and laws of the functions that the statement reaches; the statement itself stands in the last text.
-/
import Derived.Test.YtnjbdcdjcfhooaaGreatDoorHv
namespace Go.Proofs.YtnjbdcdjcfhooaaGreatDoor
open Go.E Go.ChangeShapes Go.WideShapes Go.ChangeAt Go.RowKit
set_option linter.all false
set_option maxRecDepth 20000
set_option maxHeartbeats 8000000
theorem saidN (G : List Gl) (t u tz : TypeId) (v : List Value) (h3 : gFirst t ∈ G) (h4 : gAcc u ∈ G) (hv : v[15]? = some (.int .u8 4)) (hG : gTz v tz ∈ G) (s : List UInt8) (h63 : s.length ≤ 1000000000000) : (tkE (nameT s) = woE s ∨ tkE (nameT s) = quE s) ∧ E.Pure G Tryz.prog 40 [.agg (tkE (nameT s))] (.str (namesS s)) := by
  unfold namesS nameT
  cases hw : wordB s with
  | true => rw [if_pos rfl, if_pos rfl]; exact ⟨.inl rfl, said_word G s⟩
  | false => rw [if_neg (by simp), if_neg (by simp)]; exact ⟨.inr rfl, said_text G t u tz v h3 h4 hv hG s h63⟩
theorem show_na (G : List Gl) (t u tz tp : TypeId) (v : List Value) (h3 : gFirst t ∈ G) (h4 : gAcc u ∈ G) (hv : v[15]? = some (.int .u8 4)) (hG : gTz v tz ∈ G) (hp : gPow tp ∈ G) (c : Cmd) (hc : c.kind = 20) (r : Rp) (he : r.err = 0) (mk cu : EV) (m1 : mk.one = true) (c1 : cu.one = true)  (ms : List Mk) (cs : List Cu) (ns : List (List UInt8)) (hm : ∀ m ∈ ns, m.length ≤ 1048577) (n ty z : Nat) (wr : Bool) (hn : ns.length = n) (hN : n ≤ 1048577) :
    Eff G Tryz.prog 17 [.agg (cmdE c), .agg (rpE r mk cu (.slice (some ⟨2, 0⟩) n n))] [(2, .cells (strsE ns) ty z wr 0)] 3 (.str (showL c.kind r ms cs ns)) [(2, .cells (strsE ns) ty z wr 0)] 3 := by
  have e : showL c.kind r ms cs ns = joinS (ns.map namesS) := by unfold showL; rw [hc]; simp [he]
  rw [e]
  unfold Eff
  obtain ⟨k, d, id, fr, to, tx, g⟩ := c
  obtain ⟨err, num, line, col, text, found, frm, rto, st⟩ := r
  simp only at he hc
  subst he hc
  subst hn
  clear e
  have hlen : (ns.map namesS).length = ns.length := List.length_map ..
  refine ecalls_in 132 [.tmp 4] Tryz.func17 rfl rfl rfl (by kernel_rfl) (le_ble rfl) ?_
  repeat' (first | refine esem_seqK 373922066680392647905437741317376703 ?_ | refine esem_block ?_ | (refine stp ?_; simp only [go_sem]) | (refine drawQ (id := 19) mixed [(0, []), (1, []), (4, []), (10, []), (2, []), (3, []), (5, []), (11, []), (12, []), (6, []), (7, [11]), (8, []), (9, [11]), (13, []), (14, []), (15, []), (16, []), (17, []), (18, [])] (by kernel_rfl) ?_; simp only [go_sem]) | (refine and_om ?_ ?_; focus (simp only [EV.one] at m1 c1; simp [m1, c1]; done)) | (simp (disch := omega) only [wE]) | (refine spl (fun h => ?_) (fun h => ?_) <;> first | (exfalso; omega) | ((try simp only [opRun, opSkip, stepRun, pickZ]); (try simp only [go_sem, h]))) | (refine and_om ?_ ?_; focus omega))
  clear m1 c1
  refine esem_loopS (fun x : Nat × Nat => [(5, accE (x.2 + 5) x.1), (102, .slice (some ⟨2, 0⟩) ns.length ns.length), (103, .int .i64 ns.length), (104, .int .i64 x.1)]) (fun x => (2, .cells (strsE ns) ty z wr 0) :: accB (x.2 + 5) (strsE ((ns.map namesS).take x.1)) 9 1) (fun x => x.2 + 6) (fun x => x.1 ≤ ns.length) (fun x => ns.length - x.1) ((0 : Nat), (0 : Nat))
    (fun x hx => ⟨by simp [frBel, EV.bel, allBelow], ⟨by omega, by simp [EO.bel], accB_below (by omega) (by simp)⟩, by omega⟩) (Nat.zero_le _) (by simp only [go_sem, weakL, accE_zero]) (by simp only [go_sem, lessL, List.take_zero, strsE_nil, accB_nil]) ?_
  rintro ⟨i, b⟩ z1
  simp only at z1
  simp only []
  by_cases hi : i < ns.length
  · have hst := strsE_step (ps := ns.map namesS) (i := i) (by omega)
    have hx : (ns.map namesS).getD i [] = namesS (ns.getD i []) := by
      skip
      rw [List.getD_eq_getElem?_getD, List.getD_eq_getElem?_getD, List.getElem?_map, List.getElem?_eq_getElem hi]; rfl
    have hln := strsE_len (ps := ns.map namesS) (i := i) (by omega)
    have htk := strsE_take (ns.map namesS) i (by omega)
    rw [hx] at hst
    have hua : (strsE ns)[i]? = some (.str (ns.getD i [])) := strs_get hi
    have hml : (strsE ns).length = ns.length := by simp [strsE]
    have hk : (ns.getD i []).length ≤ 1048577 := by
      rw [List.getD_eq_getElem?_getD, List.getElem?_eq_getElem hi]; exact hm _ (List.getElem_mem hi)
    clear hx
    generalize ns.getD i [] = m at hk hua hst
    have q2 : 2 < b + 6 := by omega
    have nc := name_c G t u tz tp v h3 h4 hv hG hp m (by omega)
    obtain ⟨sh, sd⟩ := saidN G t u tz v h3 h4 hv hG m (by omega)
    generalize tkE (nameT m) = sv at nc sh sd
    generalize namesS m = rs at hst sd
    by_cases h0 : i = 0
    · subst h0
      have hs1 : strsE ((ns.map namesS).take 1) = [.str (rs)] := hst
      simp only [accE_zero, List.take_zero, strsE_nil, accB_nil]
      rcases sh with rfl | rfl
      · repeat' (first | refine esem_seqK 373922066680392647905437741317376703 ?_ | refine esem_block ?_ | (refine stp ?_; simp only [go_sem, hua, EV.one, if_pos q2, q2]) | (refine drawQ (id := 19) mixed [(0, []), (1, []), (4, []), (10, []), (2, []), (3, []), (5, []), (11, []), (12, []), (6, []), (7, [11]), (8, []), (9, [11]), (13, []), (14, []), (15, []), (16, []), (17, []), (18, [])] (by kernel_rfl) ?_; simp only [go_sem, hua, EV.one, if_pos q2, q2]) | (refine Pure.at (nc) (by simp) (by simp) rfl ?_; (try simp only [go_sem, hua, EV.one, if_pos q2, q2])) | (refine Pure.at (sd) (by simp) (by simp) rfl ?_; (try simp only [go_sem, hua, EV.one, if_pos q2, q2])) | (refine and_om ?_ ?_; focus (simp only [List.length_append, List.length_cons, List.length_nil]; omega)) | (simp (disch := omega) only [wE]) | (refine spl (fun h => ?_) (fun h => ?_) <;> first | (exfalso; omega) | ((try simp only [opRun, opSkip, stepRun, pickZ]); (try simp only [go_sem, hua, EV.one, if_pos q2, q2, h]))) | (refine and_om ?_ ?_; focus omega))
        all_goals
          (refine ⟨(1, b + 2), ?_, ?_, rfl, rfl, ?_, ?_⟩; rotate_left; (focus (first | omega | (simp only []; omega))); (focus (first | (simp only [go_sem, weakL, hs1, accE_one, accB_cons]; done) | ((try simp only [go_sem, weakL, hs1, accE_one, accB_cons]); ((repeat' apply And.intro) <;> (first | rfl | trivial | ((try simp only [EV.int.injEq, EV.str.injEq, EV.bool.injEq, EV.tuple.injEq, EV.slice.injEq, List.cons.injEq, true_and, and_true]); first | rfl | omega)))))); (focus (first | trivial | (simp only [go_sem, lessL, hs1, accE_one, accB_cons]; done) | ((try simp only [go_sem, lessL, hs1, accE_one, accB_cons]); ((repeat' apply And.intro) <;> (first | rfl | trivial | ((try simp only [EV.int.injEq, EV.str.injEq, EV.bool.injEq, EV.tuple.injEq, EV.slice.injEq, List.cons.injEq, true_and, and_true]); first | rfl | omega)))))); (try simp only []))
          omega
      · repeat' (first | refine esem_seqK 373922066680392647905437741317376703 ?_ | refine esem_block ?_ | (refine stp ?_; simp only [go_sem, hua, EV.one, if_pos q2, q2]) | (refine drawQ (id := 19) mixed [(0, []), (1, []), (4, []), (10, []), (2, []), (3, []), (5, []), (11, []), (12, []), (6, []), (7, [11]), (8, []), (9, [11]), (13, []), (14, []), (15, []), (16, []), (17, []), (18, [])] (by kernel_rfl) ?_; simp only [go_sem, hua, EV.one, if_pos q2, q2]) | (refine Pure.at (nc) (by simp) (by simp) rfl ?_; (try simp only [go_sem, hua, EV.one, if_pos q2, q2])) | (refine Pure.at (sd) (by simp) (by simp) rfl ?_; (try simp only [go_sem, hua, EV.one, if_pos q2, q2])) | (refine and_om ?_ ?_; focus (simp only [List.length_append, List.length_cons, List.length_nil]; omega)) | (simp (disch := omega) only [wE]) | (refine spl (fun h => ?_) (fun h => ?_) <;> first | (exfalso; omega) | ((try simp only [opRun, opSkip, stepRun, pickZ]); (try simp only [go_sem, hua, EV.one, if_pos q2, q2, h]))) | (refine and_om ?_ ?_; focus omega))
        all_goals
          (refine ⟨(1, b + 2), ?_, ?_, rfl, rfl, ?_, ?_⟩; rotate_left; (focus (first | omega | (simp only []; omega))); (focus (first | (simp only [go_sem, weakL, hs1, accE_one, accB_cons]; done) | ((try simp only [go_sem, weakL, hs1, accE_one, accB_cons]); ((repeat' apply And.intro) <;> (first | rfl | trivial | ((try simp only [EV.int.injEq, EV.str.injEq, EV.bool.injEq, EV.tuple.injEq, EV.slice.injEq, List.cons.injEq, true_and, and_true]); first | rfl | omega)))))); (focus (first | trivial | (simp only [go_sem, lessL, hs1, accE_one, accB_cons]; done) | ((try simp only [go_sem, lessL, hs1, accE_one, accB_cons]); ((repeat' apply And.intro) <;> (first | rfl | trivial | ((try simp only [EV.int.injEq, EV.str.injEq, EV.bool.injEq, EV.tuple.injEq, EV.slice.injEq, List.cons.injEq, true_and, and_true]); first | rfl | omega)))))); (try simp only []))
          omega
    · rw [accE_pos (by omega), accB_pos (by omega)]
      rcases sh with rfl | rfl
      · repeat' (first | refine esem_seqK 373922066680392647905437741317376703 ?_ | refine esem_block ?_ | (refine stp ?_; simp only [go_sem, hua, EV.one, htk, hln, if_pos q2, q2]) | (refine drawQ (id := 19) mixed [(0, []), (1, []), (4, []), (10, []), (2, []), (3, []), (5, []), (11, []), (12, []), (6, []), (7, [11]), (8, []), (9, [11]), (13, []), (14, []), (15, []), (16, []), (17, []), (18, [])] (by kernel_rfl) ?_; simp only [go_sem, hua, EV.one, htk, hln, if_pos q2, q2]) | (refine Pure.at (nc) (by simp) (by simp) rfl ?_; (try simp only [go_sem, hua, EV.one, htk, hln, if_pos q2, q2])) | (refine Pure.at (sd) (by simp) (by simp) rfl ?_; (try simp only [go_sem, hua, EV.one, htk, hln, if_pos q2, q2])) | (refine and_om ?_ ?_; focus (simp only [List.length_append, List.length_cons, List.length_nil]; omega)) | (simp (disch := omega) only [wE]) | (refine spl (fun h => ?_) (fun h => ?_) <;> first | (exfalso; omega) | ((try simp only [opRun, opSkip, stepRun, pickZ]); (try simp only [go_sem, hua, EV.one, htk, hln, if_pos q2, q2, h]))) | (refine and_om ?_ ?_; focus omega))
        all_goals
          (refine ⟨(i + 1, b + 2), ?_, ?_, rfl, rfl, ?_, ?_⟩; rotate_left; (focus (first | omega | (simp only []; omega))); (focus (first | (simp only [go_sem, weakL, hst, accE_add1, accB_app]; done) | ((try simp only [go_sem, weakL, hst, accE_add1, accB_app]); ((repeat' apply And.intro) <;> (first | rfl | trivial | ((try simp only [EV.int.injEq, EV.str.injEq, EV.bool.injEq, EV.tuple.injEq, EV.slice.injEq, List.cons.injEq, true_and, and_true]); first | rfl | omega)))))); (focus (first | trivial | (simp only [go_sem, lessL, hst, accE_add1, accB_app]; done) | ((try simp only [go_sem, lessL, hst, accE_add1, accB_app]); ((repeat' apply And.intro) <;> (first | rfl | trivial | ((try simp only [EV.int.injEq, EV.str.injEq, EV.bool.injEq, EV.tuple.injEq, EV.slice.injEq, List.cons.injEq, true_and, and_true]); first | rfl | omega)))))); (try simp only []))
          omega
      · repeat' (first | refine esem_seqK 373922066680392647905437741317376703 ?_ | refine esem_block ?_ | (refine stp ?_; simp only [go_sem, hua, EV.one, htk, hln, if_pos q2, q2]) | (refine drawQ (id := 19) mixed [(0, []), (1, []), (4, []), (10, []), (2, []), (3, []), (5, []), (11, []), (12, []), (6, []), (7, [11]), (8, []), (9, [11]), (13, []), (14, []), (15, []), (16, []), (17, []), (18, [])] (by kernel_rfl) ?_; simp only [go_sem, hua, EV.one, htk, hln, if_pos q2, q2]) | (refine Pure.at (nc) (by simp) (by simp) rfl ?_; (try simp only [go_sem, hua, EV.one, htk, hln, if_pos q2, q2])) | (refine Pure.at (sd) (by simp) (by simp) rfl ?_; (try simp only [go_sem, hua, EV.one, htk, hln, if_pos q2, q2])) | (refine and_om ?_ ?_; focus (simp only [List.length_append, List.length_cons, List.length_nil]; omega)) | (simp (disch := omega) only [wE]) | (refine spl (fun h => ?_) (fun h => ?_) <;> first | (exfalso; omega) | ((try simp only [opRun, opSkip, stepRun, pickZ]); (try simp only [go_sem, hua, EV.one, htk, hln, if_pos q2, q2, h]))) | (refine and_om ?_ ?_; focus omega))
        all_goals
          (refine ⟨(i + 1, b + 2), ?_, ?_, rfl, rfl, ?_, ?_⟩; rotate_left; (focus (first | omega | (simp only []; omega))); (focus (first | (simp only [go_sem, weakL, hst, accE_add1, accB_app]; done) | ((try simp only [go_sem, weakL, hst, accE_add1, accB_app]); ((repeat' apply And.intro) <;> (first | rfl | trivial | ((try simp only [EV.int.injEq, EV.str.injEq, EV.bool.injEq, EV.tuple.injEq, EV.slice.injEq, List.cons.injEq, true_and, and_true]); first | rfl | omega)))))); (focus (first | trivial | (simp only [go_sem, lessL, hst, accE_add1, accB_app]; done) | ((try simp only [go_sem, lessL, hst, accE_add1, accB_app]); ((repeat' apply And.intro) <;> (first | rfl | trivial | ((try simp only [EV.int.injEq, EV.str.injEq, EV.bool.injEq, EV.tuple.injEq, EV.slice.injEq, List.cons.injEq, true_and, and_true]); first | rfl | omega)))))); (try simp only []))
          omega
  · obtain rfl : i = ns.length := by omega
    have hle := join_lenS 8388618 [44, 32] (ns.map namesS) (fun p hp => by
      obtain ⟨m, hm1, rfl⟩ := List.mem_map.1 hp
      exact (by have := namesS_len m; have := hm m hm1; omega))
    rw [hlen] at hle
    simp only [List.length_cons, List.length_nil] at hle
    have ht : (ns.map namesS).take ns.length = ns.map namesS := List.take_of_length_le (by omega)
    rw [ht]
    by_cases h0 : ns.length = 0
    · have jc := joined_0 G
      have : ns = [] := List.length_eq_zero_iff.1 h0
      subst this
      rw [show joinS ([].map namesS) = [110, 111, 110, 101] from rfl]
      simp only [List.length_nil, accE_zero, List.map_nil, strsE_nil, accB_nil]
      repeat' (first | refine esem_seqK 373922066680392647905437741317376703 ?_ | refine esem_block ?_ | (refine stp ?_; simp only [go_sem]) | (refine drawQ (id := 19) mixed [(0, []), (1, []), (4, []), (10, []), (2, []), (3, []), (5, []), (11, []), (12, []), (6, []), (7, [11]), (8, []), (9, [11]), (13, []), (14, []), (15, []), (16, []), (17, []), (18, [])] (by kernel_rfl) ?_; simp only [go_sem]) | (refine Pure.at (jc) (by simp) (by simp) rfl ?_; (try simp only [go_sem])) | (simp (disch := omega) only [wE]) | (refine spl (fun h => ?_) (fun h => ?_) <;> first | (exfalso; omega) | ((try simp only [opRun, opSkip, stepRun, pickZ]); (try simp only [go_sem, h]))) | (refine and_om ?_ ?_; focus omega))
      all_goals exact done_ef2 [] (by simp) rfl (by simp [mA]) (by simp [bC])
    · have jc := joined_c G (ns.map namesS) ns.length 1 hlen (by omega) (by omega) (by omega)
      have hne : ns.map namesS ≠ [] := fun h => h0 (by rw [← hlen, h]; rfl)
      have hsl : (strsE (ns.map namesS)).length = ns.length := by simp [strsE]
      rw [accE_pos (by omega), accB_pos (by omega), joinS, if_neg hne]
      generalize Lib.join (ns.map namesS) [44, 32] = J at jc
      repeat' (first | refine esem_seqK 373922066680392647905437741317376703 ?_ | refine esem_block ?_ | (refine stp ?_; simp only [go_sem]) | (refine drawQ (id := 19) mixed [(0, []), (1, []), (4, []), (10, []), (2, []), (3, []), (5, []), (11, []), (12, []), (6, []), (7, [11]), (8, []), (9, [11]), (13, []), (14, []), (15, []), (16, []), (17, []), (18, [])] (by kernel_rfl) ?_; simp only [go_sem]) | (refine Eff.at2 (jc ) [b + 5] rfl (by first | (simp; done) | (simp; omega) | (simp [bC]; done) | omega) rfl ?_; (try simp only [go_sem])) | (simp (disch := omega) only [wE]) | (refine spl (fun h => ?_) (fun h => ?_) <;> first | (exfalso; omega) | ((try simp only [opRun, opSkip, stepRun, pickZ]); (try simp only [go_sem, h]))) | (refine and_om ?_ ?_; focus omega))
      all_goals exact done_ef2 [] (by simp) rfl (by simp [mA]) (by simp [bC])
end Go.Proofs.YtnjbdcdjcfhooaaGreatDoor
namespace Go.Proofs.YtnjbdcdjcfhooaaGreatDoor
open Go.E Go.ChangeShapes Go.WideShapes Go.ChangeAt Go.RowKit
set_option linter.all false
set_option maxRecDepth 20000
set_option maxHeartbeats 8000000
end Go.Proofs.YtnjbdcdjcfhooaaGreatDoor
