/-
  Walks and laws of the functions that the statement reaches; the statement itself stands in the last text.
-/
import Derived.Test.YtafmlhflcnlalaaSqB
namespace Go.Proofs.Ytafmlhflcnlalaa
open Go.E
set_option linter.all false
set_option maxRecDepth 20000
set_option maxHeartbeats 4000000
theorem rbound_s (a b c d e f g h i : Int) (hs : Small a b c d e f g) : Pure Try.prog 8 [st a b c d e f g h i] (.tuple [.int .i64 (sumB a b c d e f), .int .i64 0]) := by
  unfold st sumB
  obtain ⟨a0, b0, c0, d0, e0, f0, g0, a1, b1, c1, d1, e1, f1, g1⟩ := hs
  refine ecalls_in 125 [.tmp 2, .tmp 3] Try.func8 rfl rfl rfl (by kernel_rfl) (le_ble rfl) ?_
  repeat' (first
    | refine esem_seqK 2269393073475583 ?_
    | (refine esem_reg ?_; simp only [go_sem])
    | (refine esem_cond ?_; simp only [go_sem])
    | (refine esem_block ?_)
    | (refine esem_ret ?_; simp only [go_sem])
    | (refine esem_exit ?_; simp only [go_sem])
    | (refine esem_skip ?_; simp only [go_sem])
    | (refine drawQ (id := 10) mixed [(0, []), (4, []), (6, []), (1, []), (2, []), (3, []), (5, []), (7, []), (8, [1]), (9, []), (10, [])] (by kernel_rfl) ?_; simp only [go_sem])
    | (refine drawQ (id := 12) mixed [(0, []), (4, []), (6, []), (1, []), (2, []), (3, []), (5, []), (7, []), (8, [1]), (9, []), (10, [])] (by kernel_rfl) ?_; simp only [go_sem])
    | (refine drawQ (id := 13) mixed [(0, []), (4, []), (6, []), (1, []), (2, []), (3, []), (5, []), (7, []), (8, [1]), (9, []), (10, [])] (by kernel_rfl) ?_; simp only [go_sem])
    | (refine drawQ (id := 15) mixed [(0, []), (1, []), (5, []), (7, []), (9, []), (11, []), (13, []), (15, []), (18, []), (2, []), (3, []), (4, []), (6, []), (8, []), (10, []), (12, []), (14, []), (16, []), (17, []), (19, []), (20, [2]), (21, []), (22, []), (23, [])] (by kernel_rfl) ?_; simp only [go_sem])
    | (refine Pure.at (least_c _ _) (by simp [allBelow, EV.bel]) (by simp [allBelow, EV.bel]) ?_; (try simp only [go_sem]))
    | (refine esem_loopN 2269393073475583 9 ?_; simp only [go_sem])
    | (simp (disch := omega) only [wrap64E, tdivE, tmodE])
    | (refine gsel_decT (fun h => ?_) (fun h => ?_) <;> (first | (exfalso; omega) | ((try simp only [opRun, opSkip, stepRun, pickZ]); (try simp only [go_sem, h]))))
    | (refine gsel_decF (fun h => ?_) (fun h => ?_) <;> (first | (exfalso; omega) | ((try simp only [opRun, opSkip, stepRun, pickZ]); (try simp only [go_sem, h]))))
    | (refine gsel_boolT (fun h => ?_) (fun h => ?_) <;> (first | (exfalso; omega) | ((try simp only [opRun, opSkip, stepRun, pickZ]); (try simp only [go_sem, h]))))
    | (refine gsel_boolF (fun h => ?_) (fun h => ?_) <;> (first | (exfalso; omega) | ((try simp only [opRun, opSkip, stepRun, pickZ]); (try simp only [go_sem, h]))))
    | (refine and_om (by omega) ?_))
  · exact done_zero (by simp [EV.bel, allBelow]) (by rw [show min a 1 = 1 by omega, Int.mul_comm 2 a])
  · exact done_zero (by simp [EV.bel, allBelow]) (by rw [show min a 1 = 0 by omega, Int.mul_comm 2 a, Int.add_zero])
theorem rbound_n (a b c d e f g h i : Int) (hs : ¬ Small a b c d e f g) : Pure Try.prog 8 [st a b c d e f g h i] (.tuple [.int .i64 0, .int .i64 2]) := by
  unfold st
  refine ecalls_in 125 [.tmp 2, .tmp 3] Try.func8 rfl rfl rfl (by kernel_rfl) (le_ble rfl) ?_
  repeat' (first
    | refine esem_seqK 2269393073475583 ?_
    | (refine esem_reg ?_; simp only [go_sem])
    | (refine esem_cond ?_; simp only [go_sem])
    | (refine esem_block ?_)
    | (refine esem_ret ?_; simp only [go_sem])
    | (refine esem_exit ?_; simp only [go_sem])
    | (refine esem_skip ?_; simp only [go_sem])
    | (refine drawQ (id := 10) mixed [(0, []), (4, []), (6, []), (1, []), (2, []), (3, []), (5, []), (7, []), (8, [1]), (9, []), (10, [])] (by kernel_rfl) ?_; simp only [go_sem])
    | (refine drawQ (id := 12) mixed [(0, []), (4, []), (6, []), (1, []), (2, []), (3, []), (5, []), (7, []), (8, [1]), (9, []), (10, [])] (by kernel_rfl) ?_; simp only [go_sem])
    | (refine drawQ (id := 13) mixed [(0, []), (4, []), (6, []), (1, []), (2, []), (3, []), (5, []), (7, []), (8, [1]), (9, []), (10, [])] (by kernel_rfl) ?_; simp only [go_sem])
    | (refine drawQ (id := 15) mixed [(0, []), (1, []), (5, []), (7, []), (9, []), (11, []), (13, []), (15, []), (18, []), (2, []), (3, []), (4, []), (6, []), (8, []), (10, []), (12, []), (14, []), (16, []), (17, []), (19, []), (20, [2]), (21, []), (22, []), (23, [])] (by kernel_rfl) ?_; simp only [go_sem])
    | (refine absurd (Small.mk (by omega) (by omega) (by omega) (by omega) (by omega) (by omega) (by omega) (by omega) (by omega) (by omega) (by omega) (by omega) (by omega) (by omega)) hs)
    | (refine esem_loopN 2269393073475583 9 ?_; simp only [go_sem])
    | (simp (disch := omega) only [wrap64E, tdivE, tmodE])
    | (refine gsel_decT (fun h => ?_) (fun h => ?_) <;> (first | (exfalso; omega) | ((try simp only [opRun, opSkip, stepRun, pickZ]); (try simp only [go_sem, h]))))
    | (refine gsel_decF (fun h => ?_) (fun h => ?_) <;> (first | (exfalso; omega) | ((try simp only [opRun, opSkip, stepRun, pickZ]); (try simp only [go_sem, h]))))
    | (refine gsel_boolT (fun h => ?_) (fun h => ?_) <;> (first | (exfalso; omega) | ((try simp only [opRun, opSkip, stepRun, pickZ]); (try simp only [go_sem, h]))))
    | (refine gsel_boolF (fun h => ?_) (fun h => ?_) <;> (first | (exfalso; omega) | ((try simp only [opRun, opSkip, stepRun, pickZ]); (try simp only [go_sem, h]))))
    | (refine and_om (by omega) ?_))
  all_goals (refine done_zero (by simp [EV.bel, allBelow]) rfl)
theorem rbound_c (a b c d e f g h i : Int) : Pure Try.prog 8 [st a b c d e f g h i] (.tuple [.int .i64 (bndN a b c d e f g), .int .i64 (bndE a b c d e f g)]) := by
  unfold bndN bndE
  split
  · exact rbound_s a b c d e f g h i (by assumption)
  · exact rbound_n a b c d e f g h i (by assumption)

end Go.Proofs.Ytafmlhflcnlalaa
