/-
  Walks and laws of the functions that the statement reaches; the statement itself stands in the last text.
-/
import Derived.Test.YtafmlhflcnlalaaSqC
namespace Go.Proofs.Ytafmlhflcnlalaa
open Go.E
set_option linter.all false
set_option maxRecDepth 20000
set_option maxHeartbeats 4000000
noncomputable def lstN (a b c d e f g : Int) : Int := if bndE a b c d e f g ≠ 0 then 0 else if 4194304 < max 36992 (32896 + (bndN a b c d e f g + 700) * 256) then 0 else max 36992 (32896 + (bndN a b c d e f g + 700) * 256)
noncomputable def lstE (a b c d e f g : Int) : Int := if bndE a b c d e f g ≠ 0 then bndE a b c d e f g else if 4194304 < max 36992 (32896 + (bndN a b c d e f g + 700) * 256) then 80 else 0
theorem bndE_rng (a b c d e f g : Int) : bndE a b c d e f g = 0 ∨ bndE a b c d e f g = 2 := by unfold bndE; split <;> simp
theorem least_l (a b c d e f g h i : Int) : Pure Try.prog 14 [st a b c d e f g h i] (.tuple [.int .i64 (lstN a b c d e f g), .int .i64 (lstE a b c d e f g)]) := by
  have hb := bound_c a b c d e f g h i
  obtain ⟨r1, r2⟩ := bnd_rng a b c d e f g
  unfold lstN lstE
  generalize bndN a b c d e f g = n at *
  generalize bndE a b c d e f g = er at *
  unfold st at *
  refine pure_hid fun V hV => ?_
  refine ecalls_in 23 [.tmp 2, .tmp 3] Try.func14 rfl rfl rfl (by kernel_rfl) (le_ble rfl) ?_
  repeat' (first
    | refine esem_seqK 2105471 ?_
    | (refine esem_reg ?_; simp only [go_sem])
    | (refine esem_cond ?_; simp only [go_sem])
    | (refine esem_block ?_)
    | (refine esem_ret ?_; simp only [go_sem])
    | (refine esem_exit ?_; simp only [go_sem])
    | (refine esem_skip ?_; simp only [go_sem])
    | (refine Pure.at (hb) (by simp [allBelow, EV.bel]) (by simp [allBelow, EV.bel]) ?_; (try simp only [go_sem]))
    | (simp (disch := omega) only [wrap64E, tdivE, tmodE])
    | (refine gsel_decT (fun h => ?_) (fun h => ?_) <;> (first | (exfalso; omega) | ((try simp only [opRun, opSkip, stepRun, pickZ]); (try simp only [go_sem, h]))))
    | (refine gsel_decF (fun h => ?_) (fun h => ?_) <;> (first | (exfalso; omega) | ((try simp only [opRun, opSkip, stepRun, pickZ]); (try simp only [go_sem, h]))))
    | (refine gsel_boolT (fun h => ?_) (fun h => ?_) <;> (first | (exfalso; omega) | ((try simp only [opRun, opSkip, stepRun, pickZ]); (try simp only [go_sem, h]))))
    | (refine gsel_boolF (fun h => ?_) (fun h => ?_) <;> (first | (exfalso; omega) | ((try simp only [opRun, opSkip, stepRun, pickZ]); (try simp only [go_sem, h]))))
    | (refine and_om (by omega) ?_))
  all_goals (refine done_zero (by simp [EV.bel, allBelow]) ?_; rw [hV]; clear hV hb)
  all_goals (congr 3 <;> (first | (split <;> first | rfl | omega | (split <;> first | rfl | omega)) | rfl | (congr 1; split <;> first | rfl | omega | (split <;> first | rfl | omega))))
theorem enough_c (a b c d e f g h i z : Int) : Pure Try.prog 11 [st a b c d e f g h i, .int .i64 z] (.bool (decide (lstE a b c d e f g = 0 ∧ lstN a b c d e f g ≤ z ∧ z ≤ 4194304 ∧ z.tmod 64 = 0))) := by
  have hb := least_l a b c d e f g h i
  generalize lstN a b c d e f g = n at *
  generalize lstE a b c d e f g = er at *
  unfold st at *
  refine pure_hid fun V hV => ?_
  refine ecalls_in 28 [.tmp 4] Try.func11 rfl rfl rfl (by kernel_rfl) (le_ble rfl) ?_
  repeat' (first
    | refine esem_seqK 119 ?_
    | (refine esem_reg ?_; simp only [go_sem])
    | (refine esem_cond ?_; simp only [go_sem])
    | (refine esem_block ?_)
    | (refine esem_ret ?_; simp only [go_sem])
    | (refine esem_exit ?_; simp only [go_sem])
    | (refine esem_skip ?_; simp only [go_sem])
    | (refine Pure.at (hb) (by simp [allBelow, EV.bel]) (by simp [allBelow, EV.bel]) ?_; (try simp only [go_sem]))
    | (simp (disch := omega) only [wrap64E, tdivE, tmodE])
    | (refine gsel_decT (fun h => ?_) (fun h => ?_) <;> (first | (exfalso; omega) | ((try simp only [opRun, opSkip, stepRun, pickZ]); (try simp only [go_sem, h]))))
    | (refine gsel_decF (fun h => ?_) (fun h => ?_) <;> (first | (exfalso; omega) | ((try simp only [opRun, opSkip, stepRun, pickZ]); (try simp only [go_sem, h]))))
    | (refine gsel_boolT (fun h => ?_) (fun h => ?_) <;> (first | (exfalso; omega) | ((try simp only [opRun, opSkip, stepRun, pickZ]); (try simp only [go_sem, h]))))
    | (refine gsel_boolF (fun h => ?_) (fun h => ?_) <;> (first | (exfalso; omega) | ((try simp only [opRun, opSkip, stepRun, pickZ]); (try simp only [go_sem, h]))))
    | (refine and_om (by omega) ?_))
  all_goals (refine done_zero (by simp [EV.bel]) ?_; rw [hV]; clear hV hb; congr 1)
  all_goals first | exact (decide_eq_true (by omega)).symm | exact (decide_eq_false (by omega)).symm | exact decide_eq_decide.2 (by omega)
theorem renough_c (a b c d e f g h i z : Int) : Pure Try.prog 12 [st a b c d e f g h i, .int .i64 z] (.bool (decide (bndE a b c d e f g = 0 ∧ z.tmod 64 = 0 ∧ 36992 ≤ z ∧ z ≤ 4194304 ∧ bndN a b c d e f g + 700 ≤ (z - 32896) / 256))) := by
  have hb := rbound_c a b c d e f g h i
  obtain ⟨r1, r2⟩ := bnd_rng a b c d e f g
  generalize bndN a b c d e f g = n at *
  generalize bndE a b c d e f g = er at *
  unfold st at *
  refine pure_hid fun V hV => ?_
  refine ecalls_in 36 [.tmp 4] Try.func12 rfl rfl rfl (by kernel_rfl) (le_ble rfl) ?_
  repeat' (first
    | refine esem_seqK 119 ?_
    | (refine esem_reg ?_; simp only [go_sem])
    | (refine esem_cond ?_; simp only [go_sem])
    | (refine esem_block ?_)
    | (refine esem_ret ?_; simp only [go_sem])
    | (refine esem_exit ?_; simp only [go_sem])
    | (refine esem_skip ?_; simp only [go_sem])
    | (refine Pure.at (hb) (by simp [allBelow, EV.bel]) (by simp [allBelow, EV.bel]) ?_; (try simp only [go_sem]))
    | (refine Pure.at (rspare_c) (by simp [allBelow, EV.bel]) (by simp [allBelow, EV.bel]) ?_; (try simp only [go_sem]))
    | (simp (disch := omega) only [wrap64E, tdivE, tmodE])
    | (refine gsel_decT (fun h => ?_) (fun h => ?_) <;> (first | (exfalso; omega) | ((try simp only [opRun, opSkip, stepRun, pickZ]); (try simp only [go_sem, h]))))
    | (refine gsel_decF (fun h => ?_) (fun h => ?_) <;> (first | (exfalso; omega) | ((try simp only [opRun, opSkip, stepRun, pickZ]); (try simp only [go_sem, h]))))
    | (refine gsel_boolT (fun h => ?_) (fun h => ?_) <;> (first | (exfalso; omega) | ((try simp only [opRun, opSkip, stepRun, pickZ]); (try simp only [go_sem, h]))))
    | (refine gsel_boolF (fun h => ?_) (fun h => ?_) <;> (first | (exfalso; omega) | ((try simp only [opRun, opSkip, stepRun, pickZ]); (try simp only [go_sem, h]))))
    | (refine and_om (by omega) ?_))
  all_goals (refine done_zero (by simp [EV.bel]) ?_; rw [hV]; clear hV hb; congr 1)
  all_goals first | exact (decide_eq_true (by omega)).symm | exact (decide_eq_false (by omega)).symm | exact decide_eq_decide.2 (by omega)
end Go.Proofs.Ytafmlhflcnlalaa
