/-
  Walks and laws of the functions that the statement reaches; the statement itself stands in the last text.
-/
import Derived.Test.YtafmlhflcnlalaaSqE
namespace Go.Proofs.Ytafmlhflcnlalaa
open Go.E
set_option linter.all false
set_option maxRecDepth 20000
set_option maxHeartbeats 4000000
theorem spaceBounds_law (a b c d e f g h i z : Int) : Pure Try.prog 3 [st a b c d e f g h i, .int .i64 z] (.bool true) := by
  have c1 := bound_c a b c d e f g h i
  have c2 := rbound_c a b c d e f g h i
  have c3 := enough_c a b c d e f g h i z
  have c4 : Pure Try.prog 12 [st a b c d e f g h i, .int .i64 z] (.bool (decide (lstE a b c d e f g = 0 ∧ lstN a b c d e f g ≤ z ∧ z ≤ 4194304 ∧ z.tmod 64 = 0))) := by
    rw [decide_eq_decide.2 (enough_e a b c d e f g z)]; exact renough_c a b c d e f g h i z
  generalize (decide (lstE a b c d e f g = 0 ∧ lstN a b c d e f g ≤ z ∧ z ≤ 4194304 ∧ z.tmod 64 = 0)) = y at *
  generalize bndN a b c d e f g = n at *
  generalize bndE a b c d e f g = er at *
  unfold st at *
  refine ecalls_in 44 [.tmp 4] Try.func3 rfl rfl rfl (by kernel_rfl) (le_ble rfl) ?_
  repeat' (first
    | refine esem_seqK 503 ?_
    | (refine esem_reg ?_; simp only [go_sem])
    | (refine esem_cond ?_; simp only [go_sem])
    | (refine esem_block ?_)
    | (refine esem_ret ?_; simp only [go_sem])
    | (refine esem_exit ?_; simp only [go_sem])
    | (refine esem_skip ?_; simp only [go_sem])
    | (refine drawQ (id := 3) mixed [(0, []), (1, []), (2, []), (3, []), (4, []), (5, []), (6, []), (7, []), (8, []), (9, []), (10, []), (11, []), (12, []), (13, []), (15, []), (18, []), (14, []), (17, []), (16, [17]), (19, []), (20, []), (21, []), (22, []), (23, []), (24, []), (25, [])] (by kernel_rfl) ?_; simp only [go_sem])
    | (refine Pure.at (c1) (by simp [allBelow, EV.bel]) (by simp [allBelow, EV.bel]) ?_; (try simp only [go_sem]))
    | (refine Pure.at (c2) (by simp [allBelow, EV.bel]) (by simp [allBelow, EV.bel]) ?_; (try simp only [go_sem]))
    | (refine Pure.at (c3) (by simp [allBelow, EV.bel]) (by simp [allBelow, EV.bel]) ?_; (try simp only [go_sem]))
    | (refine Pure.at (c4) (by simp [allBelow, EV.bel]) (by simp [allBelow, EV.bel]) ?_; (try simp only [go_sem]))
    | (refine Pure.at (spare_c) (by simp [allBelow, EV.bel]) (by simp [allBelow, EV.bel]) ?_; (try simp only [go_sem]))
    | (refine Pure.at (rspare_c) (by simp [allBelow, EV.bel]) (by simp [allBelow, EV.bel]) ?_; (try simp only [go_sem]))
    | (refine Pure.at (awake_c) (by simp [allBelow, EV.bel]) (by simp [allBelow, EV.bel]) ?_; (try simp only [go_sem]))
    | (simp (disch := omega) only [wrap64E, tdivE, tmodE])
    | (refine gsel_decT (fun h => ?_) (fun h => ?_) <;> (first | (exfalso; omega) | ((try simp only [opRun, opSkip, stepRun, pickZ]); (try simp only [go_sem, h]))))
    | (refine gsel_decF (fun h => ?_) (fun h => ?_) <;> (first | (exfalso; omega) | ((try simp only [opRun, opSkip, stepRun, pickZ]); (try simp only [go_sem, h]))))
    | (refine gsel_boolT (fun h => ?_) (fun h => ?_) <;> (first | (exfalso; omega) | ((try simp only [opRun, opSkip, stepRun, pickZ]); (try simp only [go_sem, h]))))
    | (refine gsel_boolF (fun h => ?_) (fun h => ?_) <;> (first | (exfalso; omega) | ((try simp only [opRun, opSkip, stepRun, pickZ]); (try simp only [go_sem, h]))))
    | (refine and_om (by omega) ?_))
  exact done_zero (by simp [EV.bel, allBelow]) rfl
theorem spaceLeast_law (a b c d e f g h i : Int) : Pure Try.prog 4 [st a b c d e f g h i] (.bool true) := by
  have c1 := least_l a b c d e f g h i
  have c2 := rleast_l a b c d e f g h i
  generalize lstN a b c d e f g = n at *
  generalize lstE a b c d e f g = er at *
  unfold st at *
  refine ecalls_in 28 [.tmp 2] Try.func4 rfl rfl rfl (by kernel_rfl) (le_ble rfl) ?_
  repeat' (first
    | refine esem_seqK 127 ?_
    | (refine esem_reg ?_; simp only [go_sem])
    | (refine esem_cond ?_; simp only [go_sem])
    | (refine esem_block ?_)
    | (refine esem_ret ?_; simp only [go_sem])
    | (refine esem_exit ?_; simp only [go_sem])
    | (refine esem_skip ?_; simp only [go_sem])
    | (refine Pure.at (c1) (by simp [allBelow, EV.bel]) (by simp [allBelow, EV.bel]) ?_; (try simp only [go_sem]))
    | (refine Pure.at (c2) (by simp [allBelow, EV.bel]) (by simp [allBelow, EV.bel]) ?_; (try simp only [go_sem]))
    | (refine Pure.at (awake_c) (by simp [allBelow, EV.bel]) (by simp [allBelow, EV.bel]) ?_; (try simp only [go_sem]))
    | (simp (disch := omega) only [wrap64E, tdivE, tmodE])
    | (refine gsel_decT (fun h => ?_) (fun h => ?_) <;> (first | (exfalso; omega) | ((try simp only [opRun, opSkip, stepRun, pickZ]); (try simp only [go_sem, h]))))
    | (refine gsel_decF (fun h => ?_) (fun h => ?_) <;> (first | (exfalso; omega) | ((try simp only [opRun, opSkip, stepRun, pickZ]); (try simp only [go_sem, h]))))
    | (refine gsel_boolT (fun h => ?_) (fun h => ?_) <;> (first | (exfalso; omega) | ((try simp only [opRun, opSkip, stepRun, pickZ]); (try simp only [go_sem, h]))))
    | (refine gsel_boolF (fun h => ?_) (fun h => ?_) <;> (first | (exfalso; omega) | ((try simp only [opRun, opSkip, stepRun, pickZ]); (try simp only [go_sem, h]))))
    | (refine and_om (by omega) ?_))
  exact done_zero (by simp [EV.bel, allBelow]) rfl

theorem mono_d {x y k : Int} (h : x ≤ y) (hk : 0 < k) : x / k ≤ y / k := Int.ediv_le_ediv hk h
theorem sum_mono {a b c d e f a' b' c' d' e' f' : Int} (h : 0 ≤ a ∧ 0 ≤ b ∧ 0 ≤ c ∧ 0 ≤ d ∧ 0 ≤ e ∧ 0 ≤ f) (h1 : a ≤ a') (h2 : b ≤ b') (h3 : c ≤ c') (h4 : d ≤ d') (h5 : e ≤ e') (h6 : f ≤ f') : sumB a b c d e f ≤ sumB a' b' c' d' e' f' := by
  obtain ⟨a0, b0, c0, d0, e0, f0⟩ := h
  unfold sumB
  have q1 : min a 1 ≤ min a' 1 := by omega
  have q2 : min a b ≤ min a' b' := by omega
  have q3 : min a c ≤ min a' c' := by omega
  have q4 : min a d ≤ min a' d' := by omega
  have q5 : min (2 * a) e ≤ min (2 * a') e' := by omega
  have q6 : a / 32 ≤ a' / 32 := by omega
  have q7 : b / 253 ≤ b' / 253 := by omega
  have q8 : 16 * c / 248 ≤ 16 * c' / 248 := by omega
  have q9 : 32 * d / 248 ≤ 32 * d' / 248 := by omega
  have qa : (16 * e + f) / 248 ≤ (16 * e' + f') / 248 := by omega
  generalize min a 1 = m1 at *
  generalize min a' 1 = m1' at *
  generalize min a b = m2 at *
  generalize min a' b' = m2' at *
  generalize min a c = m3 at *
  generalize min a' c' = m3' at *
  generalize min a d = m4 at *
  generalize min a' d' = m4' at *
  generalize min (2 * a) e = m5 at *
  generalize min (2 * a') e' = m5' at *
  generalize b / 253 = g1 at *
  generalize b' / 253 = g2 at *
  have qb : (2 * g1 + m2) / 16 ≤ (2 * g2 + m2') / 16 := by omega
  generalize (2 * g1 + m2) / 16 = k1 at *
  generalize (2 * g2 + m2') / 16 = k2 at *
  generalize 16 * c / 248 = k3 at *
  generalize 16 * c' / 248 = k4 at *
  generalize 32 * d / 248 = k5 at *
  generalize 32 * d' / 248 = k6 at *
  generalize (16 * e + f) / 248 = k7 at *
  generalize (16 * e' + f') / 248 = k8 at *
  omega
theorem lst_le {a b c d e f g a' b' c' d' e' f' g' : Int} (h1 : bndE a b c d e f g = 0) (h2 : bndE a' b' c' d' e' f' g' = 0) (h : bndN a b c d e f g ≤ bndN a' b' c' d' e' f' g') :
    ¬ ((lstE a b c d e f g ≠ 0 ∧ lstE a' b' c' d' e' f' g' = 0)) ∧ ¬ (lstE a' b' c' d' e' f' g' = 0 ∧ lstN a' b' c' d' e' f' g' < lstN a b c d e f g) := by
  unfold lstE lstN
  rw [h1, h2]
  generalize bndN a b c d e f g = n at *
  generalize bndN a' b' c' d' e' f' g' = m at *
  simp only [ne_eq, not_true_eq_false, if_false]
  by_cases q1 : 4194304 < max 36992 (32896 + (n + 700) * 256)
  · by_cases q2 : 4194304 < max 36992 (32896 + (m + 700) * 256)
    · simp [q1, q2]
    · omega
  · by_cases q2 : 4194304 < max 36992 (32896 + (m + 700) * 256)
    · simp [q1, q2]
    · simp [q1, q2]; omega
end Go.Proofs.Ytafmlhflcnlalaa
