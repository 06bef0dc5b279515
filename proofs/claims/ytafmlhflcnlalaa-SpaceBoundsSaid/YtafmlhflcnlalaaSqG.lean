/-
  Walks and laws of the functions that the statement reaches; the statement itself stands in the last text.
-/
import Derived.Test.YtafmlhflcnlalaaSqF
namespace Go.Proofs.Ytafmlhflcnlalaa
open Go.E
set_option linter.all false
set_option maxRecDepth 20000
set_option maxHeartbeats 4000000
theorem lst_facts (a b c d e f g : Int) : (lstE a b c d e f g = 0 ∧ 36992 ≤ lstN a b c d e f g ∧ lstN a b c d e f g ≤ 4194304 ∧ lstN a b c d e f g % 64 = 0) ∨ ((lstE a b c d e f g = 2 ∨ lstE a b c d e f g = 80) ∧ lstN a b c d e f g = 0) := by
  have r3 := bndE_rng a b c d e f g
  unfold lstE lstN
  generalize bndN a b c d e f g = n at *
  generalize bndE a b c d e f g = er at *
  rcases r3 with rfl | rfl
  · by_cases q1 : 4194304 < max 36992 (32896 + (n + 700) * 256)
    · simp [q1]
    · simp [q1]; omega
  · simp
theorem spaceSizes_law (a b c d e f g h i z : Int) : Pure Try.prog 6 [st a b c d e f g h i, .int .i64 z] (.bool true) := by
  have hf := lst_facts a b c d e f g
  have c1 := least_l a b c d e f g h i
  have c2 := enough_c a b c d e f g h i
  generalize lstN a b c d e f g = n at *
  generalize lstE a b c d e f g = er at *
  have ha := awake_c
  unfold st at *
  rcases hf with ⟨rfl, f1, f2, f3⟩ | ⟨f1, rfl⟩
  · have f4 : n.tmod 64 = 0 := by rw [tmodE (by omega)]; exact f3
    have k1 := (c2 n).to (v' := .bool true) (by rw [decide_eq_true ⟨rfl, Int.le_refl _, f2, f4⟩])
    have k2 := (c2 (n - 64)).to (v' := .bool false) (by rw [decide_eq_false (by rintro ⟨_, q, _⟩; omega)])
    have k3 := (c2 z).to (v' := .bool (decide (n ≤ z ∧ z ≤ 4194304 ∧ z.tmod 64 = 0))) (by simp)
    have k4 := (c2 4194304).to (v' := .bool true) (by rw [decide_eq_true ⟨rfl, f2, Int.le_refl _, by decide⟩])
    have f5 : (n.tmod 64 = 0) = True := by simp [f4]
    clear c2 f3 f4
    by_cases z1 : n ≤ z
    · by_cases z2 : z ≤ 4194304
      · have e1 : (n ≤ z) = True := by simp [z1]
        have e2 : (z ≤ 4194304) = True := by simp [z2]
        simp only [e1, e2, true_and] at k3
        refine ecalls_in 82 [.tmp 4] Try.func6 rfl rfl rfl (by kernel_rfl) (le_ble rfl) ?_
        repeat' (first
          | refine esem_seqK 1152921504606913271 ?_
          | (refine esem_reg ?_; simp only [go_sem])
          | (refine esem_cond ?_; simp only [go_sem])
          | (refine esem_block ?_)
          | (refine esem_ret ?_; simp only [go_sem])
          | (refine esem_exit ?_; simp only [go_sem])
          | (refine esem_skip ?_; simp only [go_sem])
          | (refine Pure.at (ha) (by simp [allBelow, EV.bel]) (by simp [allBelow, EV.bel]) ?_; (try simp only [go_sem]))
          | (refine Pure.at (c1) (by simp [allBelow, EV.bel]) (by simp [allBelow, EV.bel]) ?_; (try simp only [go_sem]))
          | (refine Pure.at (k1) (by simp [allBelow, EV.bel]) (by simp [allBelow, EV.bel]) ?_; (try simp only [go_sem]))
          | (refine Pure.at (k2) (by simp [allBelow, EV.bel]) (by simp [allBelow, EV.bel]) ?_; (try simp only [go_sem]))
          | (refine Pure.at (k3) (by simp [allBelow, EV.bel]) (by simp [allBelow, EV.bel]) ?_; (try simp only [go_sem]))
          | (refine Pure.at (k4) (by simp [allBelow, EV.bel]) (by simp [allBelow, EV.bel]) ?_; (try simp only [go_sem]))
          | simp only [go_sem, f5, e1, e2]
          | (simp (disch := omega) only [wrap64E, tdivE, tmodE])
          | (refine gsel_decT (fun h => ?_) (fun h => ?_) <;> (first | (exfalso; omega) | ((try simp only [opRun, opSkip, stepRun, pickZ]); (try simp only [go_sem, h]))))
          | (refine gsel_decF (fun h => ?_) (fun h => ?_) <;> (first | (exfalso; omega) | ((try simp only [opRun, opSkip, stepRun, pickZ]); (try simp only [go_sem, h]))))
          | (refine gsel_boolT (fun h => ?_) (fun h => ?_) <;> (first | (exfalso; omega) | ((try simp only [opRun, opSkip, stepRun, pickZ]); (try simp only [go_sem, h]))))
          | (refine gsel_boolF (fun h => ?_) (fun h => ?_) <;> (first | (exfalso; omega) | ((try simp only [opRun, opSkip, stepRun, pickZ]); (try simp only [go_sem, h]))))
          | (refine and_om (by omega) ?_))
        all_goals exact done_zero (by simp [EV.bel, allBelow]) (by simp)
      · have e1 : (n ≤ z) = True := by simp [z1]
        have e2 : (z ≤ 4194304) = False := by simp; omega
        simp only [e1, e2, true_and, false_and, decide_false] at k3
        refine ecalls_in 82 [.tmp 4] Try.func6 rfl rfl rfl (by kernel_rfl) (le_ble rfl) ?_
        repeat' (first
          | refine esem_seqK 1152921504606913271 ?_
          | (refine esem_reg ?_; simp only [go_sem])
          | (refine esem_cond ?_; simp only [go_sem])
          | (refine esem_block ?_)
          | (refine esem_ret ?_; simp only [go_sem])
          | (refine esem_exit ?_; simp only [go_sem])
          | (refine esem_skip ?_; simp only [go_sem])
          | (refine Pure.at (ha) (by simp [allBelow, EV.bel]) (by simp [allBelow, EV.bel]) ?_; (try simp only [go_sem]))
          | (refine Pure.at (c1) (by simp [allBelow, EV.bel]) (by simp [allBelow, EV.bel]) ?_; (try simp only [go_sem]))
          | (refine Pure.at (k1) (by simp [allBelow, EV.bel]) (by simp [allBelow, EV.bel]) ?_; (try simp only [go_sem]))
          | (refine Pure.at (k2) (by simp [allBelow, EV.bel]) (by simp [allBelow, EV.bel]) ?_; (try simp only [go_sem]))
          | (refine Pure.at (k3) (by simp [allBelow, EV.bel]) (by simp [allBelow, EV.bel]) ?_; (try simp only [go_sem]))
          | (refine Pure.at (k4) (by simp [allBelow, EV.bel]) (by simp [allBelow, EV.bel]) ?_; (try simp only [go_sem]))
          | simp only [go_sem, f5, e1, e2]
          | (simp (disch := omega) only [wrap64E, tdivE, tmodE])
          | (refine gsel_decT (fun h => ?_) (fun h => ?_) <;> (first | (exfalso; omega) | ((try simp only [opRun, opSkip, stepRun, pickZ]); (try simp only [go_sem, h]))))
          | (refine gsel_decF (fun h => ?_) (fun h => ?_) <;> (first | (exfalso; omega) | ((try simp only [opRun, opSkip, stepRun, pickZ]); (try simp only [go_sem, h]))))
          | (refine gsel_boolT (fun h => ?_) (fun h => ?_) <;> (first | (exfalso; omega) | ((try simp only [opRun, opSkip, stepRun, pickZ]); (try simp only [go_sem, h]))))
          | (refine gsel_boolF (fun h => ?_) (fun h => ?_) <;> (first | (exfalso; omega) | ((try simp only [opRun, opSkip, stepRun, pickZ]); (try simp only [go_sem, h]))))
          | (refine and_om (by omega) ?_))
        all_goals exact done_zero (by simp [EV.bel, allBelow]) (by simp)
    · have e1 : (n ≤ z) = False := by simp; omega
      simp only [e1, false_and, decide_false] at k3
      refine ecalls_in 82 [.tmp 4] Try.func6 rfl rfl rfl (by kernel_rfl) (le_ble rfl) ?_
      repeat' (first
        | refine esem_seqK 1152921504606913271 ?_
        | (refine esem_reg ?_; simp only [go_sem])
        | (refine esem_cond ?_; simp only [go_sem])
        | (refine esem_block ?_)
        | (refine esem_ret ?_; simp only [go_sem])
        | (refine esem_exit ?_; simp only [go_sem])
        | (refine esem_skip ?_; simp only [go_sem])
        | (refine Pure.at (ha) (by simp [allBelow, EV.bel]) (by simp [allBelow, EV.bel]) ?_; (try simp only [go_sem]))
        | (refine Pure.at (c1) (by simp [allBelow, EV.bel]) (by simp [allBelow, EV.bel]) ?_; (try simp only [go_sem]))
        | (refine Pure.at (k1) (by simp [allBelow, EV.bel]) (by simp [allBelow, EV.bel]) ?_; (try simp only [go_sem]))
        | (refine Pure.at (k2) (by simp [allBelow, EV.bel]) (by simp [allBelow, EV.bel]) ?_; (try simp only [go_sem]))
        | (refine Pure.at (k3) (by simp [allBelow, EV.bel]) (by simp [allBelow, EV.bel]) ?_; (try simp only [go_sem]))
        | (refine Pure.at (k4) (by simp [allBelow, EV.bel]) (by simp [allBelow, EV.bel]) ?_; (try simp only [go_sem]))
        | simp only [go_sem, f5, e1]
        | (simp (disch := omega) only [wrap64E, tdivE, tmodE])
        | (refine gsel_decT (fun h => ?_) (fun h => ?_) <;> (first | (exfalso; omega) | ((try simp only [opRun, opSkip, stepRun, pickZ]); (try simp only [go_sem, h]))))
        | (refine gsel_decF (fun h => ?_) (fun h => ?_) <;> (first | (exfalso; omega) | ((try simp only [opRun, opSkip, stepRun, pickZ]); (try simp only [go_sem, h]))))
        | (refine gsel_boolT (fun h => ?_) (fun h => ?_) <;> (first | (exfalso; omega) | ((try simp only [opRun, opSkip, stepRun, pickZ]); (try simp only [go_sem, h]))))
        | (refine gsel_boolF (fun h => ?_) (fun h => ?_) <;> (first | (exfalso; omega) | ((try simp only [opRun, opSkip, stepRun, pickZ]); (try simp only [go_sem, h]))))
        | (refine and_om (by omega) ?_))
      all_goals exact done_zero (by simp [EV.bel, allBelow]) (by simp)
  · have k1 := (c2 z).to (v' := .bool false) (by rw [decide_eq_false (by rintro ⟨q, _⟩; omega)])
    have k2 := (c2 4194304).to (v' := .bool false) (by rw [decide_eq_false (by rintro ⟨q, _⟩; omega)])
    clear c2
    refine ecalls_in 82 [.tmp 4] Try.func6 rfl rfl rfl (by kernel_rfl) (le_ble rfl) ?_
    repeat' (first
      | refine esem_seqK 1152921504606913271 ?_
      | (refine esem_reg ?_; simp only [go_sem])
      | (refine esem_cond ?_; simp only [go_sem])
      | (refine esem_block ?_)
      | (refine esem_ret ?_; simp only [go_sem])
      | (refine esem_exit ?_; simp only [go_sem])
      | (refine esem_skip ?_; simp only [go_sem])
      | (refine Pure.at (ha) (by simp [allBelow, EV.bel]) (by simp [allBelow, EV.bel]) ?_; (try simp only [go_sem]))
      | (refine Pure.at (c1) (by simp [allBelow, EV.bel]) (by simp [allBelow, EV.bel]) ?_; (try simp only [go_sem]))
      | (refine Pure.at (k1) (by simp [allBelow, EV.bel]) (by simp [allBelow, EV.bel]) ?_; (try simp only [go_sem]))
      | (refine Pure.at (k2) (by simp [allBelow, EV.bel]) (by simp [allBelow, EV.bel]) ?_; (try simp only [go_sem]))
      | (simp (disch := omega) only [wrap64E, tdivE, tmodE])
      | (refine gsel_decT (fun h => ?_) (fun h => ?_) <;> (first | (exfalso; omega) | ((try simp only [opRun, opSkip, stepRun, pickZ]); (try simp only [go_sem, h]))))
      | (refine gsel_decF (fun h => ?_) (fun h => ?_) <;> (first | (exfalso; omega) | ((try simp only [opRun, opSkip, stepRun, pickZ]); (try simp only [go_sem, h]))))
      | (refine gsel_boolT (fun h => ?_) (fun h => ?_) <;> (first | (exfalso; omega) | ((try simp only [opRun, opSkip, stepRun, pickZ]); (try simp only [go_sem, h]))))
      | (refine gsel_boolF (fun h => ?_) (fun h => ?_) <;> (first | (exfalso; omega) | ((try simp only [opRun, opSkip, stepRun, pickZ]); (try simp only [go_sem, h]))))
      | (refine and_om (by omega) ?_))
    all_goals first | exact done_zero (by simp [EV.bel, allBelow]) (by simp) | (exfalso; omega)
theorem sum_pos {a b c d e f : Int} (h : 0 ≤ a ∧ 0 ≤ b ∧ 0 ≤ c ∧ 0 ≤ d ∧ 0 ≤ e ∧ 0 ≤ f) : 0 < sumB a b c d e f ↔ 0 < a + b / 253 + e + 16 * c / 248 + 32 * d / 248 + f / 248 := by
  obtain ⟨a0, b0, c0, d0, e0, f0⟩ := h
  unfold sumB
  have q1 : min a 1 = 0 ∧ a = 0 ∨ 0 < min a 1 ∧ 0 < a := by omega
  have q2 : 0 ≤ min a b ∧ (a = 0 → min a b = 0) := by omega
  have q3 : 0 ≤ min a c ∧ (a = 0 → min a c = 0) := by omega
  have q4 : 0 ≤ min a d ∧ (a = 0 → min a d = 0) := by omega
  have q5 : 0 ≤ min (2 * a) e ∧ (a = 0 → min (2 * a) e = 0) := by omega
  have q6 : 0 ≤ a / 32 ∧ (a = 0 → a / 32 = 0) := by omega
  have q7 : 0 ≤ b / 253 := by omega
  generalize min a 1 = m1 at *
  generalize min a b = m2 at *
  generalize min a c = m3 at *
  generalize min a d = m4 at *
  generalize min (2 * a) e = m5 at *
  generalize b / 253 = g1 at *
  have q8 : 0 ≤ (2 * g1 + m2) / 16 ∧ (g1 = 0 → m2 = 0 → (2 * g1 + m2) / 16 = 0) := by omega
  have q9 : 0 ≤ 16 * c / 248 := by omega
  have qa : 0 ≤ 32 * d / 248 := by omega
  have qb : 0 ≤ (16 * e + f) / 248 ∧ (e = 0 → (16 * e + f) / 248 = f / 248) := by omega
  have qc : 0 ≤ f / 248 := by omega
  have qd : f / 248 ≤ (16 * e + f) / 248 := by omega
  generalize (2 * g1 + m2) / 16 = k1 at *
  generalize 16 * c / 248 = k3 at *
  generalize 32 * d / 248 = k5 at *
  generalize (16 * e + f) / 248 = k7 at *
  generalize f / 248 = k8 at *
  generalize a / 32 = k9 at *
  rcases q1 with q1 | q1
  · have := q6.2 q1.2
    have := q2.2 q1.2
    have := q3.2 q1.2
    have := q4.2 q1.2
    have := q5.2 q1.2
    by_cases he : e = 0
    · have := qb.2 he
      by_cases hg : g1 = 0
      · have := q8.2 hg (by omega)
        constructor <;> intro <;> omega
      · constructor <;> intro <;> omega
    · constructor <;> intro <;> omega
  · constructor <;> intro <;> omega
theorem spaceRises_law (a b c d e f g h i a' b' c' d' e' f' g' h' i' : Int) : Pure Try.prog 5 [st a b c d e f g h i, st a' b' c' d' e' f' g' h' i'] (.bool true) := by
  have hm := more_l a b c d e f g h i a' b' c' d' e' f' g' h' i'
  have ha := nearI_le a
  have hb := nearI_le b
  have hc := nearI_le c
  have hd := nearI_le d
  have he := nearI_le e
  have hf := nearI_le f
  have hg := nearI_le g
  have ha' := nearI_le a'
  have hb' := nearI_le b'
  have hc' := nearI_le c'
  have hd' := nearI_le d'
  have he' := nearI_le e'
  have hf' := nearI_le f'
  have hg' := nearI_le g'
  have hA := awake_c
  generalize nearI a = x1 at *
  generalize nearI b = x2 at *
  generalize nearI c = x3 at *
  generalize nearI d = x4 at *
  generalize nearI e = x5 at *
  generalize nearI f = x6 at *
  generalize nearI g = x7 at *
  generalize nearI a' = y1 at *
  generalize nearI b' = y2 at *
  generalize nearI c' = y3 at *
  generalize nearI d' = y4 at *
  generalize nearI e' = y5 at *
  generalize nearI f' = y6 at *
  generalize nearI g' = y7 at *
  have s1 : Small x1 x2 x3 x4 x5 x6 x7 := by constructor <;> omega
  have s2 : Small (x1 + y1) (x2 + y2) (x3 + y3) (x4 + y4) (x5 + y5) (x6 + y6) (x7 + y7) := by constructor <;> omega
  have n1 : bndN x1 x2 x3 x4 x5 x6 x7 = sumB x1 x2 x3 x4 x5 x6 := if_pos s1
  have n2 : bndN (x1 + y1) (x2 + y2) (x3 + y3) (x4 + y4) (x5 + y5) (x6 + y6) (x7 + y7) = sumB (x1 + y1) (x2 + y2) (x3 + y3) (x4 + y4) (x5 + y5) (x6 + y6) := if_pos s2
  have z1 : bndE x1 x2 x3 x4 x5 x6 x7 = 0 := if_pos s1
  have z2 : bndE (x1 + y1) (x2 + y2) (x3 + y3) (x4 + y4) (x5 + y5) (x6 + y6) (x7 + y7) = 0 := if_pos s2
  have r1 := sum_rng s1
  have hp := sum_pos (a := x1) (b := x2) (c := x3) (d := x4) (e := x5) (f := x6) (by omega)
  have hle : sumB x1 x2 x3 x4 x5 x6 ≤ sumB (x1 + y1) (x2 + y2) (x3 + y3) (x4 + y4) (x5 + y5) (x6 + y6) := sum_mono (by omega) (by omega) (by omega) (by omega) (by omega) (by omega) (by omega)
  have hl := lst_le z1 z2 (by rw [n1, n2]; exact hle)
  have c1 := bound_c x1 x2 x3 x4 x5 x6 x7 0 0
  have c2 := bound_c (x1 + y1) (x2 + y2) (x3 + y3) (x4 + y4) (x5 + y5) (x6 + y6) (x7 + y7) 0 0
  have c3 := bound_c x1 x2 x3 x4 x5 x6 x7 h i'
  have c4 := least_l x1 x2 x3 x4 x5 x6 x7 0 0
  have c5 := least_l (x1 + y1) (x2 + y2) (x3 + y3) (x4 + y4) (x5 + y5) (x6 + y6) (x7 + y7) 0 0
  rw [n1, z1] at c1 c3
  rw [n2, z2] at c2
  clear s1 s2 n1 n2 z1 z2 ha' hb' hc' hd' he' hf' hg'
  generalize lstN x1 x2 x3 x4 x5 x6 x7 = p at *
  generalize lstE x1 x2 x3 x4 x5 x6 x7 = pe at *
  generalize lstN (x1 + y1) (x2 + y2) (x3 + y3) (x4 + y4) (x5 + y5) (x6 + y6) (x7 + y7) = q at *
  generalize lstE (x1 + y1) (x2 + y2) (x3 + y3) (x4 + y4) (x5 + y5) (x6 + y6) (x7 + y7) = qe at *
  generalize sumB x1 x2 x3 x4 x5 x6 = n at *
  generalize sumB (x1 + y1) (x2 + y2) (x3 + y3) (x4 + y4) (x5 + y5) (x6 + y6) = m at *
  have k1 : (m < n) = False := by simp; omega
  have k2 : (n < 0) = False := by simp; omega
  have k3 : (decide (0 < n)) = (decide (0 < x1 + x2 / 253 + x5 + 16 * x3 / 248 + 32 * x4 / 248 + x6 / 248)) := decide_eq_decide.2 hp
  clear hle hp r1
  unfold st at *
  refine ecalls_in 126 [.tmp 4] Try.func5 rfl rfl rfl (by kernel_rfl) (le_ble rfl) ?_
  repeat' (first
    | refine esem_seqK 151115727451828647624703 ?_
    | (refine esem_reg ?_; simp only [go_sem])
    | (refine esem_cond ?_; simp only [go_sem])
    | (refine esem_block ?_)
    | (refine esem_ret ?_; simp only [go_sem])
    | (refine esem_exit ?_; simp only [go_sem])
    | (refine esem_skip ?_; simp only [go_sem])
    | (refine Pure.at (hA) (by simp [allBelow, EV.bel]) (by simp [allBelow, EV.bel]) ?_; (try simp only [go_sem]))
    | (refine Pure.at (hm) (by simp [allBelow, EV.bel]) (by simp [allBelow, EV.bel]) ?_; (try simp only [go_sem]))
    | (refine Pure.at (c1) (by simp [allBelow, EV.bel]) (by simp [allBelow, EV.bel]) ?_; (try simp only [go_sem]))
    | (refine Pure.at (c2) (by simp [allBelow, EV.bel]) (by simp [allBelow, EV.bel]) ?_; (try simp only [go_sem]))
    | (refine Pure.at (c3) (by simp [allBelow, EV.bel]) (by simp [allBelow, EV.bel]) ?_; (try simp only [go_sem]))
    | (refine Pure.at (c4) (by simp [allBelow, EV.bel]) (by simp [allBelow, EV.bel]) ?_; (try simp only [go_sem]))
    | (refine Pure.at (c5) (by simp [allBelow, EV.bel]) (by simp [allBelow, EV.bel]) ?_; (try simp only [go_sem]))
    | simp only [go_sem, k1, k2, k3]
    | (simp (disch := omega) only [wrap64E, tdivE, tmodE])
    | (refine gsel_decT (fun h => ?_) (fun h => ?_) <;> (first | (exfalso; omega) | ((try simp only [opRun, opSkip, stepRun, pickZ]); (try simp only [go_sem, h]))))
    | (refine gsel_decF (fun h => ?_) (fun h => ?_) <;> (first | (exfalso; omega) | ((try simp only [opRun, opSkip, stepRun, pickZ]); (try simp only [go_sem, h]))))
    | (refine gsel_boolT (fun h => ?_) (fun h => ?_) <;> (first | (exfalso; omega) | ((try simp only [opRun, opSkip, stepRun, pickZ]); (try simp only [go_sem, h]))))
    | (refine gsel_boolF (fun h => ?_) (fun h => ?_) <;> (first | (exfalso; omega) | ((try simp only [opRun, opSkip, stepRun, pickZ]); (try simp only [go_sem, h]))))
    | (refine and_om (by omega) ?_))
  all_goals first | exact done_zero (by simp [EV.bel, allBelow]) (by simp) | (exfalso; omega) | skip
end Go.Proofs.Ytafmlhflcnlalaa
