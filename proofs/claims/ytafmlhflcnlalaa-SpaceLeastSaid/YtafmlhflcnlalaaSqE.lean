/-
  Walks and laws of the functions that the statement reaches; the statement itself stands in the last text.
-/
import Derived.Test.YtafmlhflcnlalaaSqD
namespace Go.Proofs.Ytafmlhflcnlalaa
open Go.E
set_option linter.all false
set_option maxRecDepth 20000
set_option maxHeartbeats 4000000
theorem rleast_l (a b c d e f g h i : Int) : Pure Try.prog 15 [st a b c d e f g h i] (.tuple [.int .i64 (lstN a b c d e f g), .int .i64 (lstE a b c d e f g)]) := by
  have hb := rbound_c a b c d e f g h i
  obtain ⟨r1, r2⟩ := bnd_rng a b c d e f g
  unfold lstN lstE
  generalize bndN a b c d e f g = n at *
  generalize bndE a b c d e f g = er at *
  unfold st at *
  refine pure_hid fun V hV => ?_
  refine ecalls_in 27 [.tmp 2, .tmp 3] Try.func15 rfl rfl rfl (by kernel_rfl) (le_ble rfl) ?_
  repeat' (first
    | refine esem_seqK 33628287 ?_
    | (refine esem_reg ?_; simp only [go_sem])
    | (refine esem_cond ?_; simp only [go_sem])
    | (refine esem_block ?_)
    | (refine esem_ret ?_; simp only [go_sem])
    | (refine esem_exit ?_; simp only [go_sem])
    | (refine esem_skip ?_; simp only [go_sem])
    | (refine Pure.at (hb) (by simp [allBelow, EV.bel]) (by simp [allBelow, EV.bel]) ?_; (try simp only [go_sem]))
    | (simp (disch := omega) only [wrap64E, tdivE, tmodE])
    | (refine gsel_decT (fun h => ?_) (fun h => ?_) <;> (first | (exfalso; omega) | ((try simp only [opRun, opSkip, stepRun, pickZ]); (try simp only [go_sem, h]))))
    | (refine gsel_decF (fun h => ?_) (fun h => ?_) <;> (first | (exfalso; omega) | ((try simp only [opRun, opSkip, stepRun, pickZ]); (try simp only [go_sem, h]))))
    | (refine gsel_boolT (fun h => ?_) (fun h => ?_) <;> (first | (exfalso; omega) | ((try simp only [opRun, opSkip, stepRun, pickZ]); (try simp only [go_sem, h]))))
    | (refine gsel_boolF (fun h => ?_) (fun h => ?_) <;> (first | (exfalso; omega) | ((try simp only [opRun, opSkip, stepRun, pickZ]); (try simp only [go_sem, h]))))
    | (refine and_om (by omega) ?_))
  · refine done_zero (by simp [EV.bel, allBelow]) ?_
    rw [hV, if_pos h, if_pos h]
  · rw [if_neg h, if_neg h] at hV
    generalize hm : max 36992 (32896 + (n + 700) * 256) = m at hV
    refine esem_loopS (fun z : Int => [(4, .int .i64 n), (6, .int .i64 z)]) (fun _ => []) (fun _ => 0) (fun z => 36992 ≤ z ∧ z ≤ m ∧ z % 64 = 0) (fun z => (4194368 - z).toNat) 36992 (fun z hz => ⟨by simp [frBel, EV.bel], trivial, Nat.le_refl _⟩) (by omega) (by simp only [go_sem, weakL]) trivial ?_
    rintro z ⟨z1, z2, z3⟩
    repeat' (first
      | refine esem_seqK 33628287 ?_
      | (refine esem_reg ?_; simp only [go_sem])
      | (refine esem_cond ?_; simp only [go_sem])
      | (refine esem_block ?_)
      | (refine esem_ret ?_; simp only [go_sem])
      | (refine esem_exit ?_; simp only [go_sem])
      | (refine esem_skip ?_; simp only [go_sem])
      | (refine Pure.at (rspare_c) (by simp [allBelow, EV.bel]) (by simp [allBelow, EV.bel]) ?_; (try simp only [go_sem]))
      | (simp (disch := omega) only [wrap64E, tdivE, tmodE])
      | (refine gsel_decT (fun h => ?_) (fun h => ?_) <;> (first | (exfalso; omega) | ((try simp only [opRun, opSkip, stepRun, pickZ]); (try simp only [go_sem, h]))))
      | (refine gsel_decF (fun h => ?_) (fun h => ?_) <;> (first | (exfalso; omega) | ((try simp only [opRun, opSkip, stepRun, pickZ]); (try simp only [go_sem, h]))))
      | (refine gsel_boolT (fun h => ?_) (fun h => ?_) <;> (first | (exfalso; omega) | ((try simp only [opRun, opSkip, stepRun, pickZ]); (try simp only [go_sem, h]))))
      | (refine gsel_boolF (fun h => ?_) (fun h => ?_) <;> (first | (exfalso; omega) | ((try simp only [opRun, opSkip, stepRun, pickZ]); (try simp only [go_sem, h]))))
      | (refine and_om (by omega) ?_))
    · refine done_zero (by simp [EV.bel, allBelow]) ?_
      rw [hV]
      have : z = m := by omega
      subst this
      rw [if_neg (by omega), if_neg (by omega)]
    · exact ⟨z + 64, by omega, by dsimp only; omega, rfl, by simp only [go_sem, weakL], trivial⟩
    · refine done_zero (by simp [EV.bel, allBelow]) ?_
      rw [hV, if_pos (by omega), if_pos (by omega)]
theorem more_l (a b c d e f g h i a' b' c' d' e' f' g' h' i' : Int) : Pure Try.prog 16 [st a b c d e f g h i, st a' b' c' d' e' f' g' h' i'] (.tuple [st (nearI a) (nearI b) (nearI c) (nearI d) (nearI e) (nearI f) (nearI g) 0 0, st (nearI a + nearI a') (nearI b + nearI b') (nearI c + nearI c') (nearI d + nearI d') (nearI e + nearI e') (nearI f + nearI f') (nearI g + nearI g') 0 0]) := by
  have ha := nearI_le a
  have hb := nearI_le b
  have hc := nearI_le c
  have hd := nearI_le d
  have he := nearI_le e
  have hf := nearI_le f
  have hg := nearI_le g
  have ha' := nearI_le a'
  have hb' := nearI_le b'
  have hc' := nearI_le c'
  have hd' := nearI_le d'
  have he' := nearI_le e'
  have hf' := nearI_le f'
  have hg' := nearI_le g'
  unfold st
  refine ecalls_in 75 [.cell 4 23, .cell 5 23] Try.func16 rfl rfl rfl (by kernel_rfl) (le_ble rfl) ?_
  repeat' (first
    | refine esem_seqK 255 ?_
    | (refine esem_reg ?_; simp only [go_sem])
    | (refine esem_cond ?_; simp only [go_sem])
    | (refine esem_block ?_)
    | (refine esem_ret ?_; simp only [go_sem])
    | (refine esem_exit ?_; simp only [go_sem])
    | (refine esem_skip ?_; simp only [go_sem])
    | (refine drawQ (id := 1) mixed [(0, []), (3, []), (6, []), (9, []), (12, []), (15, []), (18, []), (1, []), (4, []), (7, []), (10, []), (13, []), (16, []), (19, []), (2, [4, 7, 10, 13, 16, 19]), (5, [7, 10, 13, 16, 19]), (8, [10, 13, 16, 19]), (11, [13, 16, 19]), (14, [16, 19]), (17, [19]), (20, []), (21, []), (22, []), (23, [])] (by kernel_rfl) ?_; simp only [go_sem])
    | (refine drawQ (id := 2) mixed [(0, []), (2, []), (6, []), (8, []), (12, []), (14, []), (18, []), (20, []), (24, []), (26, []), (30, []), (32, []), (36, []), (38, []), (1, []), (3, []), (7, []), (9, []), (13, []), (15, []), (19, []), (21, []), (25, []), (27, []), (31, []), (33, []), (37, []), (39, []), (4, [1, 7, 9, 13, 15, 19, 21, 25, 27, 31, 33, 37, 39]), (5, []), (10, [1, 7, 13, 15, 19, 21, 25, 27, 31, 33, 37, 39]), (11, []), (16, [1, 7, 13, 19, 21, 25, 27, 31, 33, 37, 39]), (17, []), (22, [1, 7, 13, 19, 25, 27, 31, 33, 37, 39]), (23, []), (28, [1, 7, 13, 19, 25, 31, 33, 37, 39]), (29, []), (34, [1, 7, 13, 19, 25, 31, 37, 39]), (35, []), (40, [1, 7, 13, 19, 25, 31, 37]), (41, []), (42, []), (43, []), (44, [])] (by kernel_rfl) ?_; simp only [go_sem])
    | (refine drawQ (id := 3) mixed [(0, []), (1, []), (2, [1]), (3, [])] (by kernel_rfl) ?_; simp only [go_sem])
    | (refine Pure.at (near_c _) (by simp [allBelow, EV.bel]) (by simp [allBelow, EV.bel]) ?_; (try simp only [go_sem]))
    | (simp (disch := omega) only [wrap64E, tdivE, tmodE])
    | (refine gsel_decT (fun h => ?_) (fun h => ?_) <;> (first | (exfalso; omega) | ((try simp only [opRun, opSkip, stepRun, pickZ]); (try simp only [go_sem, h]))))
    | (refine gsel_decF (fun h => ?_) (fun h => ?_) <;> (first | (exfalso; omega) | ((try simp only [opRun, opSkip, stepRun, pickZ]); (try simp only [go_sem, h]))))
    | (refine gsel_boolT (fun h => ?_) (fun h => ?_) <;> (first | (exfalso; omega) | ((try simp only [opRun, opSkip, stepRun, pickZ]); (try simp only [go_sem, h]))))
    | (refine gsel_boolF (fun h => ?_) (fun h => ?_) <;> (first | (exfalso; omega) | ((try simp only [opRun, opSkip, stepRun, pickZ]); (try simp only [go_sem, h]))))
    | (refine and_om (by omega) ?_))
  exact done_zero (by simp [EV.bel, allBelow]) rfl
theorem enough_e (a b c d e f g z : Int) : (lstE a b c d e f g = 0 ∧ lstN a b c d e f g ≤ z ∧ z ≤ 4194304 ∧ z.tmod 64 = 0) ↔ (bndE a b c d e f g = 0 ∧ z.tmod 64 = 0 ∧ 36992 ≤ z ∧ z ≤ 4194304 ∧ bndN a b c d e f g + 700 ≤ (z - 32896) / 256) := by
  obtain ⟨r1, r2⟩ := bnd_rng a b c d e f g
  have r3 := bndE_rng a b c d e f g
  unfold lstE lstN
  generalize bndN a b c d e f g = n at *
  generalize bndE a b c d e f g = er at *
  generalize z.tmod 64 = q
  rcases r3 with rfl | rfl
  · simp only [ne_eq, not_true_eq_false, if_false]
    by_cases hq : 4194304 < max 36992 (32896 + (n + 700) * 256)
    · rw [if_pos hq, if_pos hq]; omega
    · rw [if_neg hq, if_neg hq]
      constructor
      · rintro ⟨_, h1, h2, h3⟩; exact ⟨by trivial, h3, by omega, h2, by omega⟩
      · rintro ⟨_, h3, h1, h2, h4⟩; exact ⟨by trivial, by omega, h2, h3⟩
  · rw [if_pos (show (2:Int) ≠ 0 by decide)]; omega
theorem aw1 : bndN 1 2024 0 0 0 0 0 = 23 := by unfold bndN; rw [if_pos (by constructor <;> decide)]; decide
theorem aw2 : bndE 1 2024 0 0 0 0 0 = 0 := by unfold bndE; rw [if_pos (by constructor <;> decide)]
theorem aw3 : bndN 1 0 32 8 16 131072 0 = 555 := by unfold bndN; rw [if_pos (by constructor <;> decide)]; decide
theorem aw4 : bndE 1 0 32 8 16 131072 0 = 0 := by unfold bndE; rw [if_pos (by constructor <;> decide)]
theorem aw5 : bndN 0 0 0 0 0 0 0 = 0 := by unfold bndN; rw [if_pos (by constructor <;> decide)]; decide
theorem aw6 : bndE 0 0 0 0 0 0 0 = 0 := by unfold bndE; rw [if_pos (by constructor <;> decide)]
theorem aw7 : lstN 0 0 0 0 0 0 0 = 212096 := by unfold lstN; rw [aw5, aw6]; decide
theorem aw8 : lstE 0 0 0 0 0 0 0 = 0 := by unfold lstE; rw [aw5, aw6]; decide
theorem awake_c : Pure Try.prog 13 [] (.bool true) := by
  have t1 : (decide (lstE 0 0 0 0 0 0 0 = 0 ∧ lstN 0 0 0 0 0 0 0 ≤ 212096 ∧ (212096 : Int) ≤ 4194304 ∧ (212096 : Int).tmod 64 = 0)) = true := by rw [aw7, aw8]; decide
  have t2 : (decide (lstE 0 0 0 0 0 0 0 = 0 ∧ lstN 0 0 0 0 0 0 0 ≤ 212032 ∧ (212032 : Int) ≤ 4194304 ∧ (212032 : Int).tmod 64 = 0)) = false := by rw [aw7, aw8]; decide
  have e1 := enough_c 0 0 0 0 0 0 0 0 0 212096
  have e2 := enough_c 0 0 0 0 0 0 0 0 0 212032
  rw [t1] at e1; rw [t2] at e2
  have c1 := bound_c 1 2024 0 0 0 0 0 0 0
  have c2 := bound_c 1 0 32 8 16 131072 0 0 0
  have c3 := least_l 0 0 0 0 0 0 0 0 0
  rw [aw1, aw2] at c1; rw [aw3, aw4] at c2; rw [aw7, aw8] at c3
  unfold st at *
  refine ecalls_in 57 [.tmp 0] Try.func13 rfl rfl rfl (by kernel_rfl) (le_ble rfl) ?_
  repeat' (first
    | refine esem_seqK 127 ?_
    | (refine esem_reg ?_; simp only [go_sem])
    | (refine esem_cond ?_; simp only [go_sem])
    | (refine esem_block ?_)
    | (refine esem_ret ?_; simp only [go_sem])
    | (refine esem_exit ?_; simp only [go_sem])
    | (refine esem_skip ?_; simp only [go_sem])
    | (refine Pure.at (c1) (by simp [allBelow, EV.bel]) (by simp [allBelow, EV.bel]) ?_; (try simp only [go_sem]))
    | (refine Pure.at (c2) (by simp [allBelow, EV.bel]) (by simp [allBelow, EV.bel]) ?_; (try simp only [go_sem]))
    | (refine Pure.at (c3) (by simp [allBelow, EV.bel]) (by simp [allBelow, EV.bel]) ?_; (try simp only [go_sem]))
    | (refine Pure.at (spare_c) (by simp [allBelow, EV.bel]) (by simp [allBelow, EV.bel]) ?_; (try simp only [go_sem]))
    | (refine Pure.at (e1) (by simp [allBelow, EV.bel]) (by simp [allBelow, EV.bel]) ?_; (try simp only [go_sem]))
    | (refine Pure.at (e2) (by simp [allBelow, EV.bel]) (by simp [allBelow, EV.bel]) ?_; (try simp only [go_sem]))
    | (simp (disch := omega) only [wrap64E, tdivE, tmodE])
    | (refine gsel_decT (fun h => ?_) (fun h => ?_) <;> (first | (exfalso; omega) | ((try simp only [opRun, opSkip, stepRun, pickZ]); (try simp only [go_sem, h]))))
    | (refine gsel_decF (fun h => ?_) (fun h => ?_) <;> (first | (exfalso; omega) | ((try simp only [opRun, opSkip, stepRun, pickZ]); (try simp only [go_sem, h]))))
    | (refine gsel_boolT (fun h => ?_) (fun h => ?_) <;> (first | (exfalso; omega) | ((try simp only [opRun, opSkip, stepRun, pickZ]); (try simp only [go_sem, h]))))
    | (refine gsel_boolF (fun h => ?_) (fun h => ?_) <;> (first | (exfalso; omega) | ((try simp only [opRun, opSkip, stepRun, pickZ]); (try simp only [go_sem, h]))))
    | (refine and_om (by omega) ?_))
  exact done_zero (by simp [EV.bel, allBelow]) rfl
end Go.Proofs.Ytafmlhflcnlalaa
