/-
  Walks and laws of the functions that the statement reaches; the statement itself stands in the last text.
-/
import Derived.Test.YtafmlhflcnlalaaSqA
namespace Go.Proofs.Ytafmlhflcnlalaa
open Go.E
set_option linter.all false
set_option maxRecDepth 20000
set_option maxHeartbeats 4000000
def st (a b c d e f g h i : Int) : EV := .agg [.int .i64 a, .int .i64 b, .int .i64 c, .int .i64 d, .int .i64 e, .int .i64 f, .int .i64 g, .int .i64 h, .int .i64 i]
structure Small (a b c d e f g : Int) : Prop where
  a0 : 0 ≤ a
  b0 : 0 ≤ b
  c0 : 0 ≤ c
  d0 : 0 ≤ d
  e0 : 0 ≤ e
  f0 : 0 ≤ f
  g0 : 0 ≤ g
  a1 : a ≤ 2147483647
  b1 : b ≤ 2147483647
  c1 : c ≤ 2147483647
  d1 : d ≤ 2147483647
  e1 : e ≤ 2147483647
  f1 : f ≤ 2147483647
  g1 : g ≤ 2147483647
def sumB (a b c d e f : Int) : Int := 2 * (a / 32) + min a 1 + a * 2 + (2 * (b / 253) + min a b) + (2 * ((2 * (b / 253) + min a b) / 16) + min a b) + (16 * c / 248 + min a c) + (32 * d / 248 + min a d) + ((16 * e + f) / 248 + e) + min (2 * a) e
open Classical in
noncomputable def bndN (a b c d e f g : Int) : Int := if Small a b c d e f g then sumB a b c d e f else 0
open Classical in
noncomputable def bndE (a b c d e f g : Int) : Int := if Small a b c d e f g then 0 else 2
theorem sum_rng {a b c d e f g : Int} (h : Small a b c d e f g) : 0 ≤ sumB a b c d e f ∧ sumB a b c d e f ≤ 999999999999 := by
  obtain ⟨a0, b0, c0, d0, e0, f0, g0, a1, b1, c1, d1, e1, f1, g1⟩ := h
  unfold sumB
  have q1 : 0 ≤ min a 1 ∧ min a 1 ≤ 1 := by omega
  have q2 : 0 ≤ min a b ∧ min a b ≤ 2147483647 := by omega
  have q3 : 0 ≤ min a c ∧ min a c ≤ 2147483647 := by omega
  have q4 : 0 ≤ min a d ∧ min a d ≤ 2147483647 := by omega
  have q5 : 0 ≤ min (2 * a) e ∧ min (2 * a) e ≤ 2147483647 := by omega
  generalize min a 1 = m1 at *
  generalize min a b = m2 at *
  generalize min a c = m3 at *
  generalize min a d = m4 at *
  generalize min (2 * a) e = m5 at *
  have q6 : 0 ≤ a / 32 ∧ a / 32 ≤ 2147483647 := by omega
  have q7 : 0 ≤ b / 253 ∧ b / 253 ≤ 2147483647 := by omega
  generalize a / 32 = d1 at *
  generalize b / 253 = d2 at *
  have q8 : 0 ≤ (2 * d2 + m2) / 16 ∧ (2 * d2 + m2) / 16 ≤ 2147483647 := by omega
  have q9 : 0 ≤ 16 * c / 248 ∧ 16 * c / 248 ≤ 2147483647 := by omega
  have qa : 0 ≤ 32 * d / 248 ∧ 32 * d / 248 ≤ 2147483647 := by omega
  have qb : 0 ≤ (16 * e + f) / 248 ∧ (16 * e + f) / 248 ≤ 2147483647 := by omega
  generalize (2 * d2 + m2) / 16 = d3 at *
  generalize 16 * c / 248 = d4 at *
  generalize 32 * d / 248 = d5 at *
  generalize (16 * e + f) / 248 = d6 at *
  constructor <;> omega
theorem bnd_rng (a b c d e f g : Int) : 0 ≤ bndN a b c d e f g ∧ bndN a b c d e f g ≤ 999999999999 := by
  unfold bndN
  split
  · exact sum_rng (by assumption)
  · constructor <;> omega
theorem lohi {a b c d e f g : Int} : Small a b c d e f g ↔ 0 ≤ min (min (min (min (min (min a b) c) d) e) f) g ∧ max (max (max (max (max (max a b) c) d) e) f) g ≤ 2147483647 := by
  simp only [Int.le_min, Int.max_le]
  constructor
  · rintro ⟨a0, b0, c0, d0, e0, f0, g0, a1, b1, c1, d1, e1, f1, g1⟩
    exact ⟨⟨⟨⟨⟨⟨⟨a0, b0⟩, c0⟩, d0⟩, e0⟩, f0⟩, g0⟩, ⟨⟨⟨⟨⟨⟨a1, b1⟩, c1⟩, d1⟩, e1⟩, f1⟩, g1⟩⟩
  · rintro ⟨⟨⟨⟨⟨⟨⟨a0, b0⟩, c0⟩, d0⟩, e0⟩, f0⟩, g0⟩, ⟨⟨⟨⟨⟨⟨a1, b1⟩, c1⟩, d1⟩, e1⟩, f1⟩, g1⟩⟩
    exact ⟨a0, b0, c0, d0, e0, f0, g0, a1, b1, c1, d1, e1, f1, g1⟩

theorem lt0F {x : Int} (h : 0 ≤ x) : (x < 0) = False := by simp; omega
theorem ltF {x y : Int} (h : y ≤ x) : (x < y) = False := by simp; omega
theorem bound_s (a b c d e f g h i : Int) (hs : Small a b c d e f g) : Pure Try.prog 7 [st a b c d e f g h i] (.tuple [.int .i64 (sumB a b c d e f), .int .i64 0]) := by
  unfold st sumB
  have h1 := lt0F (lohi.1 hs).1
  have h2 := ltF (lohi.1 hs).2
  obtain ⟨a0, b0, c0, d0, e0, f0, g0, a1, b1, c1, d1, e1, f1, g1⟩ := hs
  refine ecalls_in 131 [.tmp 2, .tmp 3] Try.func7 rfl rfl rfl (by kernel_rfl) (le_ble rfl) ?_
  repeat' (first
    | refine esem_seqK 37218383881977644441306632872221737727 ?_
    | (refine esem_reg ?_; simp only [go_sem])
    | (refine esem_cond ?_; simp only [go_sem])
    | (refine esem_block ?_)
    | (refine esem_ret ?_; simp only [go_sem])
    | (refine esem_exit ?_; simp only [go_sem])
    | (refine esem_skip ?_; simp only [go_sem])
    | (refine drawQ (id := 6) mixed [(0, []), (4, []), (1, []), (5, []), (6, []), (2, [1, 5]), (3, [5]), (7, []), (8, []), (9, [])] (by kernel_rfl) ?_; simp only [go_sem])
    | (refine drawQ (id := 7) mixed [(0, []), (1, []), (2, [1]), (3, []), (4, []), (5, []), (6, [])] (by kernel_rfl) ?_; simp only [go_sem])
    | (refine drawQ (id := 8) mixed [(0, []), (3, []), (5, []), (1, []), (4, []), (6, []), (7, []), (2, [4, 6]), (8, []), (9, []), (10, [])] (by kernel_rfl) ?_; simp only [go_sem])
    | (refine drawQ (id := 9) mixed [(0, []), (4, []), (6, []), (1, []), (5, []), (7, []), (8, []), (2, [1, 5, 7]), (3, [5, 7]), (9, []), (10, []), (11, [])] (by kernel_rfl) ?_; simp only [go_sem])
    | (refine Pure.at (fill_c _ (by omega) (by omega)) (by simp [allBelow, EV.bel]) (by simp [allBelow, EV.bel]) ?_; (try simp only [go_sem]))
    | (refine Pure.at (two_c _ _ (by omega) (by omega) (by omega) (by omega)) (by simp [allBelow, EV.bel]) (by simp [allBelow, EV.bel]) ?_; (try simp only [go_sem]))
    | (refine Pure.at (need_c) (by simp [allBelow, EV.bel]) (by simp [allBelow, EV.bel]) ?_; (try simp only [go_sem]))
    | simp only [go_sem, h1, h2]
    | (simp (disch := omega) only [wrap64E, tdivE, tmodE])
    | (refine gsel_decT (fun h => ?_) (fun h => ?_) <;> (first | (exfalso; omega) | ((try simp only [opRun, opSkip, stepRun, pickZ]); (try simp only [go_sem, h]))))
    | (refine gsel_decF (fun h => ?_) (fun h => ?_) <;> (first | (exfalso; omega) | ((try simp only [opRun, opSkip, stepRun, pickZ]); (try simp only [go_sem, h]))))
    | (refine gsel_boolT (fun h => ?_) (fun h => ?_) <;> (first | (exfalso; omega) | ((try simp only [opRun, opSkip, stepRun, pickZ]); (try simp only [go_sem, h]))))
    | (refine gsel_boolF (fun h => ?_) (fun h => ?_) <;> (first | (exfalso; omega) | ((try simp only [opRun, opSkip, stepRun, pickZ]); (try simp only [go_sem, h]))))
    | (refine and_om (by omega) ?_))
  have q1 : 0 ≤ 2 * (a / 32) + min a 1 ∧ 2 * (a / 32) + min a 1 ≤ 99999999999 := by omega
  have q2 : 0 ≤ a * 2 ∧ a * 2 ≤ 99999999999 := by omega
  have q3 : 0 ≤ 2 * (b / 253) + min a b ∧ 2 * (b / 253) + min a b ≤ 99999999999 := by omega
  generalize 2 * (b / 253) + min a b = x3 at *
  have q4 : 0 ≤ 2 * (x3 / 16) + min a b ∧ 2 * (x3 / 16) + min a b ≤ 999999999999 := by omega
  have q5 : 0 ≤ 16 * c / 248 + min a c ∧ 16 * c / 248 + min a c ≤ 99999999999 := by omega
  have q6 : 0 ≤ 32 * d / 248 + min a d ∧ 32 * d / 248 + min a d ≤ 99999999999 := by omega
  have q7 : 0 ≤ (16 * e + f) / 248 + e ∧ (16 * e + f) / 248 + e ≤ 99999999999 := by omega
  have q8 : 0 ≤ min (2 * a) e ∧ min (2 * a) e ≤ 99999999999 := by omega
  generalize 2 * (a / 32) + min a 1 = x1 at *
  generalize a * 2 = x2 at *
  generalize 2 * (x3 / 16) + min a b = x4 at *
  generalize 16 * c / 248 + min a c = x5 at *
  generalize 32 * d / 248 + min a d = x6 at *
  generalize (16 * e + f) / 248 + e = x7 at *
  generalize min (2 * a) e = x8 at *
  clear h1 h2 a0 b0 c0 d0 e0 f0 g0 a1 b1 c1 d1 e1 f1 g1
  repeat' (first
    | refine esem_seqK 37218383881977644441306632872221737727 ?_
    | (refine esem_reg ?_; simp only [go_sem])
    | (refine esem_cond ?_; simp only [go_sem])
    | (refine esem_block ?_)
    | (refine esem_ret ?_; simp only [go_sem])
    | (refine esem_exit ?_; simp only [go_sem])
    | (refine esem_skip ?_; simp only [go_sem])
    | (refine drawQ (id := 6) mixed [(0, []), (4, []), (1, []), (5, []), (6, []), (2, [1, 5]), (3, [5]), (7, []), (8, []), (9, [])] (by kernel_rfl) ?_; simp only [go_sem])
    | (refine drawQ (id := 7) mixed [(0, []), (1, []), (2, [1]), (3, []), (4, []), (5, []), (6, [])] (by kernel_rfl) ?_; simp only [go_sem])
    | (refine drawQ (id := 8) mixed [(0, []), (3, []), (5, []), (1, []), (4, []), (6, []), (7, []), (2, [4, 6]), (8, []), (9, []), (10, [])] (by kernel_rfl) ?_; simp only [go_sem])
    | (refine drawQ (id := 9) mixed [(0, []), (4, []), (6, []), (1, []), (5, []), (7, []), (8, []), (2, [1, 5, 7]), (3, [5, 7]), (9, []), (10, []), (11, [])] (by kernel_rfl) ?_; simp only [go_sem])
    | (refine esem_loopN 37218383881977644441306632872221737727 9 ?_; simp only [go_sem])
    | (simp (disch := omega) only [wrap64E, tdivE, tmodE])
    | (refine gsel_decT (fun h => ?_) (fun h => ?_) <;> (first | (exfalso; omega) | ((try simp only [opRun, opSkip, stepRun, pickZ]); (try simp only [go_sem, h]))))
    | (refine gsel_decF (fun h => ?_) (fun h => ?_) <;> (first | (exfalso; omega) | ((try simp only [opRun, opSkip, stepRun, pickZ]); (try simp only [go_sem, h]))))
    | (refine gsel_boolT (fun h => ?_) (fun h => ?_) <;> (first | (exfalso; omega) | ((try simp only [opRun, opSkip, stepRun, pickZ]); (try simp only [go_sem, h]))))
    | (refine gsel_boolF (fun h => ?_) (fun h => ?_) <;> (first | (exfalso; omega) | ((try simp only [opRun, opSkip, stepRun, pickZ]); (try simp only [go_sem, h]))))
    | (refine and_om (by omega) ?_))
  exact done_zero (by simp [EV.bel, allBelow]) (by rw [Int.zero_add])
theorem bound_n (a b c d e f g h i : Int) (hs : ¬ Small a b c d e f g) : Pure Try.prog 7 [st a b c d e f g h i] (.tuple [.int .i64 0, .int .i64 2]) := by
  unfold st
  rw [lohi, Decidable.not_and_iff_or_not, Int.not_le, Int.not_le] at hs
  refine ecalls_in 131 [.tmp 2, .tmp 3] Try.func7 rfl rfl rfl (by kernel_rfl) (le_ble rfl) ?_
  repeat' (first
    | refine esem_seqK 37218383881977644441306632872221737727 ?_
    | (refine esem_reg ?_; simp only [go_sem])
    | (refine esem_cond ?_; simp only [go_sem])
    | (refine esem_block ?_)
    | (refine esem_ret ?_; simp only [go_sem])
    | (refine esem_exit ?_; simp only [go_sem])
    | (refine esem_skip ?_; simp only [go_sem])
    | (refine drawQ (id := 6) mixed [(0, []), (4, []), (1, []), (5, []), (6, []), (2, [1, 5]), (3, [5]), (7, []), (8, []), (9, [])] (by kernel_rfl) ?_; simp only [go_sem])
    | (refine drawQ (id := 7) mixed [(0, []), (1, []), (2, [1]), (3, []), (4, []), (5, []), (6, [])] (by kernel_rfl) ?_; simp only [go_sem])
    | (refine drawQ (id := 8) mixed [(0, []), (3, []), (5, []), (1, []), (4, []), (6, []), (7, []), (2, [4, 6]), (8, []), (9, []), (10, [])] (by kernel_rfl) ?_; simp only [go_sem])
    | (refine drawQ (id := 9) mixed [(0, []), (4, []), (6, []), (1, []), (5, []), (7, []), (8, []), (2, [1, 5, 7]), (3, [5, 7]), (9, []), (10, []), (11, [])] (by kernel_rfl) ?_; simp only [go_sem])
    | (simp (disch := omega) only [wrap64E, tdivE, tmodE])
    | (refine gsel_decT (fun h => ?_) (fun h => ?_) <;> (first | (exfalso; omega) | ((try simp only [opRun, opSkip, stepRun, pickZ]); (try simp only [go_sem, h]))))
    | (refine gsel_decF (fun h => ?_) (fun h => ?_) <;> (first | (exfalso; omega) | ((try simp only [opRun, opSkip, stepRun, pickZ]); (try simp only [go_sem, h]))))
    | (refine gsel_boolT (fun h => ?_) (fun h => ?_) <;> (first | (exfalso; omega) | ((try simp only [opRun, opSkip, stepRun, pickZ]); (try simp only [go_sem, h]))))
    | (refine gsel_boolF (fun h => ?_) (fun h => ?_) <;> (first | (exfalso; omega) | ((try simp only [opRun, opSkip, stepRun, pickZ]); (try simp only [go_sem, h]))))
    | (refine and_om (by omega) ?_))
  · exact done_zero (by simp [EV.bel, allBelow]) rfl
  · exact done_zero (by simp [EV.bel, allBelow]) rfl
theorem bound_c (a b c d e f g h i : Int) : Pure Try.prog 7 [st a b c d e f g h i] (.tuple [.int .i64 (bndN a b c d e f g), .int .i64 (bndE a b c d e f g)]) := by
  unfold bndN bndE
  split
  · exact bound_s a b c d e f g h i (by assumption)
  · exact bound_n a b c d e f g h i (by assumption)

end Go.Proofs.Ytafmlhflcnlalaa
