/-
  Walks and laws of the functions that the statement reaches; the statement itself stands in the last text.
-/
import Derived.Test.YtafmlhflcnlalaaSqG
import Derived.Test.YtafmlhflcnlalaaEvT
namespace Go.Proofs.Ytafmlhflcnlalaa
set_option linter.all false
open Go.E Go.ChangeShapes Go.WideShapes Go.ChangeAt Go.RowKit
theorem own : ownKnob Try.prog.godebug = none := by kernel_rfl
theorem laidOut : laidOutB Try.prog = true := by kernel_rfl
theorem nine {w : World} {r : Reach} {base : Nat} {v : Value} (h : Value.okWide Try.prog w r base 23 v) : ∃ a b c d e f g i j : Int, v = .agg #[.int .i64 a, .int .i64 b, .int .i64 c, .int .i64 d, .int .i64 e, .int .i64 f, .int .i64 g, .int .i64 i, .int .i64 j] := by
  obtain ⟨l, rfl, hl, hg⟩ := okWide_cells (ts := [3, 3, 3, 3, 3, 3, 3, 3, 3]) Try.underlying23 (by kernel_rfl) (by kernel_rfl) h
  match l, hl with
  | [c0, c1, c2, c3, c4, c5, c6, c7, c8], _ =>
    obtain ⟨x0, e0, k0⟩ := hg 0 3 rfl
    obtain ⟨x1, e1, k1⟩ := hg 1 3 rfl
    obtain ⟨x2, e2, k2⟩ := hg 2 3 rfl
    obtain ⟨x3, e3, k3⟩ := hg 3 3 rfl
    obtain ⟨x4, e4, k4⟩ := hg 4 3 rfl
    obtain ⟨x5, e5, k5⟩ := hg 5 3 rfl
    obtain ⟨x6, e6, k6⟩ := hg 6 3 rfl
    obtain ⟨x7, e7, k7⟩ := hg 7 3 rfl
    obtain ⟨x8, e8, k8⟩ := hg 8 3 rfl
    simp only [List.getElem?_cons_zero, List.getElem?_cons_succ, Option.some.injEq] at e0 e1 e2 e3 e4 e5 e6 e7 e8
    subst e0 e1 e2 e3 e4 e5 e6 e7 e8
    obtain ⟨n0, rfl, _⟩ := cell_int Try.underlying3 k0
    obtain ⟨n1, rfl, _⟩ := cell_int Try.underlying3 k1
    obtain ⟨n2, rfl, _⟩ := cell_int Try.underlying3 k2
    obtain ⟨n3, rfl, _⟩ := cell_int Try.underlying3 k3
    obtain ⟨n4, rfl, _⟩ := cell_int Try.underlying3 k4
    obtain ⟨n5, rfl, _⟩ := cell_int Try.underlying3 k5
    obtain ⟨n6, rfl, _⟩ := cell_int Try.underlying3 k6
    obtain ⟨n7, rfl, _⟩ := cell_int Try.underlying3 k7
    obtain ⟨n8, rfl, _⟩ := cell_int Try.underlying3 k8
    exact ⟨_, _, _, _, _, _, _, _, _, rfl⟩
theorem nine_vr {ρ : Env} (a b c d e f g i j : Int) : VR ρ (st a b c d e f g i j) (.agg #[.int .i64 a, .int .i64 b, .int .i64 c, .int .i64 d, .int .i64 e, .int .i64 f, .int .i64 g, .int .i64 i, .int .i64 j]) := by
  simp [st, VR, VRs]
theorem spaceBounds_calls (a0 b0 c0 d0 e0 f0 g0 i0 j0 : Int) (x1 : Int) (w : World) : Calls Try.prog 3 #[.agg #[.int .i64 a0, .int .i64 b0, .int .i64 c0, .int .i64 d0, .int .i64 e0, .int .i64 f0, .int .i64 g0, .int .i64 i0, .int .i64 j0], .int .i64 x1] w fun e w' => e = .returned (.bool true) ∧ Below w.heap.size w w' := by
  refine ((spaceBounds_law a0 b0 c0 d0 e0 f0 g0 i0 j0 x1).toCalls Try.func3 rfl (by kernel_rfl) (VRs.cons (nine_vr ..) (VRs.cons (by rw [VR]) VRs.nil)) w).mono ?_
  rintro e w' ⟨x, s', ρ', hr, hb, rfl, rfl⟩
  obtain ⟨v', rfl, hv⟩ := hr
  rw [VR] at hv
  exact ⟨by rw [hv], hb⟩
set_option maxRecDepth 100000 in
theorem spaceBounds_lifted (os : Os) (started : os.Started) (H : Type) (enc : TypeId × Value → H) :
    ReturnsInHanded {} Try.checked os 3 .any (Rows.spaceBoundsSpec.pre6 enc Try.prog Try.f3 Rows.spaceBoundsRow.domain false) (Rows.spaceBoundsSpec.post enc Try.prog Try.f3 false true false false) := by
  refine returnsInHanded_of_change (C := Try.checked) own started (by kernel_rfl) Try.func3
    (ChangeSpec.witness6 (enc := enc) (C := Try.checked) false ⟨#[], #[.agg #[.int .i64 0, .int .i64 0, .int .i64 0, .int .i64 0, .int .i64 0, .int .i64 0, .int .i64 0, .int .i64 0, .int .i64 0], .int .i64 0], []⟩ 8 (by kernel_rfl) (by kernel_rfl) (by kernel_rfl) (by kernel_rfl)) ?_
  intro W base args ds gs before hval0 hW hcnd _
  have hval : ∀ (j : Nat) t v, Try.f3.params[j]? = some t → args[j]? = some v → Value.okWide Try.prog W .any base t v := hval0
  have hW' := hW
  obtain ⟨p, q, hA0, hV, rfl, hfz, hnd⟩ := hW
  have hA : DataW.TrodAll enc Try.prog W 0 (fun _ => true) true Try.f3.params.toList args.toList ds p := hA0
  rw [Try.params3] at hA hval
  have hstay := hA
  obtain ⟨v0, vs0, d0, ds0, p0, q0, hargs, rfl, rfl, h0, r0⟩ := trodAll_cons hA
  obtain ⟨v1, vs1, d1, ds1, p1, q1, rfl, rfl, rfl, h1, r1⟩ := trodAll_cons r0
  obtain ⟨rfl, rfl, rfl⟩ := trodAll_nil r1
  obtain rfl : args = #[v0, v1] := by cases args; simp_all
  obtain ⟨rfl, rfl⟩ := trodVars_none hV
  obtain ⟨a0, b0, c0, d0, e0, f0, g0, i0, j0, rfl⟩ := nine (hval 0 23 v0 rfl rfl)
  obtain ⟨x1, rfl, hx1⟩ := cell_int Try.underlying3 (okWide_cell (by rw [Try.underlying3]; trivial) (hval 1 3 v1 rfl rfl))
  refine (spaceBounds_calls a0 b0 c0 d0 e0 f0 g0 i0 j0 x1 W).mono fun e W' ⟨he, bel⟩ => ?_
  subst he
  exact ⟨_, rfl, _, _, _, [], _, [], hW', trodAll_mk1 (shut_bool Try.underlying4 _), args_stay laidOut bel hstay (by intro t ht; simp at ht; rcases ht with rfl | rfl <;> exact ⟨by kernel_rfl, of_decide_eq_true (by kernel_rfl)⟩), rfl, bel.frame _, fun h => by cases h⟩
theorem spaceBounds_over : Rows.spaceBoundsRow.holds Try.pinned (OpenSpec.ofChange Rows.spaceBoundsSpec) :=
  OpenClaim.holds_of_wide 3 Try.f3 rfl rfl rfl rfl rfl rfl rfl ⟨rfl, rfl, rfl, rfl, rfl⟩ rfl rfl rfl rfl rfl (by kernel_rfl) Try.func3 (by kernel_rfl)
    (of_decide_eq_true (by kernel_rfl)) (by unfold Func.isWrapper; first | (rw [if_pos (by decide +kernel)]; kernel_rfl) | (rw [if_neg (by decide +kernel)]; exact ⟨rfl, rfl⟩))
    (fun os started H enc _ => spaceBounds_lifted os started H enc)
theorem spaceBounds_proved : Rows.SpaceBoundsSaid := spaceBounds_over
theorem spaceLeast_calls (a0 b0 c0 d0 e0 f0 g0 i0 j0 : Int) (w : World) : Calls Try.prog 4 #[.agg #[.int .i64 a0, .int .i64 b0, .int .i64 c0, .int .i64 d0, .int .i64 e0, .int .i64 f0, .int .i64 g0, .int .i64 i0, .int .i64 j0]] w fun e w' => e = .returned (.bool true) ∧ Below w.heap.size w w' := by
  refine ((spaceLeast_law a0 b0 c0 d0 e0 f0 g0 i0 j0).toCalls Try.func4 rfl (by kernel_rfl) (VRs.cons (nine_vr ..) VRs.nil) w).mono ?_
  rintro e w' ⟨x, s', ρ', hr, hb, rfl, rfl⟩
  obtain ⟨v', rfl, hv⟩ := hr
  rw [VR] at hv
  exact ⟨by rw [hv], hb⟩
set_option maxRecDepth 100000 in
theorem spaceLeast_lifted (os : Os) (started : os.Started) (H : Type) (enc : TypeId × Value → H) :
    ReturnsInHanded {} Try.checked os 4 .any (Rows.spaceLeastSpec.pre6 enc Try.prog Try.f4 Rows.spaceLeastRow.domain false) (Rows.spaceLeastSpec.post enc Try.prog Try.f4 false true false false) := by
  refine returnsInHanded_of_change (C := Try.checked) own started (by kernel_rfl) Try.func4
    (ChangeSpec.witness6 (enc := enc) (C := Try.checked) false ⟨#[], #[.agg #[.int .i64 0, .int .i64 0, .int .i64 0, .int .i64 0, .int .i64 0, .int .i64 0, .int .i64 0, .int .i64 0, .int .i64 0]], []⟩ 8 (by kernel_rfl) (by kernel_rfl) (by kernel_rfl) (by kernel_rfl)) ?_
  intro W base args ds gs before hval0 hW hcnd _
  have hval : ∀ (j : Nat) t v, Try.f4.params[j]? = some t → args[j]? = some v → Value.okWide Try.prog W .any base t v := hval0
  have hW' := hW
  obtain ⟨p, q, hA0, hV, rfl, hfz, hnd⟩ := hW
  have hA : DataW.TrodAll enc Try.prog W 0 (fun _ => true) true Try.f4.params.toList args.toList ds p := hA0
  rw [Try.params4] at hA hval
  have hstay := hA
  obtain ⟨v0, vs0, d0, ds0, p0, q0, hargs, rfl, rfl, h0, r0⟩ := trodAll_cons hA
  obtain ⟨rfl, rfl, rfl⟩ := trodAll_nil r0
  obtain rfl : args = #[v0] := by cases args; simp_all
  obtain ⟨rfl, rfl⟩ := trodVars_none hV
  obtain ⟨a0, b0, c0, d0, e0, f0, g0, i0, j0, rfl⟩ := nine (hval 0 23 v0 rfl rfl)
  refine (spaceLeast_calls a0 b0 c0 d0 e0 f0 g0 i0 j0 W).mono fun e W' ⟨he, bel⟩ => ?_
  subst he
  exact ⟨_, rfl, _, _, _, [], _, [], hW', trodAll_mk1 (shut_bool Try.underlying4 _), args_stay laidOut bel hstay (by intro t ht; simp at ht; subst ht; exact ⟨by kernel_rfl, of_decide_eq_true (by kernel_rfl)⟩), rfl, bel.frame _, fun h => by cases h⟩
theorem spaceLeast_over : Rows.spaceLeastRow.holds Try.pinned (OpenSpec.ofChange Rows.spaceLeastSpec) :=
  OpenClaim.holds_of_wide 4 Try.f4 rfl rfl rfl rfl rfl rfl rfl ⟨rfl, rfl, rfl, rfl, rfl⟩ rfl rfl rfl rfl rfl (by kernel_rfl) Try.func4 (by kernel_rfl)
    (of_decide_eq_true (by kernel_rfl)) (by unfold Func.isWrapper; first | (rw [if_pos (by decide +kernel)]; kernel_rfl) | (rw [if_neg (by decide +kernel)]; exact ⟨rfl, rfl⟩))
    (fun os started H enc _ => spaceLeast_lifted os started H enc)
theorem spaceLeast_proved : Rows.SpaceLeastSaid := spaceLeast_over
theorem spaceRises_calls (a0 b0 c0 d0 e0 f0 g0 i0 j0 : Int) (a1 b1 c1 d1 e1 f1 g1 i1 j1 : Int) (w : World) : Calls Try.prog 5 #[.agg #[.int .i64 a0, .int .i64 b0, .int .i64 c0, .int .i64 d0, .int .i64 e0, .int .i64 f0, .int .i64 g0, .int .i64 i0, .int .i64 j0], .agg #[.int .i64 a1, .int .i64 b1, .int .i64 c1, .int .i64 d1, .int .i64 e1, .int .i64 f1, .int .i64 g1, .int .i64 i1, .int .i64 j1]] w fun e w' => e = .returned (.bool true) ∧ Below w.heap.size w w' := by
  refine ((spaceRises_law a0 b0 c0 d0 e0 f0 g0 i0 j0 a1 b1 c1 d1 e1 f1 g1 i1 j1).toCalls Try.func5 rfl (by kernel_rfl) (VRs.cons (nine_vr ..) (VRs.cons (nine_vr ..) VRs.nil)) w).mono ?_
  rintro e w' ⟨x, s', ρ', hr, hb, rfl, rfl⟩
  obtain ⟨v', rfl, hv⟩ := hr
  rw [VR] at hv
  exact ⟨by rw [hv], hb⟩
set_option maxRecDepth 100000 in
theorem spaceRises_lifted (os : Os) (started : os.Started) (H : Type) (enc : TypeId × Value → H) :
    ReturnsInHanded {} Try.checked os 5 .any (Rows.spaceRisesSpec.pre6 enc Try.prog Try.f5 Rows.spaceRisesRow.domain false) (Rows.spaceRisesSpec.post enc Try.prog Try.f5 false true false false) := by
  refine returnsInHanded_of_change (C := Try.checked) own started (by kernel_rfl) Try.func5
    (ChangeSpec.witness6 (enc := enc) (C := Try.checked) false ⟨#[], #[.agg #[.int .i64 0, .int .i64 0, .int .i64 0, .int .i64 0, .int .i64 0, .int .i64 0, .int .i64 0, .int .i64 0, .int .i64 0], .agg #[.int .i64 0, .int .i64 0, .int .i64 0, .int .i64 0, .int .i64 0, .int .i64 0, .int .i64 0, .int .i64 0, .int .i64 0]], []⟩ 8 (by kernel_rfl) (by kernel_rfl) (by kernel_rfl) (by kernel_rfl)) ?_
  intro W base args ds gs before hval0 hW hcnd _
  have hval : ∀ (j : Nat) t v, Try.f5.params[j]? = some t → args[j]? = some v → Value.okWide Try.prog W .any base t v := hval0
  have hW' := hW
  obtain ⟨p, q, hA0, hV, rfl, hfz, hnd⟩ := hW
  have hA : DataW.TrodAll enc Try.prog W 0 (fun _ => true) true Try.f5.params.toList args.toList ds p := hA0
  rw [Try.params5] at hA hval
  have hstay := hA
  obtain ⟨v0, vs0, d0, ds0, p0, q0, hargs, rfl, rfl, h0, r0⟩ := trodAll_cons hA
  obtain ⟨v1, vs1, d1, ds1, p1, q1, rfl, rfl, rfl, h1, r1⟩ := trodAll_cons r0
  obtain ⟨rfl, rfl, rfl⟩ := trodAll_nil r1
  obtain rfl : args = #[v0, v1] := by cases args; simp_all
  obtain ⟨rfl, rfl⟩ := trodVars_none hV
  obtain ⟨a0, b0, c0, d0, e0, f0, g0, i0, j0, rfl⟩ := nine (hval 0 23 v0 rfl rfl)
  obtain ⟨a1, b1, c1, d1, e1, f1, g1, i1, j1, rfl⟩ := nine (hval 1 23 v1 rfl rfl)
  refine (spaceRises_calls a0 b0 c0 d0 e0 f0 g0 i0 j0 a1 b1 c1 d1 e1 f1 g1 i1 j1 W).mono fun e W' ⟨he, bel⟩ => ?_
  subst he
  exact ⟨_, rfl, _, _, _, [], _, [], hW', trodAll_mk1 (shut_bool Try.underlying4 _), args_stay laidOut bel hstay (by intro t ht; simp at ht; subst ht; exact ⟨by kernel_rfl, of_decide_eq_true (by kernel_rfl)⟩), rfl, bel.frame _, fun h => by cases h⟩
theorem spaceRises_over : Rows.spaceRisesRow.holds Try.pinned (OpenSpec.ofChange Rows.spaceRisesSpec) :=
  OpenClaim.holds_of_wide 5 Try.f5 rfl rfl rfl rfl rfl rfl rfl ⟨rfl, rfl, rfl, rfl, rfl⟩ rfl rfl rfl rfl rfl (by kernel_rfl) Try.func5 (by kernel_rfl)
    (of_decide_eq_true (by kernel_rfl)) (by unfold Func.isWrapper; first | (rw [if_pos (by decide +kernel)]; kernel_rfl) | (rw [if_neg (by decide +kernel)]; exact ⟨rfl, rfl⟩))
    (fun os started H enc _ => spaceRises_lifted os started H enc)
theorem spaceRises_proved : Rows.SpaceRisesSaid := spaceRises_over
theorem spaceSizes_calls (a0 b0 c0 d0 e0 f0 g0 i0 j0 : Int) (x1 : Int) (w : World) : Calls Try.prog 6 #[.agg #[.int .i64 a0, .int .i64 b0, .int .i64 c0, .int .i64 d0, .int .i64 e0, .int .i64 f0, .int .i64 g0, .int .i64 i0, .int .i64 j0], .int .i64 x1] w fun e w' => e = .returned (.bool true) ∧ Below w.heap.size w w' := by
  refine ((spaceSizes_law a0 b0 c0 d0 e0 f0 g0 i0 j0 x1).toCalls Try.func6 rfl (by kernel_rfl) (VRs.cons (nine_vr ..) (VRs.cons (by rw [VR]) VRs.nil)) w).mono ?_
  rintro e w' ⟨x, s', ρ', hr, hb, rfl, rfl⟩
  obtain ⟨v', rfl, hv⟩ := hr
  rw [VR] at hv
  exact ⟨by rw [hv], hb⟩
set_option maxRecDepth 100000 in
theorem spaceSizes_lifted (os : Os) (started : os.Started) (H : Type) (enc : TypeId × Value → H) :
    ReturnsInHanded {} Try.checked os 6 .any (Rows.spaceSizesSpec.pre6 enc Try.prog Try.f6 Rows.spaceSizesRow.domain false) (Rows.spaceSizesSpec.post enc Try.prog Try.f6 false true false false) := by
  refine returnsInHanded_of_change (C := Try.checked) own started (by kernel_rfl) Try.func6
    (ChangeSpec.witness6 (enc := enc) (C := Try.checked) false ⟨#[], #[.agg #[.int .i64 0, .int .i64 0, .int .i64 0, .int .i64 0, .int .i64 0, .int .i64 0, .int .i64 0, .int .i64 0, .int .i64 0], .int .i64 0], []⟩ 8 (by kernel_rfl) (by kernel_rfl) (by kernel_rfl) (by kernel_rfl)) ?_
  intro W base args ds gs before hval0 hW hcnd _
  have hval : ∀ (j : Nat) t v, Try.f6.params[j]? = some t → args[j]? = some v → Value.okWide Try.prog W .any base t v := hval0
  have hW' := hW
  obtain ⟨p, q, hA0, hV, rfl, hfz, hnd⟩ := hW
  have hA : DataW.TrodAll enc Try.prog W 0 (fun _ => true) true Try.f6.params.toList args.toList ds p := hA0
  rw [Try.params6] at hA hval
  have hstay := hA
  obtain ⟨v0, vs0, d0, ds0, p0, q0, hargs, rfl, rfl, h0, r0⟩ := trodAll_cons hA
  obtain ⟨v1, vs1, d1, ds1, p1, q1, rfl, rfl, rfl, h1, r1⟩ := trodAll_cons r0
  obtain ⟨rfl, rfl, rfl⟩ := trodAll_nil r1
  obtain rfl : args = #[v0, v1] := by cases args; simp_all
  obtain ⟨rfl, rfl⟩ := trodVars_none hV
  obtain ⟨a0, b0, c0, d0, e0, f0, g0, i0, j0, rfl⟩ := nine (hval 0 23 v0 rfl rfl)
  obtain ⟨x1, rfl, hx1⟩ := cell_int Try.underlying3 (okWide_cell (by rw [Try.underlying3]; trivial) (hval 1 3 v1 rfl rfl))
  refine (spaceSizes_calls a0 b0 c0 d0 e0 f0 g0 i0 j0 x1 W).mono fun e W' ⟨he, bel⟩ => ?_
  subst he
  exact ⟨_, rfl, _, _, _, [], _, [], hW', trodAll_mk1 (shut_bool Try.underlying4 _), args_stay laidOut bel hstay (by intro t ht; simp at ht; rcases ht with rfl | rfl <;> exact ⟨by kernel_rfl, of_decide_eq_true (by kernel_rfl)⟩), rfl, bel.frame _, fun h => by cases h⟩
theorem spaceSizes_over : Rows.spaceSizesRow.holds Try.pinned (OpenSpec.ofChange Rows.spaceSizesSpec) :=
  OpenClaim.holds_of_wide 6 Try.f6 rfl rfl rfl rfl rfl rfl rfl ⟨rfl, rfl, rfl, rfl, rfl⟩ rfl rfl rfl rfl rfl (by kernel_rfl) Try.func6 (by kernel_rfl)
    (of_decide_eq_true (by kernel_rfl)) (by unfold Func.isWrapper; first | (rw [if_pos (by decide +kernel)]; kernel_rfl) | (rw [if_neg (by decide +kernel)]; exact ⟨rfl, rfl⟩))
    (fun os started H enc _ => spaceSizes_lifted os started H enc)
theorem spaceSizes_proved : Rows.SpaceSizesSaid := spaceSizes_over
#print axioms spaceBounds_proved
#print axioms spaceLeast_proved
#print axioms spaceRises_proved
#print axioms spaceSizes_proved
end Go.Proofs.Ytafmlhflcnlalaa
