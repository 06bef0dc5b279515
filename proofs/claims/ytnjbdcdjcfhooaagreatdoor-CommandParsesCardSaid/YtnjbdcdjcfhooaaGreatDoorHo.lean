/-
  Own work: walks and laws of the functions that the statement reaches; the statement itself stands in the last text.
-/
import Derived.Test.YtnjbdcdjcfhooaaGreatDoorHn
import Derived.Test.YtnjbdcdjcfhooaaGreatDoorCards
import Derived.Test.YtnjbdcdjcfhooaaGreatDoorTie
import Derived.Lib.LaidU8
import Derived.OpenShut
import Derived.ProofKit
import Derived.Test.YtnjbdcdjcfhooaaGreatDoorEd
import Derived.Lay
import Derived.LaidHandle
import Derived.LaidLaws
import Derived.LaidMore
import Derived.SevenTiedAt
import Derived.Stop.Joined
namespace Go.Proofs.YtnjbdcdjcfhooaaGreatDoor
open Go.E Go.ChangeShapes Go.WideShapes Go.ChangeAt Go.RowKit
set_option linter.all false
set_option maxRecDepth 100000
/-! What the listed variables hold. -/
abbrev laidL : List (String × DataW Unit) := Rows.commandParsesRow.laid
theorem glv {W : World} {name : String} {g : Nat} {cs : Array Value} (hg : Tryz.prog.globalNamed name = some g) (h : W.var? Tryz.prog name = some cs) : ∃ t, GlOK W ⟨g, cs.toList, t⟩ := by
  unfold World.var? at h
  rw [hg] at h
  simp only [Option.bind_some] at h
  split at h
  · rename_i cs' t fr he
    cases h
    exact ⟨t, fr, he⟩
  · cases h
theorem gl_tab {W : World} {name : String} {k : IntKind} {zs : List Int} {g : Nat} {t e : TypeId} {n : Nat} (h : Lib.VarReads Tryz.prog W name (Lib.tabData k zs)) (hg : Tryz.prog.globalNamed name = some g) (hty : (Tryz.prog.globals[g]?).map (·.type) = some t)
    (ht : Tryz.prog.underlying t = some (.array n e)) (he : Tryz.prog.underlying e = some (.int k)) (hce : Tryz.prog.cellsOf e = 1) (hct : Tryz.prog.cellsOf t = n) : ∃ t, GlOK W ⟨g, zs.map fun z => Value.int k z, t⟩ := by
  obtain ⟨g', t', cs, fuel, p, hg', ht', hvar, hd⟩ := h
  obtain rfl := Option.some.inj (hg.symm.trans hg')
  obtain rfl := Option.some.inj (hty.symm.trans ht')
  have := glv hg hvar
  rwa [Lib.cells_of_tab ht he hce hct hd] at this
def tzL : List Int := [0, 1, 56, 2, 57, 49, 28, 3, 61, 58, 42, 50, 38, 29, 17, 4, 62, 47, 59, 36, 45, 43, 51, 22, 53, 39, 33, 30, 24, 18, 12, 5, 63, 55, 48, 27, 60, 41, 37, 16, 46, 35, 44, 21, 52, 32, 23, 11, 54, 26, 40, 15, 34, 20, 31, 10, 25, 14, 19, 9, 13, 8, 7, 6]
def tzV : List Value := tzL.map fun z => Value.int .u8 z
theorem tz15 : tzV[15]? = some (.int .u8 4) := rfl
theorem rt_t : (Tryz.prog.cutTypes.find? (·.1 == "internal/reflectlite.rtype")).map (·.2) = some 159 := by kernel_rfl
theorem oneRow : ((List.range 400).filter fun t => Tryz.prog.rowNamed t [101, 114, 114, 111, 114]) = [26] := by kernel_rfl
theorem typesSize : Tryz.prog.types.size ≤ 400 := of_decide_eq_true (by kernel_rfl)
theorem plainL : laidL.filter (fun x => x.2.handleName?.isNone) = [("math/bits.deBruijn32tab", Rows.laid_math_bits_deBruijn32tab), ("math/bits.deBruijn64tab", Rows.laid_math_bits_deBruijn64tab), ("internal/strconv.uint64pow10", Rows.laid_internal_strconv_uint64pow10), ("unicode/utf8.acceptRanges", Rows.laid_unicode_utf8_acceptRanges), ("unicode/utf8.first", Rows.laid_unicode_utf8_first)] := by kernel_rfl
theorem handL : laidL.filter (fun x => x.2.handleName?.isSome) = [("errors.errorType", Rows.laid_errors_errorType)] := by kernel_rfl
theorem laid_two {W : World} (h : laidMetH Tryz.prog laidL W) : laidMet Tryz.prog (laidL.filter fun x => x.2.handleName?.isNone) W ∧ handlesMet Tryz.prog [("errors.errorType", Rows.laid_errors_errorType)] W := by
  unfold laidMetH at h
  rw [handL] at h
  exact h
theorem gl_err {W : World} (h : laidMetH Tryz.prog laidL W) : ∃ t, GlOK W (gErr t) := by
  obtain ⟨name, u, ty, e1, e2, e3, e4, e5⟩ := (laid_two h).2 _ (List.mem_singleton.2 rfl)
  have en : name = [101, 114, 114, 111, 114] := (Option.some.inj e1).symm
  subst en
  obtain rfl := Option.some.inj (rt_t.symm.trans e2)
  have hm : ty ∈ (List.range 400).filter fun t => Tryz.prog.rowNamed t [101, 114, 114, 111, 114] := List.mem_filter.2 ⟨List.mem_range.2 (Nat.lt_of_lt_of_le e3 typesSize), e4⟩
  rw [oneRow] at hm
  obtain rfl := List.mem_singleton.1 hm
  have hh : typeHandle Tryz.prog 26 = .pointer (some ⟨7, 26, none⟩) := by kernel_rfl
  rw [hh] at e5
  exact glv (by kernel_rfl) e5
theorem gl_tz {W : World} (h : laidMetH Tryz.prog laidL W) : ∃ t, GlOK W (gTz tzV t) := by
  have h1 := (laid_two h).1
  rw [plainL] at h1
  have h2 : Lib.VarReads Tryz.prog W "math/bits.deBruijn64tab" (Lib.tabData .u8 tzL) := by
    have := Lib.laidMet.reads h1 (n := "math/bits.deBruijn64tab") (d := Rows.laid_math_bits_deBruijn64tab) (by simp)
    rwa [show (Rows.laid_math_bits_deBruijn64tab : DataW Unit) = Lib.tabData .u8 tzL from by kernel_rfl] at this
  exact gl_tab (g := 6) (t := 202) (e := 5) (n := 64) h2 (by kernel_rfl) (by kernel_rfl) (by kernel_rfl) (by kernel_rfl) (by kernel_rfl) (by kernel_rfl)
theorem gl_pow {W : World} (h : laidMetH Tryz.prog laidL W) : ∃ t, GlOK W (gPow t) := by
  have h1 := (laid_two h).1
  rw [plainL] at h1
  have h2 : Lib.VarReads Tryz.prog W "internal/strconv.uint64pow10" (Lib.tabData .u64 Lib.pow10Tab) := by
    have := Lib.laidMet.reads h1 (n := "internal/strconv.uint64pow10") (d := Rows.laid_internal_strconv_uint64pow10) (by simp)
    rwa [show (Rows.laid_internal_strconv_uint64pow10 : DataW Unit) = Lib.tabData .u64 Lib.pow10Tab from by kernel_rfl] at this
  exact gl_tab (g := 1) (t := 192) (e := 182) (n := 20) h2 (by kernel_rfl) (by kernel_rfl) (by kernel_rfl) (by kernel_rfl) (by kernel_rfl) (by kernel_rfl)
theorem reads_first {W : World} (h : laidMetH Tryz.prog laidL W) : Lib.VarReads Tryz.prog W "unicode/utf8.first" Lib.firstData := by
  have h1 := (laid_two h).1
  rw [plainL] at h1
  have := Lib.laidMet.reads h1 (n := "unicode/utf8.first") (d := Rows.laid_unicode_utf8_first) (by simp)
  rwa [show (Rows.laid_unicode_utf8_first : DataW Unit) = Lib.firstData from by kernel_rfl] at this
theorem gl_first {W : World} (h : laidMetH Tryz.prog laidL W) : ∃ t, GlOK W (gFirst t) := by
  have := gl_tab (g := 3) (t := 196) (e := 5) (n := 256) (zs := Lib.firstTab) (k := .u8) (reads_first h) (by kernel_rfl) (by kernel_rfl) (by kernel_rfl) (by kernel_rfl) (by kernel_rfl) (by kernel_rfl)
  obtain ⟨t, ht⟩ := this
  refine ⟨t, ?_⟩
  have e : (Lib.firstTab.map fun z => Value.int .u8 z) = (List.range 256).map fun c => Value.int .u8 (Lib.firstT c) := by simp [Lib.firstTab, List.map_map]
  rw [e] at ht
  exact ht
theorem gl_acc {W : World} (h : laidMetH Tryz.prog laidL W) : ∃ t, GlOK W (gAcc t) := by
  have h1 := (laid_two h).1
  rw [plainL] at h1
  have h2 : Lib.VarReads Tryz.prog W "unicode/utf8.acceptRanges" Lib.acceptData := by
    have := Lib.laidMet.reads h1 (n := "unicode/utf8.acceptRanges") (d := Rows.laid_unicode_utf8_acceptRanges) (by simp)
    rwa [show (Rows.laid_unicode_utf8_acceptRanges : DataW Unit) = Lib.acceptData from by kernel_rfl] at this
  have hT : Lib.Utf8Tabs 3 4 W := utf8Tabs_of_reads Tryz.lays260 ⟨by kernel_rfl, by kernel_rfl, by kernel_rfl, by kernel_rfl, by kernel_rfl, by kernel_rfl, by kernel_rfl⟩ (reads_first h) h2
  obtain ⟨g, t, cs, fuel, p, hg, hty, hvar, hd⟩ := h2
  obtain rfl := Option.some.inj ((show Tryz.prog.globalNamed "unicode/utf8.acceptRanges" = some 4 by kernel_rfl).symm.trans hg)
  obtain rfl := Option.some.inj ((show (Tryz.prog.globals[4]?).map (·.type) = some 199 by kernel_rfl).symm.trans hty)
  obtain ⟨xs, m, -, -, hl, -⟩ := DataW.trod_array (show Tryz.prog.underlying 199 = some (.array 16 198) by kernel_rfl) hd
  rw [show Tryz.prog.cellsOf 199 = 32 by kernel_rfl] at hl
  obtain ⟨ty, hG⟩ := glv hg hvar
  refine ⟨ty, ?_⟩
  have e : cs.toList = (List.range 32).map fun c => if c % 2 = 0 then Value.int .u8 (Lib.accLo (c / 2)) else Value.int .u8 (Lib.accHi (c / 2)) := by
    apply List.ext_getElem?
    intro j
    by_cases hj : j < 32
    · have hc : cs.toList[j]? = W.cell? ⟨4, j, none⟩ := by rw [World.var?_cell hg hvar j, ← Array.getElem?_toList]
      rw [hc, List.getElem?_map, List.getElem?_range hj, Option.map_some]
      have := hT.2 (j / 2) (by omega)
      by_cases hp : j % 2 = 0
      · rw [if_pos hp, ← this.1, show 2 * (j / 2) = j by omega]
      · rw [if_neg hp, ← this.2, show 2 * (j / 2) + 1 = j by omega]
    · rw [List.getElem?_eq_none (by omega), List.getElem?_eq_none (by simp; omega)]
  rw [e] at hG
  exact hG
/-- All that a walk asks of the listed variables. -/
theorem glob_of_laid {W : World} (h : laidMetH Tryz.prog laidL W) : ∃ te t u tz tp, ∀ x ∈ [gErr te, gFirst t, gAcc u, gTz tzV tz, gPow tp], GlOK W x := by
  obtain ⟨te, h1⟩ := gl_err h
  obtain ⟨t, h2⟩ := gl_first h
  obtain ⟨u, h3⟩ := gl_acc h
  obtain ⟨tz, h4⟩ := gl_tz h
  obtain ⟨tp, h5⟩ := gl_pow h
  refine ⟨te, t, u, tz, tp, fun x hx => ?_⟩
  simp only [List.mem_cons, List.not_mem_nil, or_false] at hx
  rcases hx with rfl | rfl | rfl | rfl | rfl <;> assumption
end Go.Proofs.YtnjbdcdjcfhooaaGreatDoor

namespace Go.Proofs.YtnjbdcdjcfhooaaGreatDoor
open Go.E Go.ChangeShapes Go.WideShapes Go.ChangeAt Go.RowKit
set_option linter.all false
set_option maxRecDepth 100000
/-! A world in which the listed variables lie. -/
theorem own : ownKnob Tryz.prog.godebug = none := by kernel_rfl
theorem laidOut : laidOutB Tryz.prog = true := by kernel_rfl
noncomputable def witH (os : Os) : World :=
  let w0 := World.holding Tryz.prog os ⟨#[], #[], []⟩
  { w0 with heap := w0.heap.modify 0 fun
      | .cells _ t frozen => .cells #[.iface 159 (.agg #[.pointer (some ⟨7, 26, none⟩)])] t frozen
      | o => o }
def plainV : List (String × DataW Unit) := [("math/bits.deBruijn32tab", Rows.laid_math_bits_deBruijn32tab), ("math/bits.deBruijn64tab", Rows.laid_math_bits_deBruijn64tab), ("internal/strconv.uint64pow10", Rows.laid_internal_strconv_uint64pow10), ("unicode/utf8.acceptRanges", Rows.laid_unicode_utf8_acceptRanges), ("unicode/utf8.first", Rows.laid_unicode_utf8_first)]
noncomputable def witW (os : Os) : World := (witH os).layVars Tryz.prog plainV
theorem witW_os (os : Os) : (witW os).os = os := World.layVars_os _ _ _
theorem witW_met (os : Os) (args : Array Value) : laidMetH Tryz.prog laidL ((witW os).forCall (fun _ _ => 0) ⟨#[], args, []⟩).memory := by
  refine laidMetH_of_parts ?_ (by kernel_rfl)
  rw [plainL]
  have e1 : (plainV.filter fun x => (plainV.map (·.1)).contains x.1) = plainV := by kernel_rfl
  have e2 : (plainV.filter fun x => !(plainV.map (·.1)).contains x.1) = [] := by kernel_rfl
  have h : laidMet Tryz.prog plainV (witW os) := laidMet_layVars (w0 := witH os) (plainV.map (·.1)) [] (by rw [e1]; rfl) (by rw [e1]; kernel_rfl) (by rw [e1]; kernel_rfl) (by rw [e2]; exact LaidIn.none)
  exact h.of_heap (by simp [World.memory, World.forCall, Input.heap])
/-! Every line. -/
theorem rparse_zero (l : List UInt8) : ((rparseP l).2.1 ≠ 0 → (rparseP l).1 = zCmd) ∧ ((rparseP l).2.1 = 0 → (rparseP l).2.2 = 0) := by
  unfold rparseP
  split
  · rename_i h; exact ⟨fun _ => rfl, fun h2 => absurd h2 h⟩
  · split
    · exact ⟨fun _ => rfl, fun h => by simp at h⟩
    · split
      · exact ⟨fun _ => rfl, fun h => by simp at h⟩
      · exact ⟨fun h => absurd rfl h, fun _ => rfl⟩
theorem cmd_eq (c : Cmd) : EqS Tryz.prog .eql 24 (.agg (cmdE c)) (.agg (cmdE c)) true := by
  have := (eqS_struct (xs := cmdE c) (ys := cmdE c) flat24 und24 ⟨rfl, rfl, rfl, rfl, rfl, trivial⟩).1
  simpa only [eqE, eqE.eqL, decide_true, Bool.and_true, Bool.true_and, and_self] using this
theorem commandParses_law (G : List Gl) (te t u tz tp : TypeId) (v : List Value) (hGe : gErr te ∈ G) (h3 : gFirst t ∈ G) (h4 : gAcc u ∈ G) (hv : v[15]? = some (.int .u8 4)) (hG : gTz v tz ∈ G) (hp : gPow tp ∈ G) (x : ByteArray) (hx : (x.size : Int) ≤ IntKind.i64.max) :
    E.Pure G Tryz.prog 3 [.str x.data.toList] (.bool true) := by
  refine pure_hid fun V hV => ?_
  have hl : x.data.toList.length ≤ 9223372036854775807 := by have : x.data.toList.length = x.size := Array.length_toList
                                                             have : IntKind.i64.max = 9223372036854775807 := rfl
                                                             omega
  generalize x.data.toList = l at hl
  have p1 := parse_c G t u h3 h4 l hl
  have p2 := rparse_c G l hl
  have aw := awake_c G te t u tz tp v hGe h3 h4 hv hG hp
  rw [parse_same] at p1
  obtain ⟨z1, z2⟩ := rparse_zero l
  generalize rparseP l = r at p1 p2 z1 z2
  obtain ⟨c, code, at_⟩ := r
  simp only [parseV, parseB, parseN, rparseV] at p1 p2 z1 z2
  by_cases hc : code = 0
  · subst hc
    obtain rfl := z2 rfl
    simp only [if_true] at p1
    have f := fault_nil G
    refine ecalls_in 47 [.tmp 2] Tryz.func3 rfl rfl rfl (by kernel_rfl) (le_ble rfl) ?_
    repeat' (first
      | refine esem_seqK 2045 ?_
      | refine esem_block ?_
      | (refine stp ?_; simp only [go_sem])
      | (refine Eff.at2 (p1 ) [] rfl (by first | (simp; done) | (simp; omega) | (simp [bytesE_cons, bytesE_nil]; done) | omega) rfl ?_; (try simp only [go_sem]))
      | (refine Pure.at (p2) (by simp) (by simp) rfl ?_; (try simp only [go_sem]))
      | (refine Pure.at (f) (by simp) (by simp) rfl ?_; (try simp only [go_sem]))
      | (refine ⟨cmd_eq c, ?_⟩; try simp only [go_sem])
      | (refine Pure.at (aw) (by simp) (by simp) rfl ?_; (try simp only [go_sem]))
      | (simp (disch := omega) only [wrap64E, wrapU8E, wrapU16E, wrapU32E, wrapU64E, wrapI32E, tdivE, tmodE])
      | (refine spl (fun h => ?_) (fun h => ?_) <;> first | (exfalso; omega) | ((try simp only [opRun, opSkip, stepRun, pickZ]); (try simp only [go_sem, h])))
      | (refine and_om ?_ ?_; focus omega))
    all_goals (refine done_zero (by simp [EV.bel, allBelow]) ?_; rw [hV])
  · obtain rfl := z1 hc
    rw [if_neg hc, if_neg hc, if_neg hc] at p1
    have f := fault_at G hGe code at_
    rw [decide_eq_true (show (code : Int) ≠ 0 by omega)] at f
    refine ecalls_in 47 [.tmp 2] Tryz.func3 rfl rfl rfl (by kernel_rfl) (le_ble rfl) ?_
    repeat' (first
      | refine esem_seqK 2045 ?_
      | refine esem_block ?_
      | (refine stp ?_; simp only [go_sem])
      | (refine Eff.at2 (p1 ) [] rfl (by first | (simp; done) | (simp; omega) | (simp [bytesE_cons, bytesE_nil]; done) | omega) rfl ?_; (try simp only [go_sem]))
      | (refine Pure.at (p2) (by simp) (by simp) rfl ?_; (try simp only [go_sem]))
      | (refine Eff.at2 (f ) [0] rfl (by first | (simp; done) | (simp; omega) | (simp [bytesE_cons, bytesE_nil]; done) | omega) rfl ?_; (try simp only [go_sem]))
      | (refine ⟨cmd_eq zCmd, ?_⟩; try simp only [go_sem])
      | (refine Pure.at (aw) (by simp) (by simp) rfl ?_; (try simp only [go_sem]))
      | (simp (disch := omega) only [wrap64E, wrapU8E, wrapU16E, wrapU32E, wrapU64E, wrapI32E, tdivE, tmodE])
      | (refine spl (fun h => ?_) (fun h => ?_) <;> first | (exfalso; omega) | ((try simp only [opRun, opSkip, stepRun, pickZ]); (try simp only [go_sem, h])))
      | (refine and_om ?_ ?_; focus omega))
    all_goals (refine done_zero (by simp [EV.bel, allBelow]) ?_; rw [hV])
theorem commandParses_calls (x0 : ByteArray) (hx0 : (x0.size : Int) ≤ IntKind.i64.max) (w : World) (hL : laidMetH Tryz.prog laidL w) : Calls Tryz.prog 3 #[.string x0] w fun e w' => e = .returned (.bool true) ∧ Below w.heap.size w w' := by
  obtain ⟨te, t, u, tz, tp, hg⟩ := glob_of_laid hL
  refine ((commandParses_law [gErr te, gFirst t, gAcc u, gTz tzV tz, gPow tp] te t u tz tp tzV (by simp) (by simp) (by simp) tz15 (by simp) (by simp) x0 hx0).toCalls Tryz.func3 rfl (by kernel_rfl) (VRs.cons (by rw [VR]) VRs.nil) w hg).mono ?_
  rintro e w' ⟨x, s', ρ', hr, hb, rfl, rfl⟩
  obtain ⟨v', rfl, hv⟩ := hr
  rw [VR] at hv
  exact ⟨by rw [hv], hb⟩
set_option maxRecDepth 100000 in
theorem commandParses_lifted (os : Os) (started : os.Started) (H : Type) (enc : TypeId × Value → H) :
    ReturnsInHanded {} Tryz.checked os 3 .any (fun w args => (Rows.commandParsesSpec.pre enc Tryz.prog Tryz.f3 [] false w args ∧ laidMetH Tryz.prog laidL w) ∧ sizedMet enc Tryz.prog Tryz.f3 (OpenSpec.ofChange Rows.commandParsesSpec) false w args)
      (Rows.commandParsesSpec.post enc Tryz.prog Tryz.f3 false true false false) := by
  refine returnsInHanded_of_change_and (C := Tryz.checked) (X := fun w _ => laidMetH Tryz.prog laidL w) (fun _ _ _ hh h => h.of_heap hh) own started (by kernel_rfl) Tryz.func3
    (ChangeSpec.witness_shaped (enc := enc) (C := Tryz.checked) (os := os) (X := fun w _ => laidMetH Tryz.prog laidL w) false (witW os) #[.string .empty] 8 (witW_os os)
      (World.shaped_of_ZipB (by kernel_rfl) (by kernel_rfl)) (by kernel_rfl) (by kernel_rfl) (by kernel_rfl) (witW_met os _)) ?_
  intro W base args ds gs before hval0 hW _ _ hL _
  have hval : ∀ (j : Nat) t v, Tryz.f3.params[j]? = some t → args[j]? = some v → Value.okWide Tryz.prog W .any base t v := hval0
  have hW' := hW
  obtain ⟨p, q, hA0, hV, rfl, hfz, hnd⟩ := hW
  have hA : DataW.TrodAll enc Tryz.prog W 0 (fun _ => true) true Tryz.f3.params.toList args.toList ds p := hA0
  rw [Tryz.params3] at hA hval
  have hstay := hA
  obtain ⟨v0, vs0, d0, ds0, p0, q0, hargs, rfl, rfl, h0, r0⟩ := trodAll_cons hA
  obtain ⟨rfl, rfl, rfl⟩ := trodAll_nil r0
  obtain rfl : args = #[v0] := by cases args; simp_all
  obtain ⟨rfl, rfl⟩ := trodVars_none hV
  obtain ⟨x0, rfl, hx0⟩ := cell_str Tryz.underlying9 (okWide_cell (by rw [Tryz.underlying9]; trivial) (hval 0 9 v0 rfl rfl))
  refine (commandParses_calls x0 hx0 W hL).mono fun e W' ⟨he, bel⟩ => ?_
  subst he
  exact ⟨_, rfl, _, _, _, [], _, [], hW', trodAll_mk1 (shut_bool Tryz.underlying4 _), args_stay laidOut bel hstay (by intro t ht; simp at ht; subst ht; exact ⟨by kernel_rfl, of_decide_eq_true (by kernel_rfl)⟩), rfl, bel.frame _, fun h => by cases h⟩
theorem commandParses_over : Rows.commandParsesRow.holds Tryz.pinned (OpenSpec.ofChange Rows.commandParsesSpec) :=
  OpenClaim.holds_of_wide 3 Tryz.f3 rfl rfl rfl rfl rfl rfl rfl ⟨rfl, rfl, rfl, rfl, rfl⟩ rfl rfl rfl rfl rfl (by kernel_rfl) Tryz.func3 (by kernel_rfl)
    (of_decide_eq_true (by kernel_rfl)) (by unfold Func.isWrapper; first | (rw [if_pos (by decide +kernel)]; kernel_rfl) | (rw [if_neg (by decide +kernel)]; exact ⟨rfl, rfl⟩))
    (fun os started H enc _ => commandParses_lifted os started H enc)
theorem commandParses_card : Rows.CommandParsesCardSaid :=
  Claim7.holds_tied_plain_at .later [] [.data, .data, .data, .data, .handle, .pinned] true (true, "8a79f1cbe4cbe0b827adf0f6cc364f8cc62241dfff2f37c340b2934bee1663d3") true commandParses_over (fun _ h => by cases h) (by kernel_rfl) (fun _ h => by cases h) commandParses_row_tie rfl ⟨rfl, rfl⟩ (by kernel_rfl) rfl
    (fun f fn hf hfn => by
      obtain rfl : f = 3 := Option.some.inj ((show Tryz.prog.funcNamed "vellum/vellumlaw26.CommandParses" = some 3 by kernel_rfl).symm.trans hf) |>.symm
      obtain rfl : fn = Tryz.f3 := (Option.some.inj (Tryz.func3.symm.trans hfn)).symm
      exact ⟨by kernel_rfl, fun j t ht => by
        rw [Tryz.params3] at ht
        have hm : t ∈ [9] := by simpa using Array.mem_of_getElem? ht
        have hall : ([9].all fun u => !Tryz.prog.wantsStandIn u) = true := by kernel_rfl
        exact (show Tryz.prog.wantsStandIn t = false by simpa using List.all_eq_true.1 hall t hm)⟩)
    (by kernel_rfl)
end Go.Proofs.YtnjbdcdjcfhooaaGreatDoor
