/-
  Own work: walks and laws of the functions that the statement reaches; the statement itself stands in the last text.
-/
import Derived.Test.YtnjbdcdjcfhooaaGreatDoorHn
import Derived.Test.YtnjbdcdjcfhooaaGreatDoorCards
import Derived.Test.YtnjbdcdjcfhooaaGreatDoorTie
import Derived.Lib.LaidU8
import Derived.OpenShut
import Derived.ProofKit
import Derived.Test.YtnjbdcdjcfhooaaGreatDoorEd
import Derived.Lay
import Derived.LaidHandle
import Derived.LaidLaws
import Derived.LaidMore
import Derived.SevenTiedAt
import Derived.Stop.Joined
namespace Go.Proofs.YtnjbdcdjcfhooaaGreatDoor
open Go.E Go.ChangeShapes Go.WideShapes Go.ChangeAt Go.RowKit
set_option linter.all false
set_option maxRecDepth 100000
abbrev laidL : List (String × DataW Unit) := Rows.commandParsesRow.laid
theorem glv {W : World} {name : String} {g : Nat} {cs : Array Value} (hg : Tryz.prog.globalNamed name = some g) (h : W.var? Tryz.prog name = some cs) : ∃ t, GlOK W ⟨g, cs.toList, t⟩ := by
  unfold World.var? at h
  rw [hg] at h
  simp only [Option.bind_some] at h
  split at h
  · rename_i cs' t fr he
    cases h
    exact ⟨t, fr, he⟩
  · cases h
theorem gl_tab {W : World} {name : String} {k : IntKind} {zs : List Int} {g : Nat} {t e : TypeId} {n : Nat} (h : Lib.VarReads Tryz.prog W name (Lib.tabData k zs)) (hg : Tryz.prog.globalNamed name = some g) (hty : (Tryz.prog.globals[g]?).map (·.type) = some t)
    (ht : Tryz.prog.underlying t = some (.array n e)) (he : Tryz.prog.underlying e = some (.int k)) (hce : Tryz.prog.cellsOf e = 1) (hct : Tryz.prog.cellsOf t = n) : ∃ t, GlOK W ⟨g, zs.map fun z => Value.int k z, t⟩ := by
  obtain ⟨g', t', cs, fuel, p, hg', ht', hvar, hd⟩ := h
  obtain rfl := Option.some.inj (hg.symm.trans hg')
  obtain rfl := Option.some.inj (hty.symm.trans ht')
  have := glv hg hvar
  rwa [Lib.cells_of_tab ht he hce hct hd] at this
def tzL : List Int := [0, 1, 56, 2, 57, 49, 28, 3, 61, 58, 42, 50, 38, 29, 17, 4, 62, 47, 59, 36, 45, 43, 51, 22, 53, 39, 33, 30, 24, 18, 12, 5, 63, 55, 48, 27, 60, 41, 37, 16, 46, 35, 44, 21, 52, 32, 23, 11, 54, 26, 40, 15, 34, 20, 31, 10, 25, 14, 19, 9, 13, 8, 7, 6]
def tzV : List Value := tzL.map fun z => Value.int .u8 z
theorem tz15 : tzV[15]? = some (.int .u8 4) := rfl
theorem rt_t : (Tryz.prog.cutTypes.find? (·.1 == "internal/reflectlite.rtype")).map (·.2) = some 159 := by kernel_rfl
theorem oneRow : ((List.range 400).filter fun t => Tryz.prog.rowNamed t [101, 114, 114, 111, 114]) = [26] := by kernel_rfl
theorem typesSize : Tryz.prog.types.size ≤ 400 := of_decide_eq_true (by kernel_rfl)
theorem plainL : laidL.filter (fun x => x.2.handleName?.isNone) = [("math/bits.deBruijn32tab", Rows.laid_math_bits_deBruijn32tab), ("math/bits.deBruijn64tab", Rows.laid_math_bits_deBruijn64tab), ("internal/strconv.uint64pow10", Rows.laid_internal_strconv_uint64pow10), ("unicode/utf8.acceptRanges", Rows.laid_unicode_utf8_acceptRanges), ("unicode/utf8.first", Rows.laid_unicode_utf8_first)] := by kernel_rfl
theorem handL : laidL.filter (fun x => x.2.handleName?.isSome) = [("errors.errorType", Rows.laid_errors_errorType)] := by kernel_rfl
theorem laid_two {W : World} (h : laidMetH Tryz.prog laidL W) : laidMet Tryz.prog (laidL.filter fun x => x.2.handleName?.isNone) W ∧ handlesMet Tryz.prog [("errors.errorType", Rows.laid_errors_errorType)] W := by
  unfold laidMetH at h
  rw [handL] at h
  exact h
theorem gl_err {W : World} (h : laidMetH Tryz.prog laidL W) : ∃ t, GlOK W (gErr t) := by
  obtain ⟨name, u, ty, e1, e2, e3, e4, e5⟩ := (laid_two h).2 _ (List.mem_singleton.2 rfl)
  have en : name = [101, 114, 114, 111, 114] := (Option.some.inj e1).symm
  subst en
  obtain rfl := Option.some.inj (rt_t.symm.trans e2)
  have hm : ty ∈ (List.range 400).filter fun t => Tryz.prog.rowNamed t [101, 114, 114, 111, 114] := List.mem_filter.2 ⟨List.mem_range.2 (Nat.lt_of_lt_of_le e3 typesSize), e4⟩
  rw [oneRow] at hm
  obtain rfl := List.mem_singleton.1 hm
  have hh : typeHandle Tryz.prog 26 = .pointer (some ⟨7, 26, none⟩) := by kernel_rfl
  rw [hh] at e5
  exact glv (by kernel_rfl) e5
theorem gl_tz {W : World} (h : laidMetH Tryz.prog laidL W) : ∃ t, GlOK W (gTz tzV t) := by
  have h1 := (laid_two h).1
  rw [plainL] at h1
  have h2 : Lib.VarReads Tryz.prog W "math/bits.deBruijn64tab" (Lib.tabData .u8 tzL) := by
    have := Lib.laidMet.reads h1 (n := "math/bits.deBruijn64tab") (d := Rows.laid_math_bits_deBruijn64tab) (by simp)
    rwa [show (Rows.laid_math_bits_deBruijn64tab : DataW Unit) = Lib.tabData .u8 tzL from by kernel_rfl] at this
  exact gl_tab (g := 6) (t := 202) (e := 5) (n := 64) h2 (by kernel_rfl) (by kernel_rfl) (by kernel_rfl) (by kernel_rfl) (by kernel_rfl) (by kernel_rfl)
theorem gl_pow {W : World} (h : laidMetH Tryz.prog laidL W) : ∃ t, GlOK W (gPow t) := by
  have h1 := (laid_two h).1
  rw [plainL] at h1
  have h2 : Lib.VarReads Tryz.prog W "internal/strconv.uint64pow10" (Lib.tabData .u64 Lib.pow10Tab) := by
    have := Lib.laidMet.reads h1 (n := "internal/strconv.uint64pow10") (d := Rows.laid_internal_strconv_uint64pow10) (by simp)
    rwa [show (Rows.laid_internal_strconv_uint64pow10 : DataW Unit) = Lib.tabData .u64 Lib.pow10Tab from by kernel_rfl] at this
  exact gl_tab (g := 1) (t := 192) (e := 182) (n := 20) h2 (by kernel_rfl) (by kernel_rfl) (by kernel_rfl) (by kernel_rfl) (by kernel_rfl) (by kernel_rfl)
theorem reads_first {W : World} (h : laidMetH Tryz.prog laidL W) : Lib.VarReads Tryz.prog W "unicode/utf8.first" Lib.firstData := by
  have h1 := (laid_two h).1
  rw [plainL] at h1
  have := Lib.laidMet.reads h1 (n := "unicode/utf8.first") (d := Rows.laid_unicode_utf8_first) (by simp)
  rwa [show (Rows.laid_unicode_utf8_first : DataW Unit) = Lib.firstData from by kernel_rfl] at this
theorem gl_first {W : World} (h : laidMetH Tryz.prog laidL W) : ∃ t, GlOK W (gFirst t) := by
  have := gl_tab (g := 3) (t := 196) (e := 5) (n := 256) (zs := Lib.firstTab) (k := .u8) (reads_first h) (by kernel_rfl) (by kernel_rfl) (by kernel_rfl) (by kernel_rfl) (by kernel_rfl) (by kernel_rfl)
  obtain ⟨t, ht⟩ := this
  refine ⟨t, ?_⟩
  have e : (Lib.firstTab.map fun z => Value.int .u8 z) = (List.range 256).map fun c => Value.int .u8 (Lib.firstT c) := by simp [Lib.firstTab, List.map_map]
  rw [e] at ht
  exact ht
theorem gl_acc {W : World} (h : laidMetH Tryz.prog laidL W) : ∃ t, GlOK W (gAcc t) := by
  have h1 := (laid_two h).1
  rw [plainL] at h1
  have h2 : Lib.VarReads Tryz.prog W "unicode/utf8.acceptRanges" Lib.acceptData := by
    have := Lib.laidMet.reads h1 (n := "unicode/utf8.acceptRanges") (d := Rows.laid_unicode_utf8_acceptRanges) (by simp)
    rwa [show (Rows.laid_unicode_utf8_acceptRanges : DataW Unit) = Lib.acceptData from by kernel_rfl] at this
  have hT : Lib.Utf8Tabs 3 4 W := utf8Tabs_of_reads Tryz.lays260 ⟨by kernel_rfl, by kernel_rfl, by kernel_rfl, by kernel_rfl, by kernel_rfl, by kernel_rfl, by kernel_rfl⟩ (reads_first h) h2
  obtain ⟨g, t, cs, fuel, p, hg, hty, hvar, hd⟩ := h2
  obtain rfl := Option.some.inj ((show Tryz.prog.globalNamed "unicode/utf8.acceptRanges" = some 4 by kernel_rfl).symm.trans hg)
  obtain rfl := Option.some.inj ((show (Tryz.prog.globals[4]?).map (·.type) = some 199 by kernel_rfl).symm.trans hty)
  obtain ⟨xs, m, -, -, hl, -⟩ := DataW.trod_array (show Tryz.prog.underlying 199 = some (.array 16 198) by kernel_rfl) hd
  rw [show Tryz.prog.cellsOf 199 = 32 by kernel_rfl] at hl
  obtain ⟨ty, hG⟩ := glv hg hvar
  refine ⟨ty, ?_⟩
  have e : cs.toList = (List.range 32).map fun c => if c % 2 = 0 then Value.int .u8 (Lib.accLo (c / 2)) else Value.int .u8 (Lib.accHi (c / 2)) := by
    apply List.ext_getElem?
    intro j
    by_cases hj : j < 32
    · have hc : cs.toList[j]? = W.cell? ⟨4, j, none⟩ := by rw [World.var?_cell hg hvar j, ← Array.getElem?_toList]
      rw [hc, List.getElem?_map, List.getElem?_range hj, Option.map_some]
      have := hT.2 (j / 2) (by omega)
      by_cases hp : j % 2 = 0
      · rw [if_pos hp, ← this.1, show 2 * (j / 2) = j by omega]
      · rw [if_neg hp, ← this.2, show 2 * (j / 2) + 1 = j by omega]
    · rw [List.getElem?_eq_none (by omega), List.getElem?_eq_none (by simp; omega)]
  rw [e] at hG
  exact hG
theorem glob_of_laid {W : World} (h : laidMetH Tryz.prog laidL W) : ∃ te t u tz tp, ∀ x ∈ [gErr te, gFirst t, gAcc u, gTz tzV tz, gPow tp], GlOK W x := by
  obtain ⟨te, h1⟩ := gl_err h
  obtain ⟨t, h2⟩ := gl_first h
  obtain ⟨u, h3⟩ := gl_acc h
  obtain ⟨tz, h4⟩ := gl_tz h
  obtain ⟨tp, h5⟩ := gl_pow h
  refine ⟨te, t, u, tz, tp, fun x hx => ?_⟩
  simp only [List.mem_cons, List.not_mem_nil, or_false] at hx
  rcases hx with rfl | rfl | rfl | rfl | rfl <;> assumption
end Go.Proofs.YtnjbdcdjcfhooaaGreatDoor
namespace Go.Proofs.YtnjbdcdjcfhooaaGreatDoor
open Go.E Go.ChangeShapes Go.WideShapes Go.ChangeAt Go.RowKit
set_option linter.all false
set_option maxRecDepth 100000
theorem own : ownKnob Tryz.prog.godebug = none := by kernel_rfl
theorem laidOut : laidOutB Tryz.prog = true := by kernel_rfl
noncomputable def witH (os : Os) : World :=
  let w0 := World.holding Tryz.prog os ⟨#[], #[], []⟩
  { w0 with heap := w0.heap.modify 0 fun
      | .cells _ t frozen => .cells #[.iface 159 (.agg #[.pointer (some ⟨7, 26, none⟩)])] t frozen
      | o => o }
def plainV : List (String × DataW Unit) := [("math/bits.deBruijn32tab", Rows.laid_math_bits_deBruijn32tab), ("math/bits.deBruijn64tab", Rows.laid_math_bits_deBruijn64tab), ("internal/strconv.uint64pow10", Rows.laid_internal_strconv_uint64pow10), ("unicode/utf8.acceptRanges", Rows.laid_unicode_utf8_acceptRanges), ("unicode/utf8.first", Rows.laid_unicode_utf8_first)]
noncomputable def witW (os : Os) : World := (witH os).layVars Tryz.prog plainV
theorem witW_os (os : Os) : (witW os).os = os := World.layVars_os _ _ _
theorem witW_met (os : Os) (args : Array Value) : laidMetH Tryz.prog laidL ((witW os).forCall (fun _ _ => 0) ⟨#[], args, []⟩).memory := by
  refine laidMetH_of_parts ?_ (by kernel_rfl)
  rw [plainL]
  have e1 : (plainV.filter fun x => (plainV.map (·.1)).contains x.1) = plainV := by kernel_rfl
  have e2 : (plainV.filter fun x => !(plainV.map (·.1)).contains x.1) = [] := by kernel_rfl
  have h : laidMet Tryz.prog plainV (witW os) := laidMet_layVars (w0 := witH os) (plainV.map (·.1)) [] (by rw [e1]; rfl) (by rw [e1]; kernel_rfl) (by rw [e1]; kernel_rfl) (by rw [e2]; exact LaidIn.none)
  exact h.of_heap (by simp [World.memory, World.forCall, Input.heap])
theorem cmd_eq (c : Cmd) : EqS Tryz.prog .eql 24 (.agg (cmdE c)) (.agg (cmdE c)) true := by
  have := (eqS_struct (xs := cmdE c) (ys := cmdE c) flat24 und24 ⟨rfl, rfl, rfl, rfl, rfl, trivial⟩).1
  simpa only [eqE, eqE.eqL, decide_true, Bool.and_true, Bool.true_and, and_self] using this
end Go.Proofs.YtnjbdcdjcfhooaaGreatDoor
