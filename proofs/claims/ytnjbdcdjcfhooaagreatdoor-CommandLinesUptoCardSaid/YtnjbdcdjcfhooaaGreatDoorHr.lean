/-
  Own work: walks and laws of the functions that the statement reaches; the statement itself stands in the last text.
-/
import Derived.Test.YtnjbdcdjcfhooaaGreatDoorHq
import Derived.Deep.DeepHandedRow
import Derived.Test.YtnjbdcdjcfhooaaGreatDoorTie
namespace Go.Proofs.YtnjbdcdjcfhooaaGreatDoor
open Go.E Go.ChangeShapes Go.WideShapes Go.ChangeAt Go.RowKit
set_option linter.all false
set_option maxRecDepth 100000
theorem bulk_part {H : Type} {d : DataW H} {l : List (DataW H)} (h : d ∈ l) : Rows.uptoBulk d ≤ Rows.uptoBulkAll l := by
  induction l with
  | nil => cases h
  | cons x r ih =>
    simp only [Rows.uptoBulkAll]
    cases List.mem_cons.1 h with
    | inl e => subst e; omega
    | inr e => have := ih e; omega
theorem bulk_str {H : Type} (b : List UInt8) : Rows.uptoBulk (DataW.lit (H := H) (.string b)) = b.length + 1 := by simp [Rows.uptoBulk]
theorem off24 : ∀ (i : Nat) (f : Go.Field), (Tryz.prog.fieldsOf 24)[i]? = some f → f.offset = i ∧ Tryz.prog.cellsOf f.type = 1 := by
  have h : ((List.range 7).all fun i => match (Tryz.prog.fieldsOf 24)[i]? with | some f => f.offset == i && Tryz.prog.cellsOf f.type == 1 | none => false) = true := by kernel_rfl
  have hs : (Tryz.prog.fieldsOf 24).size = 7 := by kernel_rfl
  intro i f hf
  have hi : i < 7 := by rw [← hs]; exact (Array.getElem?_eq_some_iff.1 hf).1
  have := List.all_eq_true.1 h i (List.mem_range.2 hi)
  rw [hf] at this
  simpa using this
theorem cmdIn {H : Type} {enc : TypeId × Value → H} {w W : World} {r : Reach} {b0 base : Nat} {sp : Nat → Bool} {held : Bool} {v : Value} {d : DataW H} {ps : List MemPlace} (h : Value.okWide Tryz.prog w r b0 24 v) (hd : DataW.Trod enc Tryz.prog W base sp held 24 v d ps) :
    ∃ (k i f t g : Int) (a b : ByteArray), v = .agg #[.int .i64 k, .string a, .int .u32 i, .int .i64 f, .int .i64 t, .string b, .int .u8 g] ∧ IntKind.u32.has i ∧ IntKind.i64.has f ∧ IntKind.i64.has t ∧ IntKind.u8.has g ∧
      a.data.toList.length < Rows.uptoBulk d ∧ b.data.toList.length < Rows.uptoBulk d := by
  obtain ⟨l, rfl, hl, hg⟩ := okWide_cells (ts := [3, 9, 22, 3, 3, 9, 5]) und24 (by kernel_rfl) (by kernel_rfl) h
  match l, hl with
  | [c0, c1, c2, c3, c4, c5, c6], _ =>
    obtain ⟨x0, e0, k0⟩ := hg 0 3 rfl
    obtain ⟨x1, e1, k1⟩ := hg 1 9 rfl
    obtain ⟨x2, e2, k2⟩ := hg 2 22 rfl
    obtain ⟨x3, e3, k3⟩ := hg 3 3 rfl
    obtain ⟨x4, e4, k4⟩ := hg 4 3 rfl
    obtain ⟨x5, e5, k5⟩ := hg 5 9 rfl
    obtain ⟨x6, e6, k6⟩ := hg 6 5 rfl
    simp only [List.getElem?_cons_zero, List.getElem?_cons_succ, Option.some.injEq] at e0 e1 e2 e3 e4 e5 e6
    subst e0 e1 e2 e3 e4 e5 e6
    obtain ⟨n0, rfl, _⟩ := cell_int Tryz.underlying3 k0
    obtain ⟨n1, rfl, _⟩ := cell_str Tryz.underlying9 k1
    obtain ⟨n2, rfl, h2⟩ := cell_int (k := .u32) Tryz.underlying22 k2
    obtain ⟨n3, rfl, h3⟩ := cell_int Tryz.underlying3 k3
    obtain ⟨n4, rfl, h4⟩ := cell_int Tryz.underlying3 k4
    obtain ⟨n5, rfl, _⟩ := cell_str Tryz.underlying9 k5
    obtain ⟨n6, rfl, h6⟩ := cell_int (k := .u8) Tryz.underlying5 k6
    obtain ⟨fuel, hf⟩ := hd
    obtain ⟨xs, n, -, hx, hlen, hsz, hp⟩ := DataW.trod_struct und24 hf
    obtain rfl : d = .agg (xs.map (·.1)) := congrArg Prod.fst hx
    have key : ∀ i (s : ByteArray), i < 7 → ((Tryz.prog.fieldsOf 24)[i]?.map (·.type)) = some 9 → (Value.agg #[.int .i64 n0, .string n1, .int .u32 n2, .int .i64 n3, .int .i64 n4, .string n5, .int .u8 n6]).cells.toList[i]? = some (.string s) → s.data.toList.length < Rows.uptoBulk (DataW.agg (xs.map (·.1))) := by
      intro i s hi ht hc
      obtain ⟨f, hfi, hft⟩ := Option.map_eq_some_iff.1 ht
      obtain ⟨o1, o2⟩ := off24 i f hfi
      have h1 := hp i f hfi
      rw [o1, o2] at h1
      have h2 : ((Value.agg #[.int .i64 n0, .string n1, .int .u32 n2, .int .i64 n3, .int .i64 n4, .string n5, .int .u8 n6]).cells.toList.drop i).take 1 = [.string s] := by
        have hi' := (List.getElem?_eq_some_iff.1 hc)
        obtain ⟨hi1, hi2⟩ := hi'
        rw [List.drop_eq_getElem_cons hi1, hi2]; rfl
      have hxi : i < xs.length := by rw [hsz]; exact (Array.getElem?_eq_some_iff.1 hfi).1
      rw [show (List.take 1 (List.drop i (Value.agg (Array.mk [.int .i64 n0, .string n1, .int .u32 n2, .int .i64 n3, .int .i64 n4, .string n5, .int .u8 n6])).cells.toList)) = [.string s] from h2, List.getElem?_eq_getElem hxi] at h1
      obtain ⟨s', hs', hx', -⟩ := DataW.trod_string (by rw [hft]; exact Tryz.underlying9) h1
      obtain rfl : s = s' := by simpa using hs'
      have hm : DataW.lit (.string s.data.toList) ∈ xs.map (·.1) := by
        refine List.mem_map.2 ⟨xs[i], List.getElem_mem hxi, ?_⟩
        rw [hx']
      have := bulk_part hm
      rw [bulk_str] at this
      simp only [Rows.uptoBulk]
      omega
    exact ⟨n0, n2, n3, n4, n6, n1, n5, rfl, h2, h3, h4, h6, key 1 n1 (by decide) (by kernel_rfl) rfl, key 5 n5 (by decide) (by kernel_rfl) rfl⟩
theorem cmd_vr {ρ : Env} (k i f t g : Int) (a b : ByteArray) : VR ρ (.agg (cmdE ⟨k, a.data.toList, i, f, t, b.data.toList, g⟩)) (.agg #[.int .i64 k, .string a, .int .u32 i, .int .i64 f, .int .i64 t, .string b, .int .u8 g]) := by
  simp [cmdE, VR, VRs]
abbrev cmdWit : Value := .agg #[.int .i64 0, .string .empty, .int .u32 0, .int .i64 0, .int .i64 0, .string .empty, .int .u8 0]
end Go.Proofs.YtnjbdcdjcfhooaaGreatDoor
