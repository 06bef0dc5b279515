/-
  Own work: walks and laws of the functions that the statement reaches; the statement itself stands in the last text.
-/
import Derived.Test.YtnjbdcdjcfhooaaGreatDoorHt
import Derived.Test.YtnjbdcdjcfhooaaGreatDoorHy
import Derived.Test.YtnjbdcdjcfhooaaGreatDoorEd
namespace Go.Proofs.YtnjbdcdjcfhooaaGreatDoor
open Go.E Go.ChangeShapes Go.WideShapes Go.ChangeAt Go.RowKit
set_option linter.all false
set_option maxRecDepth 100000
set_option maxHeartbeats 8000000
theorem bulk_pos {H : Type} : ∀ d : DataW H, 1 ≤ Rows.uptoBulk d
  | .lit l => by cases l <;> simp [Rows.uptoBulk]
  | .nil => by simp [Rows.uptoBulk]
  | .ptr d => by simp [Rows.uptoBulk]
  | .slice e s => by simp [Rows.uptoBulk]
  | .agg p => by simp [Rows.uptoBulk]
  | .iface _ d => by simp [Rows.uptoBulk]
  | .map e => by simp [Rows.uptoBulk]
  | .held _ => by simp [Rows.uptoBulk]
theorem bulk_len {H : Type} : ∀ ds : List (DataW H), ds.length ≤ Rows.uptoBulkAll ds
  | [] => by simp
  | d :: r => by
    have h1 := bulk_pos d
    have h2 := bulk_len r
    simp only [Rows.uptoBulkAll, List.length_cons]; omega
section
variable {H : Type} {enc : TypeId × Value → H} {W : World} {base : Nat} {sp : Nat → Bool} {held : Bool}
theorem trod_nums {t : TypeId} {ks : List IntKind} (hu : Tryz.prog.underlying t = some (.struct (Tryz.prog.fieldsOf t))) (hct : Tryz.prog.cellsOf t = ks.length) (hs : (Tryz.prog.fieldsOf t).size = ks.length)
    (hf : ∀ (i : Nat) (k : IntKind), ks[i]? = some k → ∃ f : Go.Field, (Tryz.prog.fieldsOf t)[i]? = some f ∧ f.offset = i ∧ Tryz.prog.cellsOf f.type = 1 ∧ Tryz.prog.underlying f.type = some (.int k))
    {n : Nat} {cs : List Value} {x : DataW H × List MemPlace} (h : DataW.trod enc Tryz.prog W base sp held n t cs = some x) : cs.length = ks.length ∧ ∀ (i : Nat) (k : IntKind), ks[i]? = some k → ∃ z : Int, cs[i]? = some (.int k z) ∧ k.min ≤ z ∧ z ≤ k.max := by
  obtain ⟨xs, m, -, -, hl, hsz, hp⟩ := DataW.trod_struct hu h
  rw [hct] at hl
  refine ⟨hl, fun i k hi => ?_⟩
  obtain ⟨f, h1, h2, h3, h4⟩ := hf i k hi
  have h5 := hp i f h1
  rw [h2, h3] at h5
  have hil : i < ks.length := (List.getElem?_eq_some_iff.1 hi).1
  rw [List.getElem?_eq_getElem (show i < xs.length by omega)] at h5
  obtain ⟨z, e1, -, e3⟩ := DataW.trod_int h4 h5
  have hic : i < cs.length := by omega
  rw [List.drop_eq_getElem_cons hic, List.take_succ_cons, List.take_zero] at e1
  simp only [Lit.wf, Bool.and_eq_true, decide_eq_true_eq] at e3
  refine ⟨z, ?_, e3.1, e3.2⟩
  rw [List.getElem?_eq_getElem hic]
  exact congrArg some (List.cons.inj e1).1
theorem offs {t : TypeId} (ks : List IntKind) (h : ((List.range ks.length).all fun i => match (Tryz.prog.fieldsOf t)[i]?, ks[i]? with | some f, some k => f.offset == i && Tryz.prog.cellsOf f.type == 1 && (match Tryz.prog.underlying f.type with | some (.int q) => q == k | _ => false) | _, _ => false) = true) :
    ∀ (i : Nat) (k : IntKind), ks[i]? = some k → ∃ f : Go.Field, (Tryz.prog.fieldsOf t)[i]? = some f ∧ f.offset = i ∧ Tryz.prog.cellsOf f.type = 1 ∧ Tryz.prog.underlying f.type = some (.int k) := by
  intro i k hi
  have hil : i < ks.length := (List.getElem?_eq_some_iff.1 hi).1
  have := List.all_eq_true.1 h i (List.mem_range.2 hil)
  rw [hi] at this
  split at this
  · rename_i f k' h1 h2
    cases h2
    simp only [Bool.and_eq_true, beq_iff_eq] at this
    obtain ⟨⟨a1, a2⟩, a3⟩ := this
    split at a3
    · rename_i q hq
      have := eq_of_beq a3
      subst this
      exact ⟨f, h1, a1, a2, hq⟩
    · cases a3
  · cases this
def mkV (m : Mk) : List Value := [.int .u32 m.id, .int .i64 m.at_, .int .u8 m.grav]
def cuV (m : Cu) : List Value := [.int .u32 m.id, .int .i64 m.at_, .int .i64 m.anc, .int .i64 m.goal]
theorem dec64 {n : Nat} {cs : List Value} {x : DataW H × List MemPlace} (h : DataW.trod enc Tryz.prog W base sp held n 64 cs = some x) : ∃ m, cs = mkV m ∧ mkOK m := by
  obtain ⟨hl, hg⟩ := trod_nums (ks := [.u32, .i64, .u8]) und64 (by kernel_rfl) (by kernel_rfl) (offs _ (by kernel_rfl)) h
  match cs, hl with
  | [c0, c1, c2], _ =>
    obtain ⟨z0, e0, l0, u0⟩ := hg 0 .u32 rfl
    obtain ⟨z1, e1, l1, u1⟩ := hg 1 .i64 rfl
    obtain ⟨z2, e2, l2, u2⟩ := hg 2 .u8 rfl
    simp only [List.getElem?_cons_zero, List.getElem?_cons_succ, Option.some.injEq] at e0 e1 e2
    subst e0 e1 e2
    exact ⟨⟨z0, z1, z2⟩, rfl, ⟨l0, u0⟩, ⟨l1, u1⟩, ⟨l2, u2⟩⟩
theorem dec109 {n : Nat} {cs : List Value} {x : DataW H × List MemPlace} (h : DataW.trod enc Tryz.prog W base sp held n 109 cs = some x) : ∃ m, cs = cuV m ∧ cuOK m := by
  obtain ⟨hl, hg⟩ := trod_nums (ks := [.u32, .i64, .i64, .i64]) und109 (by kernel_rfl) (by kernel_rfl) (offs _ (by kernel_rfl)) h
  match cs, hl with
  | [c0, c1, c2, c3], _ =>
    obtain ⟨z0, e0, l0, u0⟩ := hg 0 .u32 rfl
    obtain ⟨z1, e1, l1, u1⟩ := hg 1 .i64 rfl
    obtain ⟨z2, e2, l2, u2⟩ := hg 2 .i64 rfl
    obtain ⟨z3, e3, l3, u3⟩ := hg 3 .i64 rfl
    simp only [List.getElem?_cons_zero, List.getElem?_cons_succ, Option.some.injEq] at e0 e1 e2 e3
    subst e0 e1 e2 e3
    exact ⟨⟨z0, z1, z2, z3⟩, rfl, ⟨l0, u0⟩, ⟨l1, u1⟩, ⟨l2, u2⟩, ⟨l3, u3⟩⟩
theorem dec9 {n : Nat} {cs : List Value} {x : DataW H × List MemPlace} (h : DataW.trod enc Tryz.prog W base sp held n 9 cs = some x) : ∃ s : List UInt8, cs = [Value.string ⟨s.toArray⟩] ∧ x.1 = .lit (.string s) := by
  obtain ⟨s, rfl, rfl, -⟩ := DataW.trod_string Tryz.underlying9 h
  exact ⟨s.data.toList, by simp, rfl⟩
end
theorem cell_bool {P : Program} {w : World} {r : Reach} {base : Nat} {t : TypeId} {v : Value} (hu : P.underlying t = some .bool) (h : Cell.okWide P w r base t v) : ∃ b, v = .bool b := by
  simp only [Cell.okWide, hu] at h
  cases v <;> simp_all [Cell.ok]
theorem und49 : Tryz.prog.underlying 49 = some (.struct (Tryz.prog.fieldsOf 49)) := by kernel_rfl
theorem mksE_flat (ms : List Mk) : ms.flatMap mkE = mksE ms := by
  induction ms with
  | nil => rfl
  | cons m r ih => rw [List.flatMap_cons, ih]; rfl
theorem cusE_flat (ms : List Cu) : ms.flatMap cuE = cusE ms := by
  induction ms with
  | nil => rfl
  | cons m r ih => rw [List.flatMap_cons, ih]; rfl
theorem strsE_flat (ns : List (List UInt8)) : ns.flatMap (fun s => [EV.str s]) = strsE ns := by
  induction ns with
  | nil => rfl
  | cons m r ih => rw [List.flatMap_cons, ih]; rfl
theorem slice_le {H : Type} {ds rest : List (DataW H)} : Rows.uptoBulkAll ds < Rows.uptoBulk (DataW.slice ds rest) := by
  simp only [Rows.uptoBulk]; omega
theorem replyIn {H : Type} {enc : TypeId × Value → H} {W : World} {bb base : Nat} {held : Bool} {v : Value} {d : DataW H} {ps : List MemPlace} (h : Value.okWide Tryz.prog W .any bb 49 v) (hd : DataW.Trod enc Tryz.prog W base (fun _ => true) held 49 v d ps) (hbulk : Rows.uptoBulk d ≤ 1048577) :
    ∃ (r : Rp) (text : ByteArray) (vm vc vn : Value) (ms : List Mk) (cs : List Cu) (ns : List (List UInt8)), v = .agg #[.int .i64 r.err, .int .i64 r.num, .int .i64 r.line, .int .i64 r.col, .string text, .bool r.found, .int .i64 r.frm, .int .i64 r.to, vm, vc, vn, .int .i64 r.st.docs, .int .i64 r.st.bytes, .int .i64 r.st.marks, .int .i64 r.st.curs, .int .i64 r.st.chg, .int .i64 r.st.pay, .int .i64 r.st.names, .int .i64 r.st.chars, .int .i64 r.st.lines] ∧
      r.text = text.data.toList ∧ rpOK r ∧ r.text.length ≤ 1048577 ∧ (∀ m ∈ ms, mkOK m) ∧ (∀ m ∈ cs, cuOK m) ∧ (∀ m ∈ ns, m.length ≤ 1048577) ∧ ms.length ≤ 1048577 ∧ cs.length ≤ 1048577 ∧ ns.length ≤ 1048577 ∧
      SlIn W vm 3 ms.length (mksE ms) ∧ SlIn W vc 4 cs.length (cusE cs) ∧ SlIn W vn 1 ns.length (strsE ns) := by
  obtain ⟨l, rfl, hl, hg⟩ := okWide_cells (ts := [29, 3, 3, 3, 9, 4, 3, 3, 43, 44, 45, 3, 3, 3, 3, 3, 3, 3, 3, 3]) und49 (by kernel_rfl) (by kernel_rfl) h
  match l, hl with
  | [c0, c1, c2, c3, c4, c5, c6, c7, c8, c9, c10, c11, c12, c13, c14, c15, c16, c17, c18, c19], _ =>
    obtain ⟨x0, e0, k0⟩ := hg 0 29 rfl
    obtain ⟨x1, e1, k1⟩ := hg 1 3 rfl
    obtain ⟨x2, e2, k2⟩ := hg 2 3 rfl
    obtain ⟨x3, e3, k3⟩ := hg 3 3 rfl
    obtain ⟨x4, e4, k4⟩ := hg 4 9 rfl
    obtain ⟨x5, e5, k5⟩ := hg 5 4 rfl
    obtain ⟨x6, e6, k6⟩ := hg 6 3 rfl
    obtain ⟨x7, e7, k7⟩ := hg 7 3 rfl
    obtain ⟨x8, e8, k8⟩ := hg 8 43 rfl
    obtain ⟨x9, e9, k9⟩ := hg 9 44 rfl
    obtain ⟨x10, e10, k10⟩ := hg 10 45 rfl
    obtain ⟨x11, e11, k11⟩ := hg 11 3 rfl
    obtain ⟨x12, e12, k12⟩ := hg 12 3 rfl
    obtain ⟨x13, e13, k13⟩ := hg 13 3 rfl
    obtain ⟨x14, e14, k14⟩ := hg 14 3 rfl
    obtain ⟨x15, e15, k15⟩ := hg 15 3 rfl
    obtain ⟨x16, e16, k16⟩ := hg 16 3 rfl
    obtain ⟨x17, e17, k17⟩ := hg 17 3 rfl
    obtain ⟨x18, e18, k18⟩ := hg 18 3 rfl
    obtain ⟨x19, e19, k19⟩ := hg 19 3 rfl
    simp only [List.getElem?_cons_zero, List.getElem?_cons_succ, Option.some.injEq] at e0 e1 e2 e3 e4 e5 e6 e7 e8 e9 e10 e11 e12 e13 e14 e15 e16 e17 e18 e19
    subst e0 e1 e2 e3 e4 e5 e6 e7 e8 e9 e10 e11 e12 e13 e14 e15 e16 e17 e18 e19
    obtain ⟨n0, rfl, b0⟩ := cell_int (k := .i64) Tryz.underlying29 k0
    obtain ⟨n1, rfl, b1⟩ := cell_int (k := .i64) Tryz.underlying3 k1
    obtain ⟨n2, rfl, b2⟩ := cell_int (k := .i64) Tryz.underlying3 k2
    obtain ⟨n3, rfl, b3⟩ := cell_int (k := .i64) Tryz.underlying3 k3
    obtain ⟨n4, rfl, _⟩ := cell_str Tryz.underlying9 k4
    obtain ⟨n5, rfl⟩ := cell_bool Tryz.underlying4 k5
    obtain ⟨n6, rfl, b6⟩ := cell_int (k := .i64) Tryz.underlying3 k6
    obtain ⟨n7, rfl, b7⟩ := cell_int (k := .i64) Tryz.underlying3 k7
    obtain ⟨n11, rfl, b11⟩ := cell_int (k := .i64) Tryz.underlying3 k11
    obtain ⟨n12, rfl, b12⟩ := cell_int (k := .i64) Tryz.underlying3 k12
    obtain ⟨n13, rfl, b13⟩ := cell_int (k := .i64) Tryz.underlying3 k13
    obtain ⟨n14, rfl, b14⟩ := cell_int (k := .i64) Tryz.underlying3 k14
    obtain ⟨n15, rfl, b15⟩ := cell_int (k := .i64) Tryz.underlying3 k15
    obtain ⟨n16, rfl, b16⟩ := cell_int (k := .i64) Tryz.underlying3 k16
    obtain ⟨n17, rfl, b17⟩ := cell_int (k := .i64) Tryz.underlying3 k17
    obtain ⟨n18, rfl, b18⟩ := cell_int (k := .i64) Tryz.underlying3 k18
    obtain ⟨n19, rfl, b19⟩ := cell_int (k := .i64) Tryz.underlying3 k19
    obtain ⟨fuel, hf⟩ := hd
    obtain ⟨xs, n, -, hx, hlen, hsz, hp⟩ := DataW.trod_struct und49 hf
    obtain rfl : d = .agg (xs.map (·.1)) := congrArg Prod.fst hx
    have hs10 : xs.length = 10 := by rw [hsz]; kernel_rfl
    have hbk : ∀ y ∈ xs, Rows.uptoBulk y.1 < 1048577 := fun y hy => by
      have h1 := bulk_part (List.mem_map.2 ⟨y, hy, rfl⟩ : y.1 ∈ xs.map (·.1))
      simp only [Rows.uptoBulk] at hbulk
      omega
    have get : ∀ (i off ty k : Nat), i < 10 → ((Tryz.prog.fieldsOf 49)[i]?.map fun f => (f.offset, f.type)) = some (off, ty) → Tryz.prog.cellsOf ty = k → ∃ y, y ∈ xs ∧ DataW.trod enc Tryz.prog W base (fun _ => true) held n ty (((Value.agg #[.int .i64 n0, .int .i64 n1, .int .i64 n2, .int .i64 n3, .string n4, .bool n5, .int .i64 n6, .int .i64 n7, c8, c9, c10, .int .i64 n11, .int .i64 n12, .int .i64 n13, .int .i64 n14, .int .i64 n15, .int .i64 n16, .int .i64 n17, .int .i64 n18, .int .i64 n19]).cells.toList.drop off).take k) = some y := by
      intro i off ty k hi hf hk
      obtain ⟨f, hfi, hfe⟩ := Option.map_eq_some_iff.1 hf
      cases hfe
      have h1 := hp i f hfi
      rw [hk] at h1
      refine ⟨xs[i], List.getElem_mem _, ?_⟩
      rw [List.getElem?_eq_getElem (show i < xs.length by omega)] at h1
      exact h1
    obtain ⟨y3, m3, t3⟩ := get 3 4 9 1 (by decide) (by kernel_rfl) (by kernel_rfl)
    obtain ⟨y6, m6, t6⟩ := get 6 8 43 1 (by decide) (by kernel_rfl) (by kernel_rfl)
    obtain ⟨y7, m7, t7⟩ := get 7 9 44 1 (by decide) (by kernel_rfl) (by kernel_rfl)
    obtain ⟨y8, m8, t8⟩ := get 8 10 45 1 (by decide) (by kernel_rfl) (by kernel_rfl)
    replace t3 : DataW.trod enc Tryz.prog W base (fun _ => true) held n 9 [.string n4] = some y3 := t3
    replace t6 : DataW.trod enc Tryz.prog W base (fun _ => true) held n 43 [c8] = some y6 := t6
    replace t7 : DataW.trod enc Tryz.prog W base (fun _ => true) held n 44 [c9] = some y7 := t7
    replace t8 : DataW.trod enc Tryz.prog W base (fun _ => true) held n 45 [c10] = some y8 := t8
    obtain ⟨s3, hs3, hy3, -⟩ := DataW.trod_string Tryz.underlying9 t3
    obtain rfl : n4 = s3 := by simpa using hs3
    have hb3 := hbk _ m3
    rw [hy3, bulk_str] at hb3
    obtain ⟨ms, ds6, l6, o6, i6, r6⟩ := slIn mkV mkE (fun m _ => mkOK m) (show Tryz.prog.underlying 43 = some (.slice 64) by kernel_rfl) (show Tryz.prog.cellsOf 64 = 3 by kernel_rfl) (by decide) (fun ρ m => by simp [mkV, mkE, VR, VRs]) (fun n cs y h => dec64 h) k8 t6
    obtain ⟨cs, ds7, l7, o7, i7, r7⟩ := slIn cuV cuE (fun m _ => cuOK m) (show Tryz.prog.underlying 44 = some (.slice 109) by kernel_rfl) (show Tryz.prog.cellsOf 109 = 4 by kernel_rfl) (by decide) (fun ρ m => by simp [cuV, cuE, VR, VRs]) (fun n cs y h => dec109 h) k9 t7
    obtain ⟨ns, ds8, l8, o8, i8, r8⟩ := slIn (fun s => [Value.string ⟨s.toArray⟩]) (fun s => [EV.str s]) (fun s x => x = .lit (.string s)) (show Tryz.prog.underlying 45 = some (.slice 9) by kernel_rfl) (show Tryz.prog.cellsOf 9 = 1 by kernel_rfl) (by decide) (fun ρ m => by simp [VR, VRs]) (fun n cs y h => dec9 h) k10 t8
    have q6 := hbk _ m6
    have q7 := hbk _ m7
    have q8 := hbk _ m8
    rw [mksE_flat] at i6
    rw [cusE_flat] at i7
    rw [strsE_flat] at i8
    have le6 : ms.length ≤ 1048577 := by
      rcases r6 with ⟨-, rfl⟩ | ⟨rest, hr⟩
      · simp
      · have h1 := bulk_len ds6
        have h2 := slice_le (ds := ds6) (rest := rest)
        rw [← hr] at h2; omega
    have le7 : cs.length ≤ 1048577 := by
      rcases r7 with ⟨-, rfl⟩ | ⟨rest, hr⟩
      · simp
      · have h1 := bulk_len ds7
        have h2 := slice_le (ds := ds7) (rest := rest)
        rw [← hr] at h2; omega
    have le8 : ns.length ≤ 1048577 ∧ ∀ s ∈ ns, s.length ≤ 1048577 := by
      rcases r8 with ⟨-, rfl⟩ | ⟨rest, hr⟩
      · simp
      · have h1 := bulk_len ds8
        have h2 := slice_le (ds := ds8) (rest := rest)
        rw [← hr] at h2
        refine ⟨by omega, fun s hs => ?_⟩
        obtain ⟨j, hj⟩ := List.getElem?_of_mem hs
        have hjl := (List.getElem?_eq_some_iff.1 hj).1
        have hd := o8 j s ds8[j] hj (List.getElem?_eq_getElem (by omega))
        have h3 := bulk_part (List.getElem_mem (show j < ds8.length by omega))
        rw [hd, bulk_str] at h3
        omega
    refine ⟨⟨n0, n1, n2, n3, n4.data.toList, n5, n6, n7, ⟨n11, n12, n13, n14, n15, n16, n17, n18, n19⟩⟩, n4, c8, c9, c10, ms, cs, ns, rfl, rfl, ⟨b0, b1, b2, b3, by simp only; omega, b6, b7, ⟨b11, b12, b13, b14, b15, b16, b17, b18, b19⟩⟩, by simp only; omega, fun m hm => ?_, fun m hm => ?_, le8.2, le6, le7, le8.1, i6, i7, i8⟩
    · obtain ⟨j, hj⟩ := List.getElem?_of_mem hm
      have hjl := (List.getElem?_eq_some_iff.1 hj).1
      exact o6 j m ds6[j] hj (List.getElem?_eq_getElem (by omega))
    · obtain ⟨j, hj⟩ := List.getElem?_of_mem hm
      have hjl := (List.getElem?_eq_some_iff.1 hj).1
      exact o7 j m ds7[j] hj (List.getElem?_eq_getElem (by omega))
end Go.Proofs.YtnjbdcdjcfhooaaGreatDoor
namespace Go.Proofs.YtnjbdcdjcfhooaaGreatDoor
open Go.E Go.ChangeShapes Go.WideShapes Go.ChangeAt Go.RowKit
set_option linter.all false
set_option maxRecDepth 100000
set_option maxHeartbeats 8000000
theorem came {α : Type} {W : World} {v : Value} {k : Nat} {l : List α} {c : List EV} (hc : l.length = 0 → c = []) (h : SlIn W v k l.length c) (b : Nat) : ∃ (sv : EV) (B : List (Nat × EO)) (lo : Option E.Loc), Arg3 sv b l c B ∧ (∀ ρ : Env, ρ b = lo → VR ρ sv v) ∧ ∀ i o, lkp B i = some o → i = b ∧ o.wr = false ∧ ∃ L, lo = some L ∧ ∀ ρ, BR ρ W L o := by
  rcases h with ⟨rfl, h1, h2⟩ | ⟨L, ty, h1, h2⟩
  · refine ⟨.slice none 0 0, [], none, .inl ⟨rfl, List.length_eq_zero_iff.1 h1, rfl⟩, fun ρ _ => by rw [VR]; exact ⟨rfl, rfl, rfl⟩, fun i o h => by simp [lkp] at h⟩
  · refine ⟨.slice (some ⟨b, 0⟩) l.length l.length, [(b, .cells c ty k false 0)], some L, ?_, fun ρ hr => h2 ρ b hr, fun i o h => ?_⟩
    · by_cases h0 : l.length = 0
      · have hl := List.length_eq_zero_iff.1 h0
        have hcc := hc h0
        subst hl hcc
        exact .inr (.inl ⟨rfl, rfl, ty, k, false, rfl⟩)
      · exact .inr (.inr ⟨_, ty, k, false, rfl, rfl, by omega, rfl⟩)
    · simp only [lkp] at h
      split at h
      · rename_i hb
        cases h
        exact ⟨hb.symm, rfl, L, rfl, h1⟩
      · cases h
abbrev cmdVal (k i f t g : Int) (a b : ByteArray) : Value := .agg #[.int .i64 k, .string a, .int .u32 i, .int .i64 f, .int .i64 t, .string b, .int .u8 g]
abbrev rpVal (r : Rp) (text : ByteArray) (vm vc vn : Value) : Value := .agg #[.int .i64 r.err, .int .i64 r.num, .int .i64 r.line, .int .i64 r.col, .string text, .bool r.found, .int .i64 r.frm, .int .i64 r.to, vm, vc, vn, .int .i64 r.st.docs, .int .i64 r.st.bytes, .int .i64 r.st.marks, .int .i64 r.st.curs, .int .i64 r.st.chg, .int .i64 r.st.pay, .int .i64 r.st.names, .int .i64 r.st.chars, .int .i64 r.st.lines]
theorem pair_calls {g : FuncId} {fn : Func} {body : Code} (hf : Tryz.prog.funcs[g]? = some fn) (hb : fn.body = some body) (hname : (fn.name == "runtime.NumGoroutine") = false) {G : List Gl} {k i f t gr : Int} {a b : ByteArray} {r : Rp} {text : ByteArray} {vm vc vn : Value} {ms : List Mk} {cs : List Cu} {ns : List (List UInt8)} (ht : r.text = text.data.toList) {W : World} (hg : ∀ x ∈ G, GlOK W x)
    (sm : SlIn W vm 3 ms.length (mksE ms)) (sc : SlIn W vc 4 cs.length (cusE cs)) (sn : SlIn W vn 1 ns.length (strsE ns))
    (law : ∀ mk cu na A B C, Arg3 mk 0 ms (mksE ms) A → Arg3 cu 1 cs (cusE cs) B → Arg3 na 2 ns (strsE ns) C → Eff G Tryz.prog g [.agg (cmdE ⟨k, a.data.toList, i, f, t, b.data.toList, gr⟩), .agg (rpE r mk cu na)] (A ++ (B ++ C)) 3 (.bool true) [] 3) :
    Calls Tryz.prog g #[cmdVal k i f t gr a b, rpVal r text vm vc vn] W fun e w' => e = .returned (.bool true) ∧ Below W.heap.size W w' := by
  obtain ⟨mk, A, l0, a1, a2, a3⟩ := came (fun h => by rw [List.length_eq_zero_iff.1 h]; rfl) sm 0
  obtain ⟨cu, B, l1, b1, b2, b3⟩ := came (fun h => by rw [List.length_eq_zero_iff.1 h]; rfl) sc 1
  obtain ⟨na, C, l2, c1, c2, c3⟩ := came (fun h => by rw [List.length_eq_zero_iff.1 h]; rfl) sn 2
  let ρ : Env := fun j => if j = 0 then l0 else if j = 1 then l1 else if j = 2 then l2 else none
  have hall : ∀ j o, (⟨A ++ (B ++ C), 3, G⟩ : ES).get j = some o → o.wr = false ∧ ∀ L, ρ j = some L → BR ρ W L o := by
    intro j o hj
    have h := (ES.get_lt hj).2
    simp only [lkp_append] at h
    cases hA : lkp A j with
    | some o' =>
      rw [hA] at h
      obtain rfl : o' = o := by simpa using h
      obtain ⟨rfl, e1, L, e2, e3⟩ := a3 j _ hA
      refine ⟨e1, fun L' hL => ?_⟩
      have : L = L' := by have : ρ 0 = l0 := rfl; rw [this, e2] at hL; exact Option.some.inj hL
      subst this; exact e3 ρ
    | none =>
      rw [hA] at h
      cases hB : lkp B j with
      | some o' =>
        rw [hB] at h
        obtain rfl : o' = o := by simpa using h
        obtain ⟨rfl, e1, L, e2, e3⟩ := b3 j _ hB
        refine ⟨e1, fun L' hL => ?_⟩
        have : L = L' := by have : ρ 1 = l1 := rfl; rw [this, e2] at hL; exact Option.some.inj hL
        subst this; exact e3 ρ
      | none =>
        rw [hB] at h
        have hC : lkp C j = some o := by simpa using h
        obtain ⟨rfl, e1, L, e2, e3⟩ := c3 j _ hC
        refine ⟨e1, fun L' hL => ?_⟩
        have : L = L' := by have : ρ 2 = l2 := rfl; rw [this, e2] at hL; exact Option.some.inj hL
        subst this; exact e3 ρ
  have hR : Rel ρ ⟨A ++ (B ++ C), 3, G⟩ W := ⟨⟨fun j o L hj hL => (hall j o hj).2 L hL, fun j hj => by
      have h3 : 3 ≤ j := hj
      show (if j = 0 then l0 else if j = 1 then l1 else if j = 2 then l2 else none) = none
      rw [if_neg (by omega), if_neg (by omega), if_neg (by omega)], fun j j' o o' L L' hj hj' _ _ _ hw => by rw [(hall j o hj).1] at hw; cases hw⟩,
    fun x hx => ⟨hg x hx, fun ⟨j, o, L, hj, _, hw, _⟩ => by rw [(hall j o hj).1] at hw; cases hw⟩⟩
  have hA : VRs ρ [.agg (cmdE ⟨k, a.data.toList, i, f, t, b.data.toList, gr⟩), .agg (rpE r mk cu na)] (#[cmdVal k i f t gr a b, rpVal r text vm vc vn] : Array Value).toList := by
    refine VRs.cons (cmd_vr ..) (VRs.cons ?_ VRs.nil)
    have h1 := a2 ρ rfl
    have h2 := b2 ρ rfl
    have h3 := c2 ρ rfl
    rw [VR]
    refine ⟨_, rfl, ?_⟩
    repeat' (first | exact VRs.nil | refine VRs.cons ?_ ?_)
    all_goals first | exact h1 | exact h2 | exact h3 | (rw [VR, ht]; done) | (rw [VR]; done)
  refine (ECalls.toCallsS (ECalls.compact (law mk cu na A B C a1 b1 c1)) hf hb hname hA W hR (fun j o hj => (hall j o hj).1)).mono ?_
  rintro e w' ⟨x, s', ρ', hr, hbel, rfl, rfl⟩
  obtain ⟨v', rfl, hv⟩ := hr
  rw [VR] at hv
  exact ⟨by rw [hv], hbel⟩
abbrev rpWit : Value := .agg #[.int .i64 0, .int .i64 0, .int .i64 0, .int .i64 0, .string .empty, .bool false, .int .i64 0, .int .i64 0, .slice none 0 0, .slice none 0 0, .slice none 0 0, .int .i64 0, .int .i64 0, .int .i64 0, .int .i64 0, .int .i64 0, .int .i64 0, .int .i64 0, .int .i64 0, .int .i64 0]
end Go.Proofs.YtnjbdcdjcfhooaaGreatDoor
namespace Go.Proofs.YtnjbdcdjcfhooaaGreatDoor
open Go.E Go.ChangeShapes Go.WideShapes Go.ChangeAt Go.RowKit
set_option linter.all false
set_option maxRecDepth 100000
set_option maxHeartbeats 8000000
end Go.Proofs.YtnjbdcdjcfhooaaGreatDoor
