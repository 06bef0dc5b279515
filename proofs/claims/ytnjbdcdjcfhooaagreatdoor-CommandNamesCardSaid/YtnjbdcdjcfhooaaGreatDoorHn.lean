/-
  Own work: walks and laws of the functions that the statement reaches; the statement itself stands in the last text.
-/
import Derived.Test.YtnjbdcdjcfhooaaGreatDoorHm
namespace Go.Proofs.YtnjbdcdjcfhooaaGreatDoor
open Go.E
set_option linter.all false
set_option maxRecDepth 20000
set_option maxHeartbeats 16000000
def cOK (c : Cmd) : Prop := (0 ≤ c.id ∧ c.id ≤ 4294967295) ∧ (0 ≤ c.grav ∧ c.grav ≤ 255) ∧ (-9223372036854775808 ≤ c.frm ∧ c.frm ≤ 9223372036854775807) ∧ (-9223372036854775808 ≤ c.to ∧ c.to ≤ 9223372036854775807) ∧ c.doc.length ≤ 1000000000000 ∧ c.text.length ≤ 1000000000000
theorem toks_text {c : Cmd} (hc : cOK c) : ∀ t ∈ toksOf c, t.text.length ≤ 1000000000000 := by
  obtain ⟨i1, g1, f1, t1, d1, x1⟩ := hc
  intro t ht
  unfold toksOf at ht
  rw [List.mem_cons] at ht
  rcases ht with rfl | ht
  · have : ∀ r ∈ refL, r.1.length ≤ 8 := by decide
    simp only [wordOf, List.getD_eq_getElem?_getD]
    cases h : refL[c.kind.toNat]? with
    | none => simp
    | some r => have := this r (List.mem_of_getElem? h); simp only [Option.getD_some]; omega
  · obtain ⟨a, ha, rfl⟩ := List.mem_map.1 ht
    have hs : ∀ ws n, (∀ w ∈ ws, w.length ≤ 9) → (shownT ws n).text.length ≤ 1000000000000 := fun ws n h => by
      unfold shownT
      split
      · simp only [List.getD_eq_getElem?_getD]
        cases hg : ws[n.toNat]? with
        | none => simp
        | some w => have := h w (List.mem_of_getElem? hg); simp only [Option.getD_some]; omega
      · simp [numT]
    unfold argT
    repeat' split
    · exact d1
    · exact x1
    · exact x1
    · simp [numT]
    · simp [numT]
    · simp [numT]
    · exact hs _ _ (by decide)
    · exact hs _ _ (by decide)
theorem toks_len5 {c : Cmd} (h : c.kind ≤ 22) : (toksOf c).length ≤ 5 := by
  have : ∀ i : Fin 23, (argsOf i.1).length ≤ 4 := by decide
  have := this ⟨c.kind.toNat, by omega⟩
  rw [toks_len]
  unfold argL
  split
  · simp
  · simp only at this; omega
theorem printP_ok {c : Cmd} (h : okC c) : printP c = printL (toksOf c) := by
  have hp := toks_pr h
  unfold printP printL
  rw [if_pos h, if_pos (fun t ht => by
    have := hp t ht
    rw [prS_prT] at this
    cases hb : (prS t).2 with
    | true => rfl
    | false => rw [hb] at this; simp at this)]
  unfold lineOf
  by_cases hl : (Lib.join ((toksOf c).map prA) [32]).length ≤ 16384
  · rw [if_pos hl, if_neg (by omega)]
  · rw [if_neg hl, if_pos (by omega)]
theorem flat24 : flatT Tryz.prog 24 = some [0, 1, 0, 0, 0, 1, 0] := by kernel_rfl
theorem und24 : Tryz.prog.underlying 24 = some (.struct (Tryz.prog.fieldsOf 24)) := by kernel_rfl
theorem cmd_neq (x c : Cmd) (b : Bool) (h : (true && (decide (x.doc = c.doc) && (decide (x.id = c.id) && (decide (x.frm = c.frm) && (decide (x.to = c.to) && (decide (x.text = c.text) && decide (x.grav = c.grav))))))) = b) :
    EqS Tryz.prog .neq 24 (.agg [.int .i64 c.kind, .str x.doc, .int .u32 x.id, .int .i64 x.frm, .int .i64 x.to, .str x.text, .int .u8 x.grav]) (.agg (cmdE c)) (!b) := by
  have := (eqS_struct (xs := [.int .i64 c.kind, .str x.doc, .int .u32 x.id, .int .i64 x.frm, .int .i64 x.to, .str x.text, .int .u8 x.grav]) (ys := cmdE c) flat24 und24 ⟨rfl, rfl, rfl, rfl, rfl, trivial⟩).2
  rw [← h]
  simpa only [eqE, eqE.eqL, decide_true, Bool.and_true, Bool.true_and, and_self] using this
theorem cmd_cmp (x c : Cmd) : (true && (decide (x.doc = c.doc) && (decide (x.id = c.id) && (decide (x.frm = c.frm) && (decide (x.to = c.to) && (decide (x.text = c.text) && decide (x.grav = c.grav))))))) = decide ({x with kind := c.kind} = c) := by
  obtain ⟨k, d, i, f, t, tx, g⟩ := c
  simp [Cmd.mk.injEq]
theorem print_c (G : List Gl) (t u tz tp : TypeId) (v : List Value) (h3 : gFirst t ∈ G) (h4 : gAcc u ∈ G) (hv : v[15]? = some (.int .u8 4)) (hG : gTz v tz ∈ G) (hp : gPow tp ∈ G) (c : Cmd) (hc : cOK c) :
    E.Pure G Tryz.prog 14 [.agg (cmdE c)] (.tuple [.str (printP c).1, .int .i64 (printP c).2]) := by
  refine pure_hid fun V hV => ?_
  obtain ⟨i1, g1, f1, t1, d1, x1⟩ := hc
  by_cases hk : c.kind < 1 ∨ 22 < c.kind
  · have hno : printP c = ([], 260) := by unfold printP; rw [if_neg (fun h => by have := h.1; omega)]
    rw [hno] at hV
    have ha := toks_no G t u tz tp v h3 h4 hv hG hp c d1 x1 i1 g1 hk
    refine ecalls_in 71 [.tmp 2, .tmp 3] Tryz.func14 rfl rfl rfl (by kernel_rfl) (le_ble rfl) ?_
    repeat' (first | refine esem_seqK 73786980418073920255 ?_ | refine esem_block ?_ | (refine stp ?_; simp only [go_sem]) | (refine drawQ (id := 6) mixed [(1, []), (2, []), (3, []), (8, []), (4, []), (0, [4]), (5, []), (6, []), (7, [])] (by kernel_rfl) ?_; simp only [go_sem]) | (refine drawQ (id := 12) mixed [(0, []), (1, []), (2, []), (3, []), (4, []), (5, []), (6, []), (7, []), (8, []), (9, []), (10, []), (11, []), (12, [])] (by kernel_rfl) ?_; simp only [go_sem]) | (refine Eff.at2 (ha ) [] rfl (by first | (simp; done) | (simp; omega) | (simp [bC]; done) | omega) rfl ?_; (try simp only [go_sem])) | (simp (disch := omega) only [wE]) | (refine spl (fun h => ?_) (fun h => ?_) <;> first | (exfalso; omega) | ((try simp only [opRun, opSkip, stepRun, pickZ]); (try simp only [go_sem, h]))) | (refine and_om ?_ ?_; focus omega))
    all_goals ((refine done_zero (by simp [EV.bel, allBelow]) ?_; rw [hV]); rfl)
  have k1 : 1 ≤ c.kind := by omega
  have k2 : c.kind ≤ 22 := by omega
  have ha := toks_c G t u tz tp v h3 h4 hv hG hp c d1 x1 i1 g1 k1 k2
  by_cases hneg : c.frm < 0 ∨ c.to < 0
  · have hno : printP c = ([], 260) := by unfold printP; rw [if_neg (fun h => by obtain ⟨-, -, -, -, h1, h2⟩ := h; omega)]
    rw [hno] at hV
    refine ecalls_in 71 [.tmp 2, .tmp 3] Tryz.func14 rfl rfl rfl (by kernel_rfl) (le_ble rfl) ?_
    repeat' (first | refine esem_seqK 73786980418073920255 ?_ | refine esem_block ?_ | (refine stp ?_; simp only [go_sem]) | (refine drawQ (id := 6) mixed [(1, []), (2, []), (3, []), (8, []), (4, []), (0, [4]), (5, []), (6, []), (7, [])] (by kernel_rfl) ?_; simp only [go_sem]) | (refine drawQ (id := 12) mixed [(0, []), (1, []), (2, []), (3, []), (4, []), (5, []), (6, []), (7, []), (8, []), (9, []), (10, []), (11, []), (12, [])] (by kernel_rfl) ?_; simp only [go_sem]) | (refine Eff.at2 (ha ) [] rfl (by first | (simp; done) | (simp; omega) | (simp [bC]; done) | omega) rfl ?_; (try simp only [go_sem])) | (simp (disch := omega) only [wE]) | (refine spl (fun h => ?_) (fun h => ?_) <;> first | (exfalso; omega) | ((try simp only [opRun, opSkip, stepRun, pickZ]); (try simp only [go_sem, h]))) | (refine and_om ?_ ?_; focus omega))
    all_goals first | (exfalso; omega) | ((refine done_zero (by simp [EV.bel, allBelow]) ?_; rw [hV]); rfl)
  have hr : rOK c := ⟨i1, g1, by omega, by omega⟩
  obtain ⟨i9, hrun⟩ := run_toks hr k1 k2 0
  rw [tokensE_eq hr, ← toks_len c] at ha
  have hset := okC_set hr k1 k2
  have hal5 := toks_len5 k2
  have hal : (toksOf c).length ≤ 16384 := by omega
  have hpk := fun h : okC c => printP_ok h
  have hpr := fun h : okC c => sprint_c G t u tz tp v h3 h4 hv hG hp (toksOf c) (toksOf c).length 0 (.inl rfl) rfl (by rw [toks_len]; omega) hal (fun k hk => ⟨toks_text ⟨i1, g1, f1, t1, d1, x1⟩ k hk, num_le h k hk⟩) (by
    have := join_len 8000000000020 ((toksOf c).map prA) (fun p hp => by
      obtain ⟨k, hk, rfl⟩ := List.mem_map.1 hp
      have a := prA_len (num_le h k hk)
      have b := toks_text ⟨i1, g1, f1, t1, d1, x1⟩ k hk
      omega)
    rw [List.length_map] at this
    have := Nat.mul_le_mul_right (8000000000020 + 1) hal5
    omega)
  have hpos : 0 < (toksOf c).length := by rw [toks_len]; omega
  have htx : (tokAt (toksOf c) 0).text = wordOf c.kind.toNat := rfl
  have hfw := form_word c.kind.toNat (by omega) (by omega)
  obtain ⟨ht0, ht1, ht2⟩ := toks_cells (l := toksOf c) (i := 0) hpos
  generalize hT : toksOf c = ts at *
  rw [htx] at ht2
  refine ecalls_in 71 [.tmp 2, .tmp 3] Tryz.func14 rfl rfl rfl (by kernel_rfl) (le_ble rfl) ?_
  repeat' (first | refine esem_seqK 73786980418073920255 ?_ | refine esem_block ?_ | (refine stp ?_; simp only [go_sem, ht2]) | (refine drawQ (id := 6) mixed [(1, []), (2, []), (3, []), (8, []), (4, []), (0, [4]), (5, []), (6, []), (7, [])] (by kernel_rfl) ?_; simp only [go_sem, ht2]) | (refine drawQ (id := 12) mixed [(0, []), (1, []), (2, []), (3, []), (4, []), (5, []), (6, []), (7, []), (8, []), (9, []), (10, []), (11, []), (12, [])] (by kernel_rfl) ?_; simp only [go_sem, ht2]) | (refine Eff.at2 (ha ) [] rfl (by first | (simp; done) | (simp; omega) | (simp [bC]; done) | omega) rfl ?_; (try simp only [go_sem, ht2])) | (refine Eff.at2 (forms_c _ ) [] rfl (by first | (simp; done) | (simp; omega) | (simp [bC]; done) | omega) rfl ?_; (try simp only [go_sem, ht2])) | (simp only [go_sem, ht2, Op.operands]) | (simp (disch := omega) only [wE]) | (refine spl (fun h => ?_) (fun h => ?_) <;> first | (exfalso; omega) | ((try simp only [opRun, opSkip, stepRun, pickZ]); (try simp only [go_sem, ht2, h]))) | (refine and_om ?_ ?_; focus omega))
  refine look_c (m := 13) _ (fun f k ps hf hps hp4 hp0 hf1 hf2 => ?_) (fun k hf => ?_) (fun hf => ?_) (by decide) rfl
  · simp only [go_sem, lookE, List.cons_append, List.nil_append]
    have e0 : (0 = f) = False := eq_false (by omega)
    have e0' : (f = 0) = False := eq_false (by omega)
    have e1 : (1 = f) = False := eq_false (by omega)
    have e1' : (f = 1) = False := eq_false (by omega)
    have e2 : (2 = f) = False := eq_false (by omega)
    have e2' : (f = 2) = False := eq_false (by omega)
    have e3 : (3 = f) = False := eq_false (by omega)
    have e3' : (f = 3) = False := eq_false (by omega)
    have e13 : (13 = f) = False := eq_false (by omega)
    have ef : (f < 35) = True := eq_true (by omega)
    repeat' (first | refine esem_seqK 73786980418073920255 ?_ | refine esem_block ?_ | (refine stp ?_; simp only [go_sem, e0, e0']) | (refine drawQ (id := 6) mixed [(1, []), (2, []), (3, []), (8, []), (4, []), (0, [4]), (5, []), (6, []), (7, [])] (by kernel_rfl) ?_; simp only [go_sem, e0, e0']) | (refine drawQ (id := 12) mixed [(0, []), (1, []), (2, []), (3, []), (4, []), (5, []), (6, []), (7, []), (8, []), (9, []), (10, []), (11, []), (12, [])] (by kernel_rfl) ?_; simp only [go_sem, e0, e0']) | (simp (disch := omega) only [wE]) | (refine spl (fun h => ?_) (fun h => ?_) <;> first | (exfalso; omega) | ((try simp only [opRun, opSkip, stepRun, pickZ]); (try simp only [go_sem, e0, e0', h]))) | (refine and_om ?_ ?_; focus omega))
    refine esem_loopS (fun z : Nat × Cmd × Nat => [(38, .slice (some ⟨f, 0⟩) ps.length ps.length), (39, .int .i64 ps.length), (40, .int .i64 z.1), (7, .ptr (some ⟨3, 0⟩)), (6, .ptr (some ⟨2, 0⟩)), (4, .slice (some ⟨1, 0⟩) ts.length ts.length), (1, .ptr (some ⟨0, 0⟩))]) (fun z : Nat × Cmd × Nat => [(0, .cells (cmdE c) 24 0 true 0), (2, .cells (cmdE c) 24 0 true 0), (3, rdE z.2.1 (slT ts z.2.2) 0 none), tkB ts 0, (f, .cells (fnsE ps) 83 0 true 0)]) (fun z : Nat × Cmd × Nat => 35) (fun z : Nat × Cmd × Nat => z.1 ≤ ps.length ∧ runP ts 0 (ps.drop z.1) (z.2.1, z.2.2, none) = runP ts 0 ps (zCmd, 1, none)) (fun z : Nat × Cmd × Nat => ps.length - z.1) (((0 : Nat), zCmd, (1 : Nat))) (fun z hz => ⟨by simp [frBel, EV.bel, allBelow]; omega, by simp [blBelow, EO.bel, allBelow, EV.bel]; omega, by omega⟩) (by exact ⟨Nat.zero_le _, rfl⟩) (by first | (simp only [go_sem, weakL]; done) | ((try simp only [go_sem, weakL]); ((repeat' apply And.intro) <;> (first | rfl | trivial | ((try simp only [EV.int.injEq, EV.str.injEq, EV.bool.injEq, EV.tuple.injEq, EV.slice.injEq, List.cons.injEq, true_and, and_true]); first | rfl | omega))))) ?_ ?_
    · simp only [lessL, ES.get, lkp, e0, e0', e1, e1', e2, e2', e3, e3', e13, ef, List.cons_append, List.nil_append, go_sem]
      first | done | exact ⟨rfl, rfl⟩ | rfl
    rintro ⟨j, c2, i⟩ ⟨hj, hrn⟩
    simp only at hj hrn
    simp only []
    by_cases hjl : j < ps.length
    · have hget := fnsE_get hjl
      have hstep : runP ts 0 (ps.drop j) (c2, i, none) = runP ts 0 (ps.drop (j + 1)) (stepP ts 0 (c2, i, none) (ps.getD j 0)) := by rw [drop_cons hjl]; rfl
      have hpart := part_n G ts c2 i 0 0 (.inl rfl) hal (ps.getD j 0) (hps _ (getD_mem hjl))
      rcases hb : (partS (ps.getD j 0) ts 0 c2 i).2.2 with _ | a
      · simp only [partPost, partN, hb] at hpart
        repeat' (first | refine esem_seqK 73786980418073920255 ?_ | refine esem_block ?_ | (refine stp ?_; simp only [go_sem, hget, e0, e0', e1, e1', e2, e2', e3, e3', e13, ef, List.cons_append, List.nil_append]) | (refine drawQ (id := 6) mixed [(1, []), (2, []), (3, []), (8, []), (4, []), (0, [4]), (5, []), (6, []), (7, [])] (by kernel_rfl) ?_; simp only [go_sem, hget, e0, e0', e1, e1', e2, e2', e3, e3', e13, ef, List.cons_append, List.nil_append]) | (refine drawQ (id := 12) mixed [(0, []), (1, []), (2, []), (3, []), (4, []), (5, []), (6, []), (7, []), (8, []), (9, []), (10, []), (11, []), (12, [])] (by kernel_rfl) ?_; simp only [go_sem, hget, e0, e0', e1, e1', e2, e2', e3, e3', e13, ef, List.cons_append, List.nil_append]) | (refine Eff.at2 (hpart ) [3, 1] rfl (by first | (simp; done) | (simp; omega) | (simp [bC]; done) | omega) rfl ?_; (try simp only [go_sem, hget, e0, e0', e1, e1', e2, e2', e3, e3', e13, ef, List.cons_append, List.nil_append])) | (simp (disch := omega) only [wE]) | (refine spl (fun h => ?_) (fun h => ?_) <;> first | (exfalso; omega) | ((try simp only [opRun, opSkip, stepRun, pickZ]); (try simp only [go_sem, hget, e0, e0', e1, e1', e2, e2', e3, e3', e13, ef, List.cons_append, List.nil_append, h]))) | (refine and_om ?_ ?_; focus omega))
        (refine ⟨(j + 1, (partS (ps.getD j 0) ts 0 c2 i).1, (partS (ps.getD j 0) ts 0 c2 i).2.1), ?_, ?_, rfl, rfl, ?_, ?_⟩; rotate_left; (focus (first | omega | (simp only []; omega))); (focus (first | (simp only [go_sem, weakL, e0, e0', e1, e1', e2, e2', e3, e3', e13, ef, List.cons_append, List.nil_append]; done) | ((try simp only [go_sem, weakL, e0, e0', e1, e1', e2, e2', e3, e3', e13, ef, List.cons_append, List.nil_append]); ((repeat' apply And.intro) <;> (first | rfl | trivial | ((try simp only [EV.int.injEq, EV.str.injEq, EV.bool.injEq, EV.tuple.injEq, EV.slice.injEq, List.cons.injEq, true_and, and_true]); first | rfl | omega)))))); (focus (first | trivial | (simp only [go_sem, lessL, e0, e0', e1, e1', e2, e2', e3, e3', e13, ef, List.cons_append, List.nil_append]; done) | ((try simp only [go_sem, lessL, e0, e0', e1, e1', e2, e2', e3, e3', e13, ef, List.cons_append, List.nil_append]); ((repeat' apply And.intro) <;> (first | rfl | trivial | ((try simp only [EV.int.injEq, EV.str.injEq, EV.bool.injEq, EV.tuple.injEq, EV.slice.injEq, List.cons.injEq, true_and, and_true]); first | rfl | omega)))))); (try simp only []))
        exact ⟨by omega, by rw [← hrn, hstep]; simp only [stepP, hb, orO]⟩
      · exfalso
        have h9 : stepP ts 0 (c2, i, none) (ps.getD j 0) = ((partS (ps.getD j 0) ts 0 c2 i).1, (partS (ps.getD j 0) ts 0 c2 i).2.1, some a) := by simp only [stepP, hb, orO]
        have := runP_bad ts 0 (ps.drop (j + 1)) (partS (ps.getD j 0) ts 0 c2 i).1 (partS (ps.getD j 0) ts 0 c2 i).2.1 a
        rw [← h9, ← hstep, hrn] at this
        rw [hfw] at hf
        simp only [Option.some.injEq, Prod.mk.injEq] at hf
        rw [← hf.2, hrun] at this
        cases this
    · rw [List.drop_eq_nil_of_le (by omega)] at hrn
      rw [show runP ts 0 [] (c2, i, none) = (c2, i, none) from rfl] at hrn
      rw [hfw] at hf
      simp only [Option.some.injEq, Prod.mk.injEq] at hf
      rw [← hf.2, hrun] at hrn
      cases hrn
      have hcmp := cmd_cmp (setAll (argL c) c zCmd) c
      generalize setAll (argL c) c zCmd = c2 at hcmp hset
      by_cases hok : okC c
      · rw [decide_eq_true (hset.2 hok)] at hcmp
        rw [hpk hok] at hV
        have hpr := hpr hok
        repeat' (first | refine esem_seqK 73786980418073920255 ?_ | refine esem_block ?_ | (refine stp ?_; simp only [go_sem, hcmp, e0, e0', e1, e1', e2, e2', e3, e3', e13, ef, List.cons_append, List.nil_append]) | (refine drawQ (id := 6) mixed [(1, []), (2, []), (3, []), (8, []), (4, []), (0, [4]), (5, []), (6, []), (7, [])] (by kernel_rfl) ?_; simp only [go_sem, hcmp, e0, e0', e1, e1', e2, e2', e3, e3', e13, ef, List.cons_append, List.nil_append]) | (refine drawQ (id := 12) mixed [(0, []), (1, []), (2, []), (3, []), (4, []), (5, []), (6, []), (7, []), (8, []), (9, []), (10, []), (11, []), (12, [])] (by kernel_rfl) ?_; simp only [go_sem, hcmp, e0, e0', e1, e1', e2, e2', e3, e3', e13, ef, List.cons_append, List.nil_append]) | (refine ⟨cmd_neq c2 c true hcmp, ?_⟩; try simp only [go_sem, hcmp, e0, e0', e1, e1', e2, e2', e3, e3', e13, ef, List.cons_append, List.nil_append]) | (refine Eff.at2 (hpr ) [1] rfl (by first | (simp; done) | (simp; omega) | (simp [bC]; done) | omega) rfl ?_; (try simp only [go_sem, hcmp, e0, e0', e1, e1', e2, e2', e3, e3', e13, ef, List.cons_append, List.nil_append])) | (simp (disch := omega) only [wE]) | (refine spl (fun h => ?_) (fun h => ?_) <;> first | (exfalso; omega) | ((try simp only [opRun, opSkip, stepRun, pickZ]); (try simp only [go_sem, hcmp, e0, e0', e1, e1', e2, e2', e3, e3', e13, ef, List.cons_append, List.nil_append, h]))) | (refine and_om ?_ ?_; focus omega))
        all_goals (refine done_zero (by simp [EV.bel, allBelow]) ?_; rw [hV])
      · rw [decide_eq_false (fun h => hok (hset.1 h))] at hcmp
        have hno : printP c = ([], 260) := by unfold printP; rw [if_neg hok]
        rw [hno] at hV
        repeat' (first | refine esem_seqK 73786980418073920255 ?_ | refine esem_block ?_ | (refine stp ?_; simp only [go_sem, hcmp, e0, e0', e1, e1', e2, e2', e3, e3', e13, ef, List.cons_append, List.nil_append]) | (refine drawQ (id := 6) mixed [(1, []), (2, []), (3, []), (8, []), (4, []), (0, [4]), (5, []), (6, []), (7, [])] (by kernel_rfl) ?_; simp only [go_sem, hcmp, e0, e0', e1, e1', e2, e2', e3, e3', e13, ef, List.cons_append, List.nil_append]) | (refine drawQ (id := 12) mixed [(0, []), (1, []), (2, []), (3, []), (4, []), (5, []), (6, []), (7, []), (8, []), (9, []), (10, []), (11, []), (12, [])] (by kernel_rfl) ?_; simp only [go_sem, hcmp, e0, e0', e1, e1', e2, e2', e3, e3', e13, ef, List.cons_append, List.nil_append]) | (refine ⟨cmd_neq c2 c false hcmp, ?_⟩; try simp only [go_sem, hcmp, e0, e0', e1, e1', e2, e2', e3, e3', e13, ef, List.cons_append, List.nil_append]) | (simp (disch := omega) only [wE]) | (refine spl (fun h => ?_) (fun h => ?_) <;> first | (exfalso; omega) | ((try simp only [opRun, opSkip, stepRun, pickZ]); (try simp only [go_sem, hcmp, e0, e0', e1, e1', e2, e2', e3, e3', e13, ef, List.cons_append, List.nil_append, h]))) | (refine and_om ?_ ?_; focus omega))
        all_goals ((refine done_zero (by simp [EV.bel, allBelow]) ?_; rw [hV]); rfl)
  · simp only [go_sem, lookE]
    rw [hfw] at hf
    simp only [Option.some.injEq, Prod.mk.injEq] at hf
    rw [hf.2] at hrun
    have hz : setAll (argL c) c zCmd = zCmd := by
      have := congrArg (fun x => x.1) hrun
      simp only [runP, List.foldl_nil] at this
      exact this.symm
    rw [hz] at hset
    have hcmp := cmd_cmp zCmd c
    by_cases hok : okC c
    · rw [decide_eq_true (hset.2 hok)] at hcmp
      rw [hpk hok] at hV
      have hpr := hpr hok
      repeat' (first | refine esem_seqK 73786980418073920255 ?_ | refine esem_block ?_ | (refine stp ?_; simp only [go_sem, hcmp]) | (refine drawQ (id := 6) mixed [(1, []), (2, []), (3, []), (8, []), (4, []), (0, [4]), (5, []), (6, []), (7, [])] (by kernel_rfl) ?_; simp only [go_sem, hcmp]) | (refine drawQ (id := 12) mixed [(0, []), (1, []), (2, []), (3, []), (4, []), (5, []), (6, []), (7, []), (8, []), (9, []), (10, []), (11, []), (12, [])] (by kernel_rfl) ?_; simp only [go_sem, hcmp]) | (refine ⟨cmd_neq zCmd c true hcmp, ?_⟩; try simp only [go_sem, hcmp]) | (refine Eff.at2 (hpr ) [1] rfl (by first | (simp; done) | (simp; omega) | (simp [bC]; done) | omega) rfl ?_; (try simp only [go_sem, hcmp])) | (refine esem_loopN 73786980418073920255 1 ?_; simp only [go_sem, hcmp]) | (simp (disch := omega) only [wE]) | (refine spl (fun h => ?_) (fun h => ?_) <;> first | (exfalso; omega) | ((try simp only [opRun, opSkip, stepRun, pickZ]); (try simp only [go_sem, hcmp, h]))) | (refine and_om ?_ ?_; focus omega))
      all_goals (refine done_zero (by simp [EV.bel, allBelow]) ?_; rw [hV])
    · rw [decide_eq_false (fun h => hok (hset.1 h))] at hcmp
      have hno : printP c = ([], 260) := by unfold printP; rw [if_neg hok]
      rw [hno] at hV
      repeat' (first | refine esem_seqK 73786980418073920255 ?_ | refine esem_block ?_ | (refine stp ?_; simp only [go_sem, hcmp]) | (refine drawQ (id := 6) mixed [(1, []), (2, []), (3, []), (8, []), (4, []), (0, [4]), (5, []), (6, []), (7, [])] (by kernel_rfl) ?_; simp only [go_sem, hcmp]) | (refine drawQ (id := 12) mixed [(0, []), (1, []), (2, []), (3, []), (4, []), (5, []), (6, []), (7, []), (8, []), (9, []), (10, []), (11, []), (12, [])] (by kernel_rfl) ?_; simp only [go_sem, hcmp]) | (refine ⟨cmd_neq zCmd c false hcmp, ?_⟩; try simp only [go_sem, hcmp]) | (refine esem_loopN 73786980418073920255 1 ?_; simp only [go_sem, hcmp]) | (simp (disch := omega) only [wE]) | (refine spl (fun h => ?_) (fun h => ?_) <;> first | (exfalso; omega) | ((try simp only [opRun, opSkip, stepRun, pickZ]); (try simp only [go_sem, hcmp, h]))) | (refine and_om ?_ ?_; focus omega))
      all_goals ((refine done_zero (by simp [EV.bel, allBelow]) ?_; rw [hV]); rfl)
  · rw [hfw] at hf; cases hf
end Go.Proofs.YtnjbdcdjcfhooaaGreatDoor
namespace Go.Proofs.YtnjbdcdjcfhooaaGreatDoor
open Go.E
set_option linter.all false
set_option maxRecDepth 20000
set_option maxHeartbeats 16000000
theorem decimal_c (G : List Gl) (tp : TypeId) (hp : gPow tp ∈ G) (n : Int) (h0 : -9223372036854775808 ≤ n) (h1 : n ≤ 9223372036854775807) : E.Pure G Tryz.prog 36 [.int .i64 n] (.str (Lib.itoa n)) := by
  refine pure_hid fun V hV => ?_
  have hi := itoa_c G tp hp n h0 h1
  refine ecalls_in 5 [.tmp 2] Tryz.func36 rfl rfl rfl (by kernel_rfl) (le_ble rfl) ?_
  repeat' (first | refine esem_seqK 5 ?_ | refine esem_block ?_ | (refine stp ?_; simp only [go_sem]) | (refine Pure.at (hi) (by simp) (by simp) rfl ?_; (try simp only [go_sem])) | (simp (disch := omega) only [wE]) | (refine spl (fun h => ?_) (fun h => ?_) <;> first | (exfalso; omega) | ((try simp only [opRun, opSkip, stepRun, pickZ]); (try simp only [go_sem, h]))) | (refine and_om ?_ ?_; focus omega))
  all_goals (refine done_zero (by simp [EV.bel, allBelow]) ?_; rw [hV])
abbrev i64B (n : Int) : Prop := -9223372036854775808 ≤ n ∧ n ≤ 9223372036854775807
theorem itoa_lenI (n : Int) (h : i64B n) : (Lib.itoa n).length ≤ 21 := by
  unfold Lib.itoa
  have e : ∀ m : Nat, m ≤ 9223372036854775808 → (Lib.decDigits m).length ≤ 20 := fun m hm => by
    by_cases h9 : m ≤ 9223372036854775807
    · have := itoa_len m h9
      have e2 : Lib.itoa m = Lib.decDigits m := by unfold Lib.itoa; rw [if_neg (by omega), Int.toNat_natCast]
      rwa [e2] at this
    · obtain rfl : m = 9223372036854775808 := by omega
      rw [Lib.decDigits, dif_neg (by decide), List.length_append]
      have := itoa_len 922337203685477580 (by omega)
      have e2 : Lib.itoa (922337203685477580 : Nat) = Lib.decDigits 922337203685477580 := by unfold Lib.itoa; rw [if_neg (by omega), Int.toNat_natCast]
      rw [e2] at this
      have h20 : (Lib.decDigits 922337203685477580).length ≤ 19 := by rw [Lib.decDigits_length, Lib.nDigits_unique 17 _ (by omega) (by omega)]; decide
      have e3 : 9223372036854775808 / 10 = 922337203685477580 := by decide
      rw [e3]; simp; omega
  split
  · have := e n.natAbs (by omega); simp only [List.length_cons]; omega
  · have := e n.toNat (by omega); omega
def rowL (l : List Int) : List UInt8 := Lib.join (l.map Lib.itoa) [32]
theorem row2_c (G : List Gl) (tp : TypeId) (hp : gPow tp ∈ G) (a b : Int) (ha : i64B a) (hb : i64B b) : Eff G Tryz.prog 38 [.slice (some ⟨0, 0⟩) 2 2] [(0, .cells [.int .i64 a, .int .i64 b] 3 0 true 0)] 1 (.str (rowL [a, b])) [] 1 := by
  have da := decimal_c G tp hp a ha.1 ha.2
  have db := decimal_c G tp hp b hb.1 hb.2
  have la := itoa_lenI a ha
  have lb := itoa_lenI b hb
  have hl := join_len 21 [Lib.itoa a, Lib.itoa b] (by intro p hp; simp only [List.mem_cons, List.not_mem_nil, or_false] at hp; rcases hp with rfl | rfl <;> assumption)
  have hj := join_c G [Lib.itoa a, Lib.itoa b] 2 1 rfl (by decide) (by decide) [32] (by simp only [List.length_cons, List.length_nil] at hl; omega)
  unfold Eff rowL
  simp only [List.map] at hj ⊢
  generalize Lib.join [Lib.itoa a, Lib.itoa b] [32] = R at hj
  refine ecalls_in 20 [.tmp 2] Tryz.func38 rfl rfl rfl (by kernel_rfl) (le_ble rfl) ?_
  repeat' (first | refine esem_seqK 1005 ?_ | refine esem_block ?_ | (refine stp ?_; simp only [go_sem]) | (refine Pure.at (da) (by simp) (by simp) rfl ?_; (try simp only [go_sem])) | (refine Pure.at (db) (by simp) (by simp) rfl ?_; (try simp only [go_sem])) | (refine Eff.at2 (hj ) [4] rfl (by first | (simp; done) | (simp; omega) | (simp [bC]; done) | omega) rfl ?_; (try simp only [go_sem])) | (refine esem_loopN 1005 3 ?_; simp only [go_sem]) | (simp (disch := omega) only [wE]) | (refine spl (fun h => ?_) (fun h => ?_) <;> first | (exfalso; omega) | ((try simp only [opRun, opSkip, stepRun, pickZ]); (try simp only [go_sem, h]))) | (refine and_om ?_ ?_; focus omega))
  all_goals exact done_ef2 [] (by simp) rfl (by simp [mA]) (by simp [bC])
theorem said_word (G : List Gl) (s : List UInt8) : E.Pure G Tryz.prog 40 [.agg (woE s)] (.str s) := by
  refine pure_hid fun V hV => ?_
  refine ecalls_in 17 [.tmp 2] Tryz.func40 rfl rfl rfl (by kernel_rfl) (le_ble rfl) ?_
  repeat' (first | refine esem_seqK 567 ?_ | refine esem_block ?_ | (refine stp ?_; simp only [go_sem]) | (simp (disch := omega) only [wE]) | (refine spl (fun h => ?_) (fun h => ?_) <;> first | (exfalso; omega) | ((try simp only [opRun, opSkip, stepRun, pickZ]); (try simp only [go_sem, h]))) | (refine and_om ?_ ?_; focus omega))
  all_goals (refine done_zero (by simp [EV.bel, allBelow]) ?_; rw [hV])
theorem said_num (G : List Gl) (tp : TypeId) (hp : gPow tp ∈ G) (n : Int) (h : i64B n) : E.Pure G Tryz.prog 40 [.agg (nuE n)] (.str (Lib.itoa n)) := by
  refine pure_hid fun V hV => ?_
  have da := decimal_c G tp hp n h.1 h.2
  refine ecalls_in 17 [.tmp 2] Tryz.func40 rfl rfl rfl (by kernel_rfl) (le_ble rfl) ?_
  repeat' (first | refine esem_seqK 567 ?_ | refine esem_block ?_ | (refine stp ?_; simp only [go_sem]) | (refine Pure.at (da) (by simp) (by simp) rfl ?_; (try simp only [go_sem])) | (simp (disch := omega) only [wE]) | (refine spl (fun h => ?_) (fun h => ?_) <;> first | (exfalso; omega) | ((try simp only [opRun, opSkip, stepRun, pickZ]); (try simp only [go_sem, h]))) | (refine and_om ?_ ?_; focus omega))
  all_goals (refine done_zero (by simp [EV.bel, allBelow]) ?_; rw [hV])
theorem said_text (G : List Gl) (t u tz : TypeId) (v : List Value) (h3 : gFirst t ∈ G) (h4 : gAcc u ∈ G) (hv : v[15]? = some (.int .u8 4)) (hG : gTz v tz ∈ G) (s : List UInt8) (h63 : s.length ≤ 1000000000000) : E.Pure G Tryz.prog 40 [.agg (quE s)] (.str (quoteL s)) := by
  refine pure_hid fun V hV => ?_
  have hq := quote_c G t u tz v h3 h4 hv hG s h63
  refine ecalls_in 17 [.tmp 2] Tryz.func40 rfl rfl rfl (by kernel_rfl) (le_ble rfl) ?_
  repeat' (first | refine esem_seqK 567 ?_ | refine esem_block ?_ | (refine stp ?_; simp only [go_sem]) | (refine Pure.at (hq) (by simp) (by simp) rfl ?_; (try simp only [go_sem])) | (simp (disch := omega) only [wE]) | (refine spl (fun h => ?_) (fun h => ?_) <;> first | (exfalso; omega) | ((try simp only [opRun, opSkip, stepRun, pickZ]); (try simp only [go_sem, h]))) | (refine and_om ?_ ?_; focus omega))
  all_goals (refine done_zero (by simp [EV.bel, allBelow]) ?_; rw [hV])
theorem joined_0 (G : List Gl) : E.Pure G Tryz.prog 44 [.slice none 0 0] (.str [110, 111, 110, 101]) := by
  refine pure_hid fun V hV => ?_
  refine ecalls_in 8 [.tmp 2] Tryz.func44 rfl rfl rfl (by kernel_rfl) (le_ble rfl) ?_
  repeat' (first | refine esem_seqK 37 ?_ | refine esem_block ?_ | (refine stp ?_; simp only [go_sem]) | (simp (disch := omega) only [wE]) | (refine spl (fun h => ?_) (fun h => ?_) <;> first | (exfalso; omega) | ((try simp only [opRun, opSkip, stepRun, pickZ]); (try simp only [go_sem, h]))) | (refine and_om ?_ ?_; focus omega))
  all_goals (refine done_zero (by simp [EV.bel, allBelow]) ?_; rw [hV])
theorem joined_c (G : List Gl) (ps : List (List UInt8)) (n z : Nat) (hn : ps.length = n) (h0 : 0 < n) (hN : n ≤ 4000000) (hlen : (Lib.join ps [44, 32]).length ≤ 140737488355328) : Eff G Tryz.prog 44 [.slice (some ⟨0, 0⟩) n n] [(0, .cells (strsE ps) 9 z true 0)] 1 (.str (Lib.join ps [44, 32])) [] 1 := by
  have hj : Eff G Tryz.prog 85 [.slice (some ⟨0, 0⟩) n n, .str [44, 32]] [(0, .cells (strsE ps) 9 z true 0)] 1 (.str (Lib.join ps [44, 32])) [(0, .cells (strsE ps) 9 z true 0)] 1 := join_c G ps n z hn h0 hN [44, 32] hlen
  unfold Eff
  refine ecalls_in 8 [.tmp 2] Tryz.func44 rfl rfl rfl (by kernel_rfl) (le_ble rfl) ?_
  repeat' (first | refine esem_seqK 37 ?_ | refine esem_block ?_ | (refine stp ?_; simp only [go_sem]) | (refine Eff.at2 (hj ) [0] rfl (by first | (simp; done) | (simp; omega) | (simp [bC]; done) | omega) rfl ?_; (try simp only [go_sem])) | (simp (disch := omega) only [wE]) | (refine spl (fun h => ?_) (fun h => ?_) <;> first | (exfalso; omega) | ((try simp only [opRun, opSkip, stepRun, pickZ]); (try simp only [go_sem, h]))) | (refine and_om ?_ ?_; focus omega))
  all_goals exact done_ef2 [] (by simp) rfl (by simp [mA]) (by simp [bC])
structure Rep where
  err : Int
  num : Int
  line : Int
  col : Int
  text : List UInt8
  found : Bool
  frm : Int
  to : Int
  marks : EV
  curs : EV
  names : EV
  st : List Int
end Go.Proofs.YtnjbdcdjcfhooaaGreatDoor
namespace Go.Proofs.YtnjbdcdjcfhooaaGreatDoor
open Go.E
set_option linter.all false
set_option maxRecDepth 20000
set_option maxHeartbeats 16000000
def aL : List UInt8 := [105, 110, 115, 101, 114, 116, 32, 34, 109, 121, 32, 110, 111, 116, 101, 115, 34, 32, 32, 51, 32, 34, 104, 92, 110, 34]
def aC : Cmd := ⟨4, [109, 121, 32, 110, 111, 116, 101, 115], 0, 3, 0, [104, 10], 0⟩
theorem aL_parse : parseP aL = (aC, 0, 0) := by decide +kernel
def bL : List UInt8 := [105, 110, 115, 101, 114, 116, 32, 97, 32, 48, 32, 104]
theorem bL_parse : parseP bL = (zCmd, 260, 11) := by decide +kernel
def cL : List UInt8 := [105, 110, 115, 101, 114, 116, 32, 34, 109, 121, 32, 110, 111, 116, 101, 115, 34, 32, 51, 32, 34, 104, 92, 110, 34]
theorem aC_print : printP aC = (cL, 0) := by decide +kernel
def errL : List UInt8 := [101, 114, 114, 111, 114, 32]
theorem show_err (G : List Gl) (tp : TypeId) (hp : gPow tp ∈ G) (c : Cmd) (e : Int) (h0 : e ≠ 0) (h1 : i64B e) :
    E.Pure G Tryz.prog 17 [.agg (cmdE c), .agg [.int .i64 e, .int .i64 0, .int .i64 0, .int .i64 0, .str [], .bool false, .int .i64 0, .int .i64 0, .slice none 0 0, .slice none 0 0, .slice none 0 0, .int .i64 0, .int .i64 0, .int .i64 0, .int .i64 0, .int .i64 0, .int .i64 0, .int .i64 0, .int .i64 0, .int .i64 0]] (.str (errL ++ Lib.itoa e)) := by
  refine pure_hid fun V hV => ?_
  have da := decimal_c G tp hp e h1.1 h1.2
  have la := itoa_lenI e h1
  unfold errL at hV
  refine ecalls_in 132 [.tmp 4] Tryz.func17 rfl rfl rfl (by kernel_rfl) (le_ble rfl) ?_
  repeat' (first | refine esem_seqK 373922066680392647905437741317376703 ?_ | refine esem_block ?_ | (refine stp ?_; simp only [go_sem]) | (refine drawQ (id := 19) mixed [(0, []), (1, []), (4, []), (10, []), (2, []), (3, []), (5, []), (11, []), (12, []), (6, []), (7, [11]), (8, []), (9, [11]), (13, []), (14, []), (15, []), (16, []), (17, []), (18, [])] (by kernel_rfl) ?_; simp only [go_sem]) | (refine Pure.at (da) (by simp) (by simp) rfl ?_; (try simp only [go_sem])) | (simp only [ebinS, go_sem]) | (refine and_om ?_ ?_; focus (simp only [List.length_cons, List.length_nil]; omega)) | (simp (disch := omega) only [wE]) | (refine spl (fun h => ?_) (fun h => ?_) <;> first | (exfalso; omega) | ((try simp only [opRun, opSkip, stepRun, pickZ]); (try simp only [go_sem, h]))) | (refine and_om ?_ ?_; focus omega))
  all_goals ((refine done_zero (by simp [EV.bel, allBelow]) ?_; rw [hV]); rfl)
theorem show_25 (G : List Gl) (tp : TypeId) (hp : gPow tp ∈ G) :
    E.Pure G Tryz.prog 17 [.agg (cmdE ⟨16, [], 0, 0, 0, [], 0⟩), .agg [.int .i64 0, .int .i64 0, .int .i64 2, .int .i64 5, .str [], .bool false, .int .i64 0, .int .i64 0, .slice none 0 0, .slice none 0 0, .slice none 0 0, .int .i64 0, .int .i64 0, .int .i64 0, .int .i64 0, .int .i64 0, .int .i64 0, .int .i64 0, .int .i64 0, .int .i64 0]] (.str [50, 32, 53]) := by
  refine pure_hid fun V hV => ?_
  have hr := row2_c G tp hp 2 5 (by decide) (by decide)
  rw [show rowL [2, 5] = [50, 32, 53] from by decide +kernel] at hr
  refine ecalls_in 132 [.tmp 4] Tryz.func17 rfl rfl rfl (by kernel_rfl) (le_ble rfl) ?_
  repeat' (first | refine esem_seqK 373922066680392647905437741317376703 ?_ | refine esem_block ?_ | (refine stp ?_; simp only [go_sem]) | (refine drawQ (id := 19) mixed [(0, []), (1, []), (4, []), (10, []), (2, []), (3, []), (5, []), (11, []), (12, []), (6, []), (7, [11]), (8, []), (9, [11]), (13, []), (14, []), (15, []), (16, []), (17, []), (18, [])] (by kernel_rfl) ?_; simp only [go_sem]) | (refine Eff.at2 (hr ) [2] rfl (by first | (simp; done) | (simp; omega) | (simp [bC]; done) | omega) rfl ?_; (try simp only [go_sem])) | (simp (disch := omega) only [wE]) | (refine spl (fun h => ?_) (fun h => ?_) <;> first | (exfalso; omega) | ((try simp only [opRun, opSkip, stepRun, pickZ]); (try simp only [go_sem, h]))) | (refine and_om ?_ ?_; focus omega))
  all_goals (refine done_zero (by simp [EV.bel, allBelow]) ?_; rw [hV])
theorem awake_c (G : List Gl) (te t u tz tp : TypeId) (v : List Value) (hGe : gErr te ∈ G) (h3 : gFirst t ∈ G) (h4 : gAcc u ∈ G) (hv : v[15]? = some (.int .u8 4)) (hG : gTz v tz ∈ G) (hp : gPow tp ∈ G) : E.Pure G Tryz.prog 13 [] (.bool true) := by
  refine pure_hid fun V hV => ?_
  have p1 := parse_c G t u h3 h4 aL (by decide)
  rw [aL_parse] at p1
  simp only [parseV, parseB, parseN, aL, aC, cmdE, if_true] at p1
  have p2 := parse_c G t u h3 h4 bL (by decide)
  rw [bL_parse] at p2
  simp only [parseV, parseB, parseN, bL, zCmd, cmdE, show ((260 : Nat) = 0) = False from by simp, if_false] at p2
  have q := print_c G t u tz tp v h3 h4 hv hG hp aC ⟨by decide, by decide, by decide, by decide, by decide, by decide⟩
  rw [aC_print] at q
  simp only [aC, cL, cmdE] at q
  have f := fault_at G hGe 260 11
  have s1 := show_25 G tp hp
  have s2 := show_err G tp hp aC 6 (by decide) (by decide)
  rw [show errL ++ Lib.itoa 6 = [101, 114, 114, 111, 114, 32, 54] from by decide +kernel] at s2
  simp only [aC, cmdE] at s1 s2
  refine ecalls_in 89 [.tmp 0] Tryz.func13 rfl rfl rfl (by kernel_rfl) (le_ble rfl) ?_
  repeat' (first | refine esem_seqK 8796093022463 ?_ | refine esem_block ?_ | (refine stp ?_; simp only [go_sem]) | (refine Eff.at2 (p1 ) [] rfl (by first | (simp; done) | (simp; omega) | (simp [bC]; done) | omega) rfl ?_; (try simp only [go_sem])) | (refine Pure.at (q) (by simp) (by simp) rfl ?_; (try simp only [go_sem])) | (refine Eff.at2 (p2 ) [] rfl (by first | (simp; done) | (simp; omega) | (simp [bC]; done) | omega) rfl ?_; (try simp only [go_sem])) | (refine Eff.at2 (f ) [1] rfl (by first | (simp; done) | (simp; omega) | (simp [bC]; done) | omega) rfl ?_; (try simp only [go_sem])) | (refine Pure.at (s1) (by simp) (by simp) rfl ?_; (try simp only [go_sem])) | (refine Pure.at (s2) (by simp) (by simp) rfl ?_; (try simp only [go_sem])) | (simp (disch := omega) only [wE]) | (refine spl (fun h => ?_) (fun h => ?_) <;> first | (exfalso; omega) | ((try simp only [opRun, opSkip, stepRun, pickZ]); (try simp only [go_sem, h]))) | (refine and_om ?_ ?_; focus omega))
  all_goals (refine done_zero (by simp [EV.bel, allBelow]) ?_; rw [hV])
end Go.Proofs.YtnjbdcdjcfhooaaGreatDoor
