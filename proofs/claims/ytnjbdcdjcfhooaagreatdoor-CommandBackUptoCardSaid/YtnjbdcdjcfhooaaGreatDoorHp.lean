/-
  Own work: walks and laws of the functions that the statement reaches; the statement itself stands in the last text.
-/
import Derived.Test.YtnjbdcdjcfhooaaGreatDoorHo
namespace Go.Proofs.YtnjbdcdjcfhooaaGreatDoor
open Go.E Go.ChangeShapes Go.WideShapes Go.ChangeAt Go.RowKit
set_option linter.all false
set_option maxRecDepth 20000
set_option maxHeartbeats 8000000
theorem quoG_out (s : List UInt8) : ∀ (n i : Nat) (out : List UInt8), s.length - i = n → (quoG s i out).1.length ≤ out.length + (s.length - i) := by
  intro n
  induction n using Nat.strongRecOn with
  | ind n ih =>
    intro i out hn
    by_cases hi : i < s.length
    · rw [quoG_step hi]
      have hp := decE_pos (s.drop i)
      have hle := decE_le (s.drop i) (by rw [List.length_drop]; omega)
      rw [List.length_drop] at hle
      have he := escL_len (s.drop i)
      rw [List.length_drop] at he
      split
      · simp
      · split
        · split
          · simp
          · rename_i h0
            have := ih (s.length - (i + (escL (s.drop i)).2)) (by omega) _ (out ++ (escL (s.drop i)).1) rfl
            rw [List.length_append] at this
            omega
        · split
          · have := ih (s.length - (i + (decE (s.drop i)).2)) (by omega) _ (out ++ (s.drop i).take (decE (s.drop i)).2) rfl
            rw [List.length_append, List.length_take, List.length_drop] at this
            omega
          · simp
    · rw [quoG_end (by omega)]; simp
theorem scanG_text (s : List UInt8) : ∀ (n i : Nat) (out : List Tok), s.length - i = n → i ≤ s.length → (∀ t ∈ out, t.text.length ≤ s.length) → ∀ t ∈ (scanG s i out).1, t.text.length ≤ s.length := by
  intro n
  induction n using Nat.strongRecOn with
  | ind n ih =>
    intro i out hn hi hout
    have hb := skipP_ge blankB s i
    have hb2 : skipP blankB s i ≤ s.length := by
      unfold skipP
      have := (List.takeWhile_prefix blankB (l := s.drop i)).length_le
      rw [List.length_drop] at this; omega
    generalize hj : skipP blankB s i = j at hb hb2
    have happ : ∀ t : Tok, t.text.length ≤ s.length → ∀ u ∈ out ++ [t], u.text.length ≤ s.length := fun t ht u hu => by
      rcases List.mem_append.1 hu with h | h
      · exact hout u h
      · rw [List.mem_singleton.1 h]; exact ht
    by_cases h : j < s.length
    · by_cases hc : (s.getD j 0).toNat = 34
      · rw [scanG_quo hj h hc]
        split
        · rename_i hq
          split
          · have h1 := quoG_lt (s.drop j) _ 1 [] rfl hq
            rw [List.length_drop] at h1
            have h2 := quoG_out (s.drop j) _ 1 [] rfl
            rw [List.length_drop] at h2
            exact ih (s.length - (j + (quoG (s.drop j) 1 []).2.1)) (by omega) _ _ rfl (by omega) (happ _ (by simp only [List.length_nil] at h2; simp only; omega))
          · simp
        · simp
      · rw [scanG_run hj h hc]
        have hr := skipP_ge runB s j
        have hr2 : skipP runB s j ≤ s.length := by
          unfold skipP
          have := (List.takeWhile_prefix runB (l := s.drop j)).length_le
          rw [List.length_drop] at this; omega
        split
        · simp
        · rename_i hne
          split
          · refine ih (s.length - skipP runB s j) (by omega) _ _ rfl (by omega) (happ _ ?_)
            unfold runTok
            cases hnum : isNum ((s.drop j).take (skipP runB s j - j)) with
            | some n => simp
            | none => simp only [List.length_take, List.length_drop]; omega
          · simp
    · rw [scanG_end hj (by omega)]; exact hout
theorem scanL_text (l : List UInt8) : ∀ t ∈ (scanL l).1, t.text.length ≤ 16384 := by
  unfold scanL
  split
  · simp
  · rename_i h
    intro t ht
    have := scanG_text l _ 0 [] rfl (Nat.zero_le _) (by simp) t ht
    omega
theorem scanL_num (l : List UInt8) : ∀ t ∈ (scanL l).1, t.num ≤ 9223372036854775807 := by
  intro t ht
  obtain ⟨j, hj, rfl⟩ := List.getElem_of_mem ht
  have := (scanL_ok l j hj).2.2
  rwa [tokAt, List.getD_eq_getElem?_getD, List.getElem?_eq_getElem hj] at this
def oneOK (t : Tok) : Bool := decide ((prS t).2 = true ∧ (prA t).length ≤ 16384)
theorem printL_one (t : Tok) : printL [t] = if oneOK t = true then (prA t, 0) else ([], (printL [t]).2) := by
  unfold oneOK printL
  by_cases h : (prS t).2 = true
  · rw [if_pos (by simpa using h)]
    simp only [List.map_cons, List.map_nil, Lib.join_one]
    by_cases h2 : (prA t).length ≤ 16384
    · rw [if_neg (by omega), if_pos (decide_eq_true ⟨h, h2⟩)]
    · rw [if_pos (by omega), if_neg (by simp [h2])]
  · rw [if_neg (by simpa using h), if_neg (by simp [h])]
theorem printL_one0 (t : Tok) : (oneOK t = true ↔ (printL [t]).2 = 0) := by
  unfold oneOK printL
  by_cases h : (prS t).2 = true
  · rw [if_pos (by simpa using h)]
    simp only [List.map_cons, List.map_nil, Lib.join_one]
    by_cases h2 : (prA t).length ≤ 16384
    · rw [if_neg (by omega)]; simp [h, h2]
    · rw [if_pos (by omega)]; simp [h2]
  · rw [if_neg (by simpa using h)]; simp [h]
def blT (ts : List Tok) (gap : List UInt8) (i : Nat) : List UInt8 := gap ++ (ts.take i).flatMap fun t => prA t ++ gap
theorem blT_step {ts : List Tok} {gap : List UInt8} {i : Nat} (h : i < ts.length) : blT ts gap (i + 1) = blT ts gap i ++ prA (tokAt ts i) ++ gap := by
  have e : tokAt ts i = ts[i] := by rw [tokAt, List.getD_eq_getElem?_getD, List.getElem?_eq_getElem h]; rfl
  rw [blT, blT, List.take_succ, List.getElem?_eq_getElem h, List.flatMap_append, e]
  simp [List.append_assoc]
theorem blT_len {ts : List Tok} {gap : List UInt8} (hg : gap.length ≤ 3) : ∀ i, i ≤ ts.length → (∀ j, j < i → oneOK (tokAt ts j) = true) → (blT ts gap i).length ≤ 3 + i * 16387 := by
  intro i
  induction i with
  | zero => intro _ _; simp [blT]; omega
  | succ i ih =>
    intro hi h
    have h1 := ih (by omega) fun j hj => h j (by omega)
    have h2 := h i (by omega)
    unfold oneOK at h2
    have h3 := (of_decide_eq_true h2).2
    rw [blT_step (by omega), List.length_append, List.length_append]
    omega
theorem blT_lay (gap : List UInt8) (ts : List Tok) : blT ts gap ts.length = layT gap gap (ts.map prA) := by
  unfold blT
  rw [List.take_length]
  induction ts with
  | nil => simp [layT]
  | cons t r ih => rw [List.flatMap_cons, List.map_cons, layT, ← ih]; simp [List.append_assoc]
def blS (ts : List Tok) (gap : List UInt8) : List UInt8 × Bool := if ∀ j, j < ts.length → oneOK (tokAt ts j) = true then (blT ts gap ts.length, true) else ([], false)
theorem blanks_nil (G : List Gl) (gap : List UInt8) : E.Pure G Tryz.prog 21 [.slice none 0 0, .str gap] (.tuple [.str gap, .bool true]) := by
  refine pure_hid fun V hV => ?_
  refine ecalls_in 34 [.tmp 4, .tmp 5] Tryz.func21 rfl rfl rfl (by kernel_rfl) (le_ble rfl) ?_
  repeat' (first
    | refine esem_seqK 134235123 ?_
    | refine esem_block ?_
    | (refine stp ?_; simp only [go_sem])
    | (refine esem_loopN 134235123 1 ?_; simp only [go_sem])
    | (simp (disch := omega) only [wrap64E, wrapU8E, wrapU16E, wrapU32E, wrapU64E, wrapI32E, tdivE, tmodE])
    | (refine spl (fun h => ?_) (fun h => ?_) <;> first | (exfalso; omega) | ((try simp only [opRun, opSkip, stepRun, pickZ]); (try simp only [go_sem, h])))
    | (refine and_om ?_ ?_; focus omega))
  all_goals (refine done_zero (by simp [EV.bel, allBelow]) ?_; rw [hV])
theorem blanks_c (G : List Gl) (t u tz tp : TypeId) (v : List Value) (h3 : gFirst t ∈ G) (h4 : gAcc u ∈ G) (hv : v[15]? = some (.int .u8 4)) (hG : gTz v tz ∈ G) (hp : gPow tp ∈ G) (ts : List Tok) (h0 : 0 < ts.length) (hN : ts.length ≤ 16384)
    (h63 : ∀ k ∈ ts, k.text.length ≤ 16384 ∧ k.num ≤ 9223372036854775807) (gap : List UInt8) (hg : gap.length ≤ 3) :
    Eff G Tryz.prog 21 [.slice (some ⟨0, 0⟩) ts.length ts.length, .str gap] [(0, .cells (toksE ts) 72 4 true 0)] 1 (.tuple [.str (blS ts gap).1, .bool (blS ts gap).2]) [] 1 := by
  unfold Eff
  have hb0 : blT ts gap 0 = gap := by simp [blT]
  refine ecalls_in 34 [.tmp 4, .tmp 5] Tryz.func21 rfl rfl rfl (by kernel_rfl) (le_ble rfl) ?_
  repeat' (first
    | refine esem_seqK 134235123 ?_
    | refine esem_block ?_
    | (refine stp ?_; simp only [go_sem])
    | (simp (disch := omega) only [wrap64E, wrapU8E, wrapU16E, wrapU32E, wrapU64E, wrapI32E, tdivE, tmodE])
    | (refine spl (fun h => ?_) (fun h => ?_) <;> first | (exfalso; omega) | ((try simp only [opRun, opSkip, stepRun, pickZ]); (try simp only [go_sem, h])))
    | (refine and_om ?_ ?_; focus omega))
  refine esem_loopS (fun z : Nat => [(0, .slice (some ⟨0, 0⟩) ts.length ts.length), (1, .str gap), (7, .int .i64 z), (6, .str (blT ts gap z))]) (fun _ => [(0, .cells (toksE ts) 72 4 true 0)]) (fun _ => 1) (fun z => z ≤ ts.length ∧ ∀ j, j < z → oneOK (tokAt ts j) = true) (fun z => ts.length - z) 0
    (fun z hz => ⟨by simp [frBel], by simp, by omega⟩) ⟨Nat.zero_le _, fun j h => by simp at h⟩ (by simp only [go_sem, weakL, hb0]) (by simp only [go_sem, lessL]) ?_
  rintro i ⟨z1, z3⟩
  try simp only at z1 z3
  try simp only []
  by_cases hi : i < ts.length
  · have hua := toks_at hi
    have hst := blT_step (gap := gap) hi
    have hln := blT_len hg i z1 z3
    have hkk := h63 _ (tokAt_mem hi)
    have hpl := prA_len hkk.2
    have hpr := sprint_c G t u tz tp v h3 h4 hv hG hp [tokAt ts i] 1 0 (.inl rfl) rfl (by decide) (by decide) (fun k hk => by rw [List.mem_singleton.1 hk]; omega) (by rw [List.map_cons, List.map_nil, Lib.join_one]; omega)
    have h10 := printL_one0 (tokAt ts i)
    rw [printL_one] at hpr
    have hxR : ∀ j, oneOK (tokAt ts i) = true → j < i + 1 → oneOK (tokAt ts j) = true := fun j hq hj => by
      by_cases h : j = i
      · rw [h]; exact hq
      · exact z3 j (by omega)
    have hxS : oneOK (tokAt ts i) = false → blS ts gap = ([], false) := fun h => by
      unfold blS
      rw [if_neg]
      intro ha
      rw [ha i hi] at h
      cases h
    generalize prA (tokAt ts i) = pa at hpr hst hpl
    generalize (printL [tokAt ts i]).2 = code at hpr h10
    simp only [toksE, tokE, List.append_nil, List.cons_append, List.nil_append] at hpr
    cases hq : oneOK (tokAt ts i) with
    | true =>
      rw [hq, if_pos rfl] at hpr
      simp only at hpr
      repeat' (first
        | refine esem_seqK 134235123 ?_
        | refine esem_block ?_
        | (refine stp ?_; simp only [go_sem, hua, EV.one, List.length_cons, List.length_nil])
        | (refine Eff.at2 (hpr ) [1] rfl (by first | (simp; done) | (simp; omega) | (simp [bytesE_cons, bytesE_nil]; done) | omega) rfl ?_; (try simp only [go_sem, hua, EV.one, List.length_cons, List.length_nil]))
        | (refine and_om ?_ ?_; focus (simp only [List.length_append]; omega))
        | (simp (disch := omega) only [wrap64E, wrapU8E, wrapU16E, wrapU32E, wrapU64E, wrapI32E, tdivE, tmodE])
        | (refine spl (fun h => ?_) (fun h => ?_) <;> first | (exfalso; omega) | ((try simp only [opRun, opSkip, stepRun, pickZ]); (try simp only [go_sem, hua, EV.one, List.length_cons, List.length_nil, h])))
        | (refine and_om ?_ ?_; focus omega))
      (refine ⟨(i + 1), ?_, ?_, rfl, rfl, ?_, ?_⟩; rotate_left; (focus (first | omega | (simp only []; omega))); (focus (first | (simp only [go_sem, weakL, hst]; done) | ((try simp only [go_sem, weakL, hst]); ((repeat' apply And.intro) <;> (first | rfl | trivial | ((try simp only [EV.int.injEq, EV.str.injEq, EV.bool.injEq, EV.tuple.injEq, EV.slice.injEq, List.cons.injEq, true_and, and_true]); first | rfl | omega)))))); (focus (first | trivial | (simp only [go_sem, lessL, hst]; done) | ((try simp only [go_sem, lessL, hst]); ((repeat' apply And.intro) <;> (first | rfl | trivial | ((try simp only [EV.int.injEq, EV.str.injEq, EV.bool.injEq, EV.tuple.injEq, EV.slice.injEq, List.cons.injEq, true_and, and_true]); first | rfl | omega)))))); (try simp only []))
      exact ⟨by omega, fun j hj => hxR j hq hj⟩
    | false =>
      rw [hq, if_neg (by simp)] at hpr
      simp only at hpr
      have hc0 : (code : Int) ≠ 0 := fun h => by rw [h10.2 (by omega)] at hq; cases hq
      rw [hxS hq]
      repeat' (first
        | refine esem_seqK 134235123 ?_
        | refine esem_block ?_
        | (refine stp ?_; simp only [go_sem, hua, EV.one, List.length_cons, List.length_nil])
        | (refine Eff.at2 (hpr ) [1] rfl (by first | (simp; done) | (simp; omega) | (simp [bytesE_cons, bytesE_nil]; done) | omega) rfl ?_; (try simp only [go_sem, hua, EV.one, List.length_cons, List.length_nil]))
        | (simp (disch := omega) only [wrap64E, wrapU8E, wrapU16E, wrapU32E, wrapU64E, wrapI32E, tdivE, tmodE])
        | (refine spl (fun h => ?_) (fun h => ?_) <;> first | (exfalso; omega) | ((try simp only [opRun, opSkip, stepRun, pickZ]); (try simp only [go_sem, hua, EV.one, List.length_cons, List.length_nil, h])))
        | (refine and_om ?_ ?_; focus omega))
      all_goals exact done_eff [] (by simp) (by simp) (by simp) (by simp) (by simp) (by simp) rfl (by simp [List.map_append]) (by simp [bytesE_cons, bytesE_nil])
  · obtain rfl : i = ts.length := by omega
    have e : blS ts gap = (blT ts gap ts.length, true) := by unfold blS; rw [if_pos z3]
    rw [e]
    repeat' (first
      | refine esem_seqK 134235123 ?_
      | refine esem_block ?_
      | (refine stp ?_; simp only [go_sem])
      | (simp (disch := omega) only [wrap64E, wrapU8E, wrapU16E, wrapU32E, wrapU64E, wrapI32E, tdivE, tmodE])
      | (refine spl (fun h => ?_) (fun h => ?_) <;> first | (exfalso; omega) | ((try simp only [opRun, opSkip, stepRun, pickZ]); (try simp only [go_sem, h])))
      | (refine and_om ?_ ?_; focus omega))
    all_goals exact done_eff [] (by simp) (by simp) (by simp) (by simp) (by simp) (by simp) rfl (by simp [List.map_append]) (by simp [bytesE_cons, bytesE_nil])
theorem blanks_parse {line gap : List UInt8} {ts : List Tok} {a0 : Nat} (hs : scanL line = (ts, 0, a0)) (hg : gap.all blankB = true) (hg0 : 0 < gap.length) (hok : ∀ j, j < ts.length → oneOK (tokAt ts j) = true) (hl : (blT ts gap ts.length).length ≤ 16384) :
    (rparseP line).1 = (rparseP (blT ts gap ts.length)).1 ∧ (rparseP line).2.1 = (rparseP (blT ts gap ts.length)).2.1 := by
  have hps : ts.map prT = (ts.map prA).map some := pr_map fun t ht => by
    obtain ⟨j, hj, rfl⟩ := List.getElem_of_mem ht
    have := hok j hj
    rw [tokAt, List.getD_eq_getElem?_getD, List.getElem?_eq_getElem hj, Option.getD_some] at this
    unfold oneOK at this
    rw [prS_prT, if_pos (of_decide_eq_true this).1]; rfl
  have hnum : ∀ t ∈ ts, t.num ≤ 9223372036854775807 := by
    have := scanL_num line
    rw [hs] at this
    exact this
  obtain ⟨ts', s1, s2⟩ := scan_lay (T := blT ts gap ts.length) hg hg0 hg ts (ts.map prA) 0 [] hps hnum (by rw [List.drop_zero]; exact blT_lay gap ts)
  have hsc : scanL (blT ts gap ts.length) = (ts', 0, 0) := by unfold scanL; rw [if_neg (by omega), s1]; rfl
  have hlen : ts'.length = ts.length := by simpa using congrArg List.length s2
  have hst := rparse_strip s2.symm line.length (blT ts gap ts.length).length
  have e1 : rparseP line = if ts.length = 0 then (zCmd, 260, line.length) else match (rparseT ts line.length).2 with
      | some a => (zCmd, 260, a)
      | none => ((rparseT ts line.length).1, 0, 0) := by
    unfold rparseP; rw [hs]; exact if_neg (show ¬ ((0 : Nat) ≠ 0) by decide)
  have e2 : rparseP (blT ts gap ts.length) = if ts'.length = 0 then (zCmd, 260, (blT ts gap ts.length).length) else match (rparseT ts' (blT ts gap ts.length).length).2 with
      | some a => (zCmd, 260, a)
      | none => ((rparseT ts' (blT ts gap ts.length).length).1, 0, 0) := by
    unfold rparseP; rw [hsc]; exact if_neg (show ¬ ((0 : Nat) ≠ 0) by decide)
  rw [e1, e2]
  by_cases h0 : ts.length = 0
  · rw [if_pos h0, if_pos (by omega)]; exact ⟨rfl, rfl⟩
  · rw [if_neg h0, if_neg (by omega)]
    obtain ⟨h1, h2⟩ := hst
    generalize rparseT ts line.length = a at h1 h2
    generalize rparseT ts' (blT ts gap ts.length).length = b at h1 h2
    obtain ⟨a1, a2⟩ := a
    obtain ⟨b1, b2⟩ := b
    simp only at h1 h2
    subst h1
    cases a2 <;> cases b2
    · exact ⟨rfl, rfl⟩
    · simp at h2
    · simp at h2
    · exact ⟨rfl, rfl⟩
end Go.Proofs.YtnjbdcdjcfhooaaGreatDoor
namespace Go.Proofs.YtnjbdcdjcfhooaaGreatDoor
open Go.E Go.ChangeShapes Go.WideShapes Go.ChangeAt Go.RowKit
set_option linter.all false
set_option maxRecDepth 20000
set_option maxHeartbeats 8000000
theorem fault_any (G : List Gl) {te : TypeId} (hGe : gErr te ∈ G) (code at_ : Nat) (h : code ≠ 0) : Eff G Tryz.prog 12 [.iface 68 (.ptr (some ⟨0, 0⟩))] [(0, faultC code at_)] 1 (.tuple [.int .i64 code, .int .i64 at_, .bool true]) [] 1 := by
  have f := fault_at G hGe code at_
  rwa [decide_eq_true (show (code : Int) ≠ 0 by omega)] at f
theorem commandBlanks_at (G : List Gl) (te t u tz tp : TypeId) (v : List Value) (hGe : gErr te ∈ G) (h3 : gFirst t ∈ G) (h4 : gAcc u ∈ G) (hv : v[15]? = some (.int .u8 4)) (hG : gTz v tz ∈ G) (hp : gPow tp ∈ G) (l0 l : List UInt8) (hl0 : l0.length ≤ 9223372036854775807) (hcut : l = if 3000 < l0.length then l0.take 3000 else l0) (y : Int) :
    E.Pure G Tryz.prog 7 [.str l0, .int .i64 y] (.bool true) := by
  refine pure_hid fun V hV => ?_
  have aw := awake_c G te t u tz tp v hGe h3 h4 hv hG hp
  have hl : l.length ≤ 3000 := by
    rw [hcut]; split
    · rw [List.length_take]; omega
    · omega
  have hsc := scan_c G t u h3 h4 l
  have p1 := parse_c G t u h3 h4 l (by omega)
  rw [parse_same] at p1
  have fn := fault_nil G
  have hlen : 3000 < l0.length → l0.take 3000 = l := fun h => by rw [hcut, if_pos h]
  have hsame : ¬ 3000 < l0.length → l0 = l := fun h => by rw [hcut, if_neg h]
  by_cases hs : (scanL l).2.1 = 0
  · have hN := scanL_len l
    have hT := scanL_text l
    have hM := scanL_num l
    have hbp := fun (gap : List UInt8) (ts : List Tok) (a0 : Nat) (h : scanL l = (ts, 0, a0)) => blanks_parse (gap := gap) h
    generalize scanL l = r at hs hsc hN hT hM hbp
    obtain ⟨ts, c0, a0⟩ := r
    simp only at hs hN hT hM
    subst hs
    replace hbp := fun gap => hbp gap ts a0 rfl
    simp only [scanV, scanB, scanN, if_true] at hsc
    have hpar := fun (T : List UInt8) (h : T.length ≤ 16384) => parse_c G t u h3 h4 T (by omega)
    simp only [parse_same] at hpar
    by_cases hts : ts.length = 0
    · obtain rfl : ts = [] := List.length_eq_zero_iff.1 hts
      simp only [List.length_nil, accE_zero, toksE, accB_nil, if_true] at hsc
      have b1 := blanks_nil G [32]
      have b2 := blanks_nil G [32, 9, 32]
      have k1 := hbp [32] rfl (by decide) (fun j h => by simp at h) (by decide)
      have k2 := hbp [32, 9, 32] rfl (by decide) (fun j h => by simp at h) (by decide)
      have q1 := hpar [32] (by decide)
      have q2 := hpar [32, 9, 32] (by decide)
      have t1 : blT [] [32] ([] : List Tok).length = [32] := rfl
      have t2 : blT [] [32, 9, 32] ([] : List Tok).length = [32, 9, 32] := rfl
      rw [t1] at k1
      rw [t2] at k2
      have hfa := fault_any G hGe
      have hz1 := rparse_zero l
      generalize rparseP l = r1 at p1 k1 k2 hz1
      generalize rparseP [32] = r2 at q1 k1
      generalize rparseP [32, 9, 32] = r3 at q2 k2
      obtain ⟨c, code, a1⟩ := r1
      obtain ⟨c2, code2, a2⟩ := r2
      obtain ⟨c3, code3, a3⟩ := r3
      simp only at k1 k2 hz1
      obtain ⟨rfl, rfl⟩ := k1
      obtain ⟨rfl, rfl⟩ := k2
      by_cases hc : code = 0
      · subst hc
        simp only [parseV, parseB, parseN, if_true] at p1 q1 q2
        by_cases hbig : 3000 < l0.length
        · have h1 := hlen hbig
          refine ecalls_in 130 [.tmp 4] Tryz.func7 rfl rfl rfl (by kernel_rfl) (le_ble rfl) ?_
          repeat' (first
            | refine esem_seqK 9904729240102659032415731699 ?_
            | refine esem_block ?_
            | (refine stp ?_; simp only [go_sem, h1])
            | (refine Pure.at (aw) (by simp) (by simp) rfl ?_; (try simp only [go_sem, h1]))
            | (refine Eff.at2 (hsc ) [] rfl (by first | (simp; done) | (simp; omega) | (simp [bytesE_cons, bytesE_nil]; done) | omega) rfl ?_; (try simp only [go_sem, h1]))
            | (refine Pure.at (b1) (by simp) (by simp) rfl ?_; (try simp only [go_sem, h1]))
            | (refine Pure.at (b2) (by simp) (by simp) rfl ?_; (try simp only [go_sem, h1]))
            | (refine Eff.at2 (p1 ) [] rfl (by first | (simp; done) | (simp; omega) | (simp [bytesE_cons, bytesE_nil]; done) | omega) rfl ?_; (try simp only [go_sem, h1]))
            | (refine Eff.at2 (q1 ) [] rfl (by first | (simp; done) | (simp; omega) | (simp [bytesE_cons, bytesE_nil]; done) | omega) rfl ?_; (try simp only [go_sem, h1]))
            | (refine Eff.at2 (q2 ) [] rfl (by first | (simp; done) | (simp; omega) | (simp [bytesE_cons, bytesE_nil]; done) | omega) rfl ?_; (try simp only [go_sem, h1]))
            | (refine Pure.at (fn) (by simp) (by simp) rfl ?_; (try simp only [go_sem, h1]))
            | (refine ⟨cmd_eq c, ?_⟩; try simp only [go_sem, h1])
            | (simp (disch := omega) only [wrap64E, wrapU8E, wrapU16E, wrapU32E, wrapU64E, wrapI32E, tdivE, tmodE])
            | (refine spl (fun h => ?_) (fun h => ?_) <;> first | (exfalso; omega) | ((try simp only [opRun, opSkip, stepRun, pickZ]); (try simp only [go_sem, h1, h])))
            | (refine and_om ?_ ?_; focus omega))
          all_goals (refine done_zero (by simp [EV.bel, allBelow]) ?_; rw [hV])
        · obtain rfl := hsame hbig
          refine ecalls_in 130 [.tmp 4] Tryz.func7 rfl rfl rfl (by kernel_rfl) (le_ble rfl) ?_
          repeat' (first
            | refine esem_seqK 9904729240102659032415731699 ?_
            | refine esem_block ?_
            | (refine stp ?_; simp only [go_sem])
            | (refine Pure.at (aw) (by simp) (by simp) rfl ?_; (try simp only [go_sem]))
            | (refine Eff.at2 (hsc ) [] rfl (by first | (simp; done) | (simp; omega) | (simp [bytesE_cons, bytesE_nil]; done) | omega) rfl ?_; (try simp only [go_sem]))
            | (refine Pure.at (b1) (by simp) (by simp) rfl ?_; (try simp only [go_sem]))
            | (refine Pure.at (b2) (by simp) (by simp) rfl ?_; (try simp only [go_sem]))
            | (refine Eff.at2 (p1 ) [] rfl (by first | (simp; done) | (simp; omega) | (simp [bytesE_cons, bytesE_nil]; done) | omega) rfl ?_; (try simp only [go_sem]))
            | (refine Eff.at2 (q1 ) [] rfl (by first | (simp; done) | (simp; omega) | (simp [bytesE_cons, bytesE_nil]; done) | omega) rfl ?_; (try simp only [go_sem]))
            | (refine Eff.at2 (q2 ) [] rfl (by first | (simp; done) | (simp; omega) | (simp [bytesE_cons, bytesE_nil]; done) | omega) rfl ?_; (try simp only [go_sem]))
            | (refine Pure.at (fn) (by simp) (by simp) rfl ?_; (try simp only [go_sem]))
            | (refine ⟨cmd_eq c, ?_⟩; try simp only [go_sem])
            | (simp (disch := omega) only [wrap64E, wrapU8E, wrapU16E, wrapU32E, wrapU64E, wrapI32E, tdivE, tmodE])
            | (refine spl (fun h => ?_) (fun h => ?_) <;> first | (exfalso; omega) | ((try simp only [opRun, opSkip, stepRun, pickZ]); (try simp only [go_sem, h])))
            | (refine and_om ?_ ?_; focus omega))
          all_goals (refine done_zero (by simp [EV.bel, allBelow]) ?_; rw [hV])
      · simp only [parseV, parseB, parseN, if_neg hc] at p1 q1 q2
        have f1 := hfa code a1 hc
        have f2 := hfa code a2 hc
        have f3 := hfa code a3 hc
        by_cases hbig : 3000 < l0.length
        · have h1 := hlen hbig
          refine ecalls_in 130 [.tmp 4] Tryz.func7 rfl rfl rfl (by kernel_rfl) (le_ble rfl) ?_
          repeat' (first
            | refine esem_seqK 9904729240102659032415731699 ?_
            | refine esem_block ?_
            | (refine stp ?_; simp only [go_sem, h1])
            | (refine Pure.at (aw) (by simp) (by simp) rfl ?_; (try simp only [go_sem, h1]))
            | (refine Eff.at2 (hsc ) [] rfl (by first | (simp; done) | (simp; omega) | (simp [bytesE_cons, bytesE_nil]; done) | omega) rfl ?_; (try simp only [go_sem, h1]))
            | (refine Pure.at (b1) (by simp) (by simp) rfl ?_; (try simp only [go_sem, h1]))
            | (refine Pure.at (b2) (by simp) (by simp) rfl ?_; (try simp only [go_sem, h1]))
            | (refine Eff.at2 (p1 ) [] rfl (by first | (simp; done) | (simp; omega) | (simp [bytesE_cons, bytesE_nil]; done) | omega) rfl ?_; (try simp only [go_sem, h1]))
            | (refine Eff.at2 (q1 ) [] rfl (by first | (simp; done) | (simp; omega) | (simp [bytesE_cons, bytesE_nil]; done) | omega) rfl ?_; (try simp only [go_sem, h1]))
            | (refine Eff.at2 (q2 ) [] rfl (by first | (simp; done) | (simp; omega) | (simp [bytesE_cons, bytesE_nil]; done) | omega) rfl ?_; (try simp only [go_sem, h1]))
            | (refine Eff.at2 (f1 ) [0] rfl (by first | (simp; done) | (simp; omega) | (simp [bytesE_cons, bytesE_nil]; done) | omega) rfl ?_; (try simp only [go_sem, h1]))
            | (refine Eff.at2 (f1 ) [1] rfl (by first | (simp; done) | (simp; omega) | (simp [bytesE_cons, bytesE_nil]; done) | omega) rfl ?_; (try simp only [go_sem, h1]))
            | (refine Eff.at2 (f1 ) [2] rfl (by first | (simp; done) | (simp; omega) | (simp [bytesE_cons, bytesE_nil]; done) | omega) rfl ?_; (try simp only [go_sem, h1]))
            | (refine Eff.at2 (f1 ) [3] rfl (by first | (simp; done) | (simp; omega) | (simp [bytesE_cons, bytesE_nil]; done) | omega) rfl ?_; (try simp only [go_sem, h1]))
            | (refine Eff.at2 (f1 ) [4] rfl (by first | (simp; done) | (simp; omega) | (simp [bytesE_cons, bytesE_nil]; done) | omega) rfl ?_; (try simp only [go_sem, h1]))
            | (refine Eff.at2 (f2 ) [0] rfl (by first | (simp; done) | (simp; omega) | (simp [bytesE_cons, bytesE_nil]; done) | omega) rfl ?_; (try simp only [go_sem, h1]))
            | (refine Eff.at2 (f2 ) [1] rfl (by first | (simp; done) | (simp; omega) | (simp [bytesE_cons, bytesE_nil]; done) | omega) rfl ?_; (try simp only [go_sem, h1]))
            | (refine Eff.at2 (f2 ) [2] rfl (by first | (simp; done) | (simp; omega) | (simp [bytesE_cons, bytesE_nil]; done) | omega) rfl ?_; (try simp only [go_sem, h1]))
            | (refine Eff.at2 (f2 ) [3] rfl (by first | (simp; done) | (simp; omega) | (simp [bytesE_cons, bytesE_nil]; done) | omega) rfl ?_; (try simp only [go_sem, h1]))
            | (refine Eff.at2 (f2 ) [4] rfl (by first | (simp; done) | (simp; omega) | (simp [bytesE_cons, bytesE_nil]; done) | omega) rfl ?_; (try simp only [go_sem, h1]))
            | (refine Eff.at2 (f3 ) [0] rfl (by first | (simp; done) | (simp; omega) | (simp [bytesE_cons, bytesE_nil]; done) | omega) rfl ?_; (try simp only [go_sem, h1]))
            | (refine Eff.at2 (f3 ) [1] rfl (by first | (simp; done) | (simp; omega) | (simp [bytesE_cons, bytesE_nil]; done) | omega) rfl ?_; (try simp only [go_sem, h1]))
            | (refine Eff.at2 (f3 ) [2] rfl (by first | (simp; done) | (simp; omega) | (simp [bytesE_cons, bytesE_nil]; done) | omega) rfl ?_; (try simp only [go_sem, h1]))
            | (refine Eff.at2 (f3 ) [3] rfl (by first | (simp; done) | (simp; omega) | (simp [bytesE_cons, bytesE_nil]; done) | omega) rfl ?_; (try simp only [go_sem, h1]))
            | (refine Eff.at2 (f3 ) [4] rfl (by first | (simp; done) | (simp; omega) | (simp [bytesE_cons, bytesE_nil]; done) | omega) rfl ?_; (try simp only [go_sem, h1]))
            | (refine ⟨cmd_eq zCmd, ?_⟩; try simp only [go_sem, h1])
            | (simp (disch := omega) only [wrap64E, wrapU8E, wrapU16E, wrapU32E, wrapU64E, wrapI32E, tdivE, tmodE])
            | (refine spl (fun h => ?_) (fun h => ?_) <;> first | (exfalso; omega) | ((try simp only [opRun, opSkip, stepRun, pickZ]); (try simp only [go_sem, h1, h])))
            | (refine and_om ?_ ?_; focus omega))
          all_goals (refine done_zero (by simp [EV.bel, allBelow]) ?_; rw [hV])
        · obtain rfl := hsame hbig
          refine ecalls_in 130 [.tmp 4] Tryz.func7 rfl rfl rfl (by kernel_rfl) (le_ble rfl) ?_
          repeat' (first
            | refine esem_seqK 9904729240102659032415731699 ?_
            | refine esem_block ?_
            | (refine stp ?_; simp only [go_sem])
            | (refine Pure.at (aw) (by simp) (by simp) rfl ?_; (try simp only [go_sem]))
            | (refine Eff.at2 (hsc ) [] rfl (by first | (simp; done) | (simp; omega) | (simp [bytesE_cons, bytesE_nil]; done) | omega) rfl ?_; (try simp only [go_sem]))
            | (refine Pure.at (b1) (by simp) (by simp) rfl ?_; (try simp only [go_sem]))
            | (refine Pure.at (b2) (by simp) (by simp) rfl ?_; (try simp only [go_sem]))
            | (refine Eff.at2 (p1 ) [] rfl (by first | (simp; done) | (simp; omega) | (simp [bytesE_cons, bytesE_nil]; done) | omega) rfl ?_; (try simp only [go_sem]))
            | (refine Eff.at2 (q1 ) [] rfl (by first | (simp; done) | (simp; omega) | (simp [bytesE_cons, bytesE_nil]; done) | omega) rfl ?_; (try simp only [go_sem]))
            | (refine Eff.at2 (q2 ) [] rfl (by first | (simp; done) | (simp; omega) | (simp [bytesE_cons, bytesE_nil]; done) | omega) rfl ?_; (try simp only [go_sem]))
            | (refine Eff.at2 (f1 ) [0] rfl (by first | (simp; done) | (simp; omega) | (simp [bytesE_cons, bytesE_nil]; done) | omega) rfl ?_; (try simp only [go_sem]))
            | (refine Eff.at2 (f1 ) [1] rfl (by first | (simp; done) | (simp; omega) | (simp [bytesE_cons, bytesE_nil]; done) | omega) rfl ?_; (try simp only [go_sem]))
            | (refine Eff.at2 (f1 ) [2] rfl (by first | (simp; done) | (simp; omega) | (simp [bytesE_cons, bytesE_nil]; done) | omega) rfl ?_; (try simp only [go_sem]))
            | (refine Eff.at2 (f1 ) [3] rfl (by first | (simp; done) | (simp; omega) | (simp [bytesE_cons, bytesE_nil]; done) | omega) rfl ?_; (try simp only [go_sem]))
            | (refine Eff.at2 (f1 ) [4] rfl (by first | (simp; done) | (simp; omega) | (simp [bytesE_cons, bytesE_nil]; done) | omega) rfl ?_; (try simp only [go_sem]))
            | (refine Eff.at2 (f2 ) [0] rfl (by first | (simp; done) | (simp; omega) | (simp [bytesE_cons, bytesE_nil]; done) | omega) rfl ?_; (try simp only [go_sem]))
            | (refine Eff.at2 (f2 ) [1] rfl (by first | (simp; done) | (simp; omega) | (simp [bytesE_cons, bytesE_nil]; done) | omega) rfl ?_; (try simp only [go_sem]))
            | (refine Eff.at2 (f2 ) [2] rfl (by first | (simp; done) | (simp; omega) | (simp [bytesE_cons, bytesE_nil]; done) | omega) rfl ?_; (try simp only [go_sem]))
            | (refine Eff.at2 (f2 ) [3] rfl (by first | (simp; done) | (simp; omega) | (simp [bytesE_cons, bytesE_nil]; done) | omega) rfl ?_; (try simp only [go_sem]))
            | (refine Eff.at2 (f2 ) [4] rfl (by first | (simp; done) | (simp; omega) | (simp [bytesE_cons, bytesE_nil]; done) | omega) rfl ?_; (try simp only [go_sem]))
            | (refine Eff.at2 (f3 ) [0] rfl (by first | (simp; done) | (simp; omega) | (simp [bytesE_cons, bytesE_nil]; done) | omega) rfl ?_; (try simp only [go_sem]))
            | (refine Eff.at2 (f3 ) [1] rfl (by first | (simp; done) | (simp; omega) | (simp [bytesE_cons, bytesE_nil]; done) | omega) rfl ?_; (try simp only [go_sem]))
            | (refine Eff.at2 (f3 ) [2] rfl (by first | (simp; done) | (simp; omega) | (simp [bytesE_cons, bytesE_nil]; done) | omega) rfl ?_; (try simp only [go_sem]))
            | (refine Eff.at2 (f3 ) [3] rfl (by first | (simp; done) | (simp; omega) | (simp [bytesE_cons, bytesE_nil]; done) | omega) rfl ?_; (try simp only [go_sem]))
            | (refine Eff.at2 (f3 ) [4] rfl (by first | (simp; done) | (simp; omega) | (simp [bytesE_cons, bytesE_nil]; done) | omega) rfl ?_; (try simp only [go_sem]))
            | (refine ⟨cmd_eq zCmd, ?_⟩; try simp only [go_sem])
            | (simp (disch := omega) only [wrap64E, wrapU8E, wrapU16E, wrapU32E, wrapU64E, wrapI32E, tdivE, tmodE])
            | (refine spl (fun h => ?_) (fun h => ?_) <;> first | (exfalso; omega) | ((try simp only [opRun, opSkip, stepRun, pickZ]); (try simp only [go_sem, h])))
            | (refine and_om ?_ ?_; focus omega))
          all_goals (refine done_zero (by simp [EV.bel, allBelow]) ?_; rw [hV])
    · rw [accE_pos (n := ts.length) (by omega), accB_pos (c := toksE ts) (by rw [toksE_length]; omega), if_neg hts] at hsc
      have h63 : ∀ k ∈ ts, k.text.length ≤ 16384 ∧ k.num ≤ 9223372036854775807 := fun k hk => ⟨hT k hk, hM k hk⟩
      have b1 := blanks_c G t u tz tp v h3 h4 hv hG hp ts (by omega) hN h63 [32] (by decide)
      have b2 := blanks_c G t u tz tp v h3 h4 hv hG hp ts (by omega) hN h63 [32, 9, 32] (by decide)
      try rw [toksE_length] at hsc
      by_cases hall : ∀ j, j < ts.length → oneOK (tokAt ts j) = true
      · have e1 : blS ts [32] = (blT ts [32] ts.length, true) := by unfold blS; rw [if_pos hall]
        have e2 : blS ts [32, 9, 32] = (blT ts [32, 9, 32] ts.length, true) := by unfold blS; rw [if_pos hall]
        rw [e1] at b1
        rw [e2] at b2
        simp only at b1 b2
        have k1 := hbp [32] rfl (by decide) hall
        have k2 := hbp [32, 9, 32] rfl (by decide) hall
        have n1 := blT_len (ts := ts) (gap := [32]) (by decide) ts.length (Nat.le_refl _) hall
        have n2 := blT_len (ts := ts) (gap := [32, 9, 32]) (by decide) ts.length (Nat.le_refl _) hall
        have q1 := hpar (blT ts [32] ts.length)
        have q2 := hpar (blT ts [32, 9, 32] ts.length)
        generalize blT ts [32] ts.length = T1 at b1 k1 n1 q1
        generalize blT ts [32, 9, 32] ts.length = T2 at b2 k2 n2 q2
        have hfa := fault_any G hGe
        -- one gap at a time: the other's facts are not needed where y is known
        by_cases hy : y.tmod 2 = 0
        · clear b1
          by_cases hTl : T2.length ≤ 16384
          · have k := k2 hTl
            have q := q2 hTl
            generalize rparseP l = r1 at p1 k
            generalize rparseP T2 = r2 at q k
            obtain ⟨c, code, a1⟩ := r1
            obtain ⟨c2, code2, a2⟩ := r2
            simp only at k
            obtain ⟨rfl, rfl⟩ := k
            by_cases hc : code = 0
            · subst hc
              simp only [parseV, parseB, parseN, if_true] at p1 q
              by_cases hbig : 3000 < l0.length
              · have h1 := hlen hbig
                refine ecalls_in 130 [.tmp 4] Tryz.func7 rfl rfl rfl (by kernel_rfl) (le_ble rfl) ?_
                repeat' (first
                  | refine esem_seqK 9904729240102659032415731699 ?_
                  | refine esem_block ?_
                  | (refine stp ?_; simp only [go_sem, h1])
                  | (refine Pure.at (aw) (by simp) (by simp) rfl ?_; (try simp only [go_sem, h1]))
                  | (refine Eff.at2 (hsc ) [] rfl (by first | (simp; done) | (simp; omega) | (simp [bytesE_cons, bytesE_nil]; done) | omega) rfl ?_; (try simp only [go_sem, h1]))
                  | (refine Eff.at2 (b2 ) [0] rfl (by first | (simp; done) | (simp; omega) | (simp [bytesE_cons, bytesE_nil]; done) | omega) rfl ?_; (try simp only [go_sem, h1]))
                  | (refine Eff.at2 (p1 ) [] rfl (by first | (simp; done) | (simp; omega) | (simp [bytesE_cons, bytesE_nil]; done) | omega) rfl ?_; (try simp only [go_sem, h1]))
                  | (refine Eff.at2 (q ) [] rfl (by first | (simp; done) | (simp; omega) | (simp [bytesE_cons, bytesE_nil]; done) | omega) rfl ?_; (try simp only [go_sem, h1]))
                  | (refine Pure.at (fn) (by simp) (by simp) rfl ?_; (try simp only [go_sem, h1]))
                  | (refine ⟨cmd_eq c, ?_⟩; try simp only [go_sem, h1])
                  | (simp (disch := omega) only [wrap64E, wrapU8E, wrapU16E, wrapU32E, wrapU64E, wrapI32E, tdivE, tmodE])
                  | (refine spl (fun h => ?_) (fun h => ?_) <;> first | (exfalso; omega) | ((try simp only [opRun, opSkip, stepRun, pickZ]); (try simp only [go_sem, h1, h])))
                  | (refine and_om ?_ ?_; focus omega))
                all_goals (refine done_zero (by simp [EV.bel, allBelow]) ?_; rw [hV])
              · obtain rfl := hsame hbig
                refine ecalls_in 130 [.tmp 4] Tryz.func7 rfl rfl rfl (by kernel_rfl) (le_ble rfl) ?_
                repeat' (first
                  | refine esem_seqK 9904729240102659032415731699 ?_
                  | refine esem_block ?_
                  | (refine stp ?_; simp only [go_sem])
                  | (refine Pure.at (aw) (by simp) (by simp) rfl ?_; (try simp only [go_sem]))
                  | (refine Eff.at2 (hsc ) [] rfl (by first | (simp; done) | (simp; omega) | (simp [bytesE_cons, bytesE_nil]; done) | omega) rfl ?_; (try simp only [go_sem]))
                  | (refine Eff.at2 (b2 ) [0] rfl (by first | (simp; done) | (simp; omega) | (simp [bytesE_cons, bytesE_nil]; done) | omega) rfl ?_; (try simp only [go_sem]))
                  | (refine Eff.at2 (p1 ) [] rfl (by first | (simp; done) | (simp; omega) | (simp [bytesE_cons, bytesE_nil]; done) | omega) rfl ?_; (try simp only [go_sem]))
                  | (refine Eff.at2 (q ) [] rfl (by first | (simp; done) | (simp; omega) | (simp [bytesE_cons, bytesE_nil]; done) | omega) rfl ?_; (try simp only [go_sem]))
                  | (refine Pure.at (fn) (by simp) (by simp) rfl ?_; (try simp only [go_sem]))
                  | (refine ⟨cmd_eq c, ?_⟩; try simp only [go_sem])
                  | (simp (disch := omega) only [wrap64E, wrapU8E, wrapU16E, wrapU32E, wrapU64E, wrapI32E, tdivE, tmodE])
                  | (refine spl (fun h => ?_) (fun h => ?_) <;> first | (exfalso; omega) | ((try simp only [opRun, opSkip, stepRun, pickZ]); (try simp only [go_sem, h])))
                  | (refine and_om ?_ ?_; focus omega))
                all_goals (refine done_zero (by simp [EV.bel, allBelow]) ?_; rw [hV])
            · simp only [parseV, parseB, parseN, if_neg hc] at p1 q
              have f1 := hfa code a1 hc
              have f2 := hfa code a2 hc
              by_cases hbig : 3000 < l0.length
              · have h1 := hlen hbig
                refine ecalls_in 130 [.tmp 4] Tryz.func7 rfl rfl rfl (by kernel_rfl) (le_ble rfl) ?_
                repeat' (first
                  | refine esem_seqK 9904729240102659032415731699 ?_
                  | refine esem_block ?_
                  | (refine stp ?_; simp only [go_sem, h1])
                  | (refine Pure.at (aw) (by simp) (by simp) rfl ?_; (try simp only [go_sem, h1]))
                  | (refine Eff.at2 (hsc ) [] rfl (by first | (simp; done) | (simp; omega) | (simp [bytesE_cons, bytesE_nil]; done) | omega) rfl ?_; (try simp only [go_sem, h1]))
                  | (refine Eff.at2 (b2 ) [0] rfl (by first | (simp; done) | (simp; omega) | (simp [bytesE_cons, bytesE_nil]; done) | omega) rfl ?_; (try simp only [go_sem, h1]))
                  | (refine Eff.at2 (p1 ) [] rfl (by first | (simp; done) | (simp; omega) | (simp [bytesE_cons, bytesE_nil]; done) | omega) rfl ?_; (try simp only [go_sem, h1]))
                  | (refine Eff.at2 (q ) [] rfl (by first | (simp; done) | (simp; omega) | (simp [bytesE_cons, bytesE_nil]; done) | omega) rfl ?_; (try simp only [go_sem, h1]))
                  | (refine Eff.at2 (f1 ) [1] rfl (by first | (simp; done) | (simp; omega) | (simp [bytesE_cons, bytesE_nil]; done) | omega) rfl ?_; (try simp only [go_sem, h1]))
                  | (refine Eff.at2 (f1 ) [2] rfl (by first | (simp; done) | (simp; omega) | (simp [bytesE_cons, bytesE_nil]; done) | omega) rfl ?_; (try simp only [go_sem, h1]))
                  | (refine Eff.at2 (f1 ) [3] rfl (by first | (simp; done) | (simp; omega) | (simp [bytesE_cons, bytesE_nil]; done) | omega) rfl ?_; (try simp only [go_sem, h1]))
                  | (refine Eff.at2 (f1 ) [4] rfl (by first | (simp; done) | (simp; omega) | (simp [bytesE_cons, bytesE_nil]; done) | omega) rfl ?_; (try simp only [go_sem, h1]))
                  | (refine Eff.at2 (f2 ) [1] rfl (by first | (simp; done) | (simp; omega) | (simp [bytesE_cons, bytesE_nil]; done) | omega) rfl ?_; (try simp only [go_sem, h1]))
                  | (refine Eff.at2 (f2 ) [2] rfl (by first | (simp; done) | (simp; omega) | (simp [bytesE_cons, bytesE_nil]; done) | omega) rfl ?_; (try simp only [go_sem, h1]))
                  | (refine Eff.at2 (f2 ) [3] rfl (by first | (simp; done) | (simp; omega) | (simp [bytesE_cons, bytesE_nil]; done) | omega) rfl ?_; (try simp only [go_sem, h1]))
                  | (refine Eff.at2 (f2 ) [4] rfl (by first | (simp; done) | (simp; omega) | (simp [bytesE_cons, bytesE_nil]; done) | omega) rfl ?_; (try simp only [go_sem, h1]))
                  | (refine ⟨cmd_eq zCmd, ?_⟩; try simp only [go_sem, h1])
                  | (simp (disch := omega) only [wrap64E, wrapU8E, wrapU16E, wrapU32E, wrapU64E, wrapI32E, tdivE, tmodE])
                  | (refine spl (fun h => ?_) (fun h => ?_) <;> first | (exfalso; omega) | ((try simp only [opRun, opSkip, stepRun, pickZ]); (try simp only [go_sem, h1, h])))
                  | (refine and_om ?_ ?_; focus omega))
                all_goals (refine done_zero (by simp [EV.bel, allBelow]) ?_; rw [hV])
              · obtain rfl := hsame hbig
                refine ecalls_in 130 [.tmp 4] Tryz.func7 rfl rfl rfl (by kernel_rfl) (le_ble rfl) ?_
                repeat' (first
                  | refine esem_seqK 9904729240102659032415731699 ?_
                  | refine esem_block ?_
                  | (refine stp ?_; simp only [go_sem])
                  | (refine Pure.at (aw) (by simp) (by simp) rfl ?_; (try simp only [go_sem]))
                  | (refine Eff.at2 (hsc ) [] rfl (by first | (simp; done) | (simp; omega) | (simp [bytesE_cons, bytesE_nil]; done) | omega) rfl ?_; (try simp only [go_sem]))
                  | (refine Eff.at2 (b2 ) [0] rfl (by first | (simp; done) | (simp; omega) | (simp [bytesE_cons, bytesE_nil]; done) | omega) rfl ?_; (try simp only [go_sem]))
                  | (refine Eff.at2 (p1 ) [] rfl (by first | (simp; done) | (simp; omega) | (simp [bytesE_cons, bytesE_nil]; done) | omega) rfl ?_; (try simp only [go_sem]))
                  | (refine Eff.at2 (q ) [] rfl (by first | (simp; done) | (simp; omega) | (simp [bytesE_cons, bytesE_nil]; done) | omega) rfl ?_; (try simp only [go_sem]))
                  | (refine Eff.at2 (f1 ) [1] rfl (by first | (simp; done) | (simp; omega) | (simp [bytesE_cons, bytesE_nil]; done) | omega) rfl ?_; (try simp only [go_sem]))
                  | (refine Eff.at2 (f1 ) [2] rfl (by first | (simp; done) | (simp; omega) | (simp [bytesE_cons, bytesE_nil]; done) | omega) rfl ?_; (try simp only [go_sem]))
                  | (refine Eff.at2 (f1 ) [3] rfl (by first | (simp; done) | (simp; omega) | (simp [bytesE_cons, bytesE_nil]; done) | omega) rfl ?_; (try simp only [go_sem]))
                  | (refine Eff.at2 (f1 ) [4] rfl (by first | (simp; done) | (simp; omega) | (simp [bytesE_cons, bytesE_nil]; done) | omega) rfl ?_; (try simp only [go_sem]))
                  | (refine Eff.at2 (f2 ) [1] rfl (by first | (simp; done) | (simp; omega) | (simp [bytesE_cons, bytesE_nil]; done) | omega) rfl ?_; (try simp only [go_sem]))
                  | (refine Eff.at2 (f2 ) [2] rfl (by first | (simp; done) | (simp; omega) | (simp [bytesE_cons, bytesE_nil]; done) | omega) rfl ?_; (try simp only [go_sem]))
                  | (refine Eff.at2 (f2 ) [3] rfl (by first | (simp; done) | (simp; omega) | (simp [bytesE_cons, bytesE_nil]; done) | omega) rfl ?_; (try simp only [go_sem]))
                  | (refine Eff.at2 (f2 ) [4] rfl (by first | (simp; done) | (simp; omega) | (simp [bytesE_cons, bytesE_nil]; done) | omega) rfl ?_; (try simp only [go_sem]))
                  | (refine ⟨cmd_eq zCmd, ?_⟩; try simp only [go_sem])
                  | (simp (disch := omega) only [wrap64E, wrapU8E, wrapU16E, wrapU32E, wrapU64E, wrapI32E, tdivE, tmodE])
                  | (refine spl (fun h => ?_) (fun h => ?_) <;> first | (exfalso; omega) | ((try simp only [opRun, opSkip, stepRun, pickZ]); (try simp only [go_sem, h])))
                  | (refine and_om ?_ ?_; focus omega))
                all_goals (refine done_zero (by simp [EV.bel, allBelow]) ?_; rw [hV])
          · clear k1 k2 q1 q2
            by_cases hbig : 3000 < l0.length
            · have h1 := hlen hbig
              refine ecalls_in 130 [.tmp 4] Tryz.func7 rfl rfl rfl (by kernel_rfl) (le_ble rfl) ?_
              repeat' (first
                | refine esem_seqK 9904729240102659032415731699 ?_
                | refine esem_block ?_
                | (refine stp ?_; simp only [go_sem, h1])
                | (refine Pure.at (aw) (by simp) (by simp) rfl ?_; (try simp only [go_sem, h1]))
                | (refine Eff.at2 (hsc ) [] rfl (by first | (simp; done) | (simp; omega) | (simp [bytesE_cons, bytesE_nil]; done) | omega) rfl ?_; (try simp only [go_sem, h1]))
                | (refine Eff.at2 (b2 ) [0] rfl (by first | (simp; done) | (simp; omega) | (simp [bytesE_cons, bytesE_nil]; done) | omega) rfl ?_; (try simp only [go_sem, h1]))
                | (simp (disch := omega) only [wrap64E, wrapU8E, wrapU16E, wrapU32E, wrapU64E, wrapI32E, tdivE, tmodE])
                | (refine spl (fun h => ?_) (fun h => ?_) <;> first | (exfalso; omega) | ((try simp only [opRun, opSkip, stepRun, pickZ]); (try simp only [go_sem, h1, h])))
                | (refine and_om ?_ ?_; focus omega))
              all_goals (refine done_zero (by simp [EV.bel, allBelow]) ?_; rw [hV])
            · obtain rfl := hsame hbig
              refine ecalls_in 130 [.tmp 4] Tryz.func7 rfl rfl rfl (by kernel_rfl) (le_ble rfl) ?_
              repeat' (first
                | refine esem_seqK 9904729240102659032415731699 ?_
                | refine esem_block ?_
                | (refine stp ?_; simp only [go_sem])
                | (refine Pure.at (aw) (by simp) (by simp) rfl ?_; (try simp only [go_sem]))
                | (refine Eff.at2 (hsc ) [] rfl (by first | (simp; done) | (simp; omega) | (simp [bytesE_cons, bytesE_nil]; done) | omega) rfl ?_; (try simp only [go_sem]))
                | (refine Eff.at2 (b2 ) [0] rfl (by first | (simp; done) | (simp; omega) | (simp [bytesE_cons, bytesE_nil]; done) | omega) rfl ?_; (try simp only [go_sem]))
                | (simp (disch := omega) only [wrap64E, wrapU8E, wrapU16E, wrapU32E, wrapU64E, wrapI32E, tdivE, tmodE])
                | (refine spl (fun h => ?_) (fun h => ?_) <;> first | (exfalso; omega) | ((try simp only [opRun, opSkip, stepRun, pickZ]); (try simp only [go_sem, h])))
                | (refine and_om ?_ ?_; focus omega))
              all_goals (refine done_zero (by simp [EV.bel, allBelow]) ?_; rw [hV])
        · clear b2
          by_cases hTl : T1.length ≤ 16384
          · have k := k1 hTl
            have q := q1 hTl
            generalize rparseP l = r1 at p1 k
            generalize rparseP T1 = r2 at q k
            obtain ⟨c, code, a1⟩ := r1
            obtain ⟨c2, code2, a2⟩ := r2
            simp only at k
            obtain ⟨rfl, rfl⟩ := k
            by_cases hc : code = 0
            · subst hc
              simp only [parseV, parseB, parseN, if_true] at p1 q
              by_cases hbig : 3000 < l0.length
              · have h1 := hlen hbig
                refine ecalls_in 130 [.tmp 4] Tryz.func7 rfl rfl rfl (by kernel_rfl) (le_ble rfl) ?_
                repeat' (first
                  | refine esem_seqK 9904729240102659032415731699 ?_
                  | refine esem_block ?_
                  | (refine stp ?_; simp only [go_sem, h1])
                  | (refine Pure.at (aw) (by simp) (by simp) rfl ?_; (try simp only [go_sem, h1]))
                  | (refine Eff.at2 (hsc ) [] rfl (by first | (simp; done) | (simp; omega) | (simp [bytesE_cons, bytesE_nil]; done) | omega) rfl ?_; (try simp only [go_sem, h1]))
                  | (refine Eff.at2 (b1 ) [0] rfl (by first | (simp; done) | (simp; omega) | (simp [bytesE_cons, bytesE_nil]; done) | omega) rfl ?_; (try simp only [go_sem, h1]))
                  | (refine Eff.at2 (p1 ) [] rfl (by first | (simp; done) | (simp; omega) | (simp [bytesE_cons, bytesE_nil]; done) | omega) rfl ?_; (try simp only [go_sem, h1]))
                  | (refine Eff.at2 (q ) [] rfl (by first | (simp; done) | (simp; omega) | (simp [bytesE_cons, bytesE_nil]; done) | omega) rfl ?_; (try simp only [go_sem, h1]))
                  | (refine Pure.at (fn) (by simp) (by simp) rfl ?_; (try simp only [go_sem, h1]))
                  | (refine ⟨cmd_eq c, ?_⟩; try simp only [go_sem, h1])
                  | (simp (disch := omega) only [wrap64E, wrapU8E, wrapU16E, wrapU32E, wrapU64E, wrapI32E, tdivE, tmodE])
                  | (refine spl (fun h => ?_) (fun h => ?_) <;> first | (exfalso; omega) | ((try simp only [opRun, opSkip, stepRun, pickZ]); (try simp only [go_sem, h1, h])))
                  | (refine and_om ?_ ?_; focus omega))
                all_goals (refine done_zero (by simp [EV.bel, allBelow]) ?_; rw [hV])
              · obtain rfl := hsame hbig
                refine ecalls_in 130 [.tmp 4] Tryz.func7 rfl rfl rfl (by kernel_rfl) (le_ble rfl) ?_
                repeat' (first
                  | refine esem_seqK 9904729240102659032415731699 ?_
                  | refine esem_block ?_
                  | (refine stp ?_; simp only [go_sem])
                  | (refine Pure.at (aw) (by simp) (by simp) rfl ?_; (try simp only [go_sem]))
                  | (refine Eff.at2 (hsc ) [] rfl (by first | (simp; done) | (simp; omega) | (simp [bytesE_cons, bytesE_nil]; done) | omega) rfl ?_; (try simp only [go_sem]))
                  | (refine Eff.at2 (b1 ) [0] rfl (by first | (simp; done) | (simp; omega) | (simp [bytesE_cons, bytesE_nil]; done) | omega) rfl ?_; (try simp only [go_sem]))
                  | (refine Eff.at2 (p1 ) [] rfl (by first | (simp; done) | (simp; omega) | (simp [bytesE_cons, bytesE_nil]; done) | omega) rfl ?_; (try simp only [go_sem]))
                  | (refine Eff.at2 (q ) [] rfl (by first | (simp; done) | (simp; omega) | (simp [bytesE_cons, bytesE_nil]; done) | omega) rfl ?_; (try simp only [go_sem]))
                  | (refine Pure.at (fn) (by simp) (by simp) rfl ?_; (try simp only [go_sem]))
                  | (refine ⟨cmd_eq c, ?_⟩; try simp only [go_sem])
                  | (simp (disch := omega) only [wrap64E, wrapU8E, wrapU16E, wrapU32E, wrapU64E, wrapI32E, tdivE, tmodE])
                  | (refine spl (fun h => ?_) (fun h => ?_) <;> first | (exfalso; omega) | ((try simp only [opRun, opSkip, stepRun, pickZ]); (try simp only [go_sem, h])))
                  | (refine and_om ?_ ?_; focus omega))
                all_goals (refine done_zero (by simp [EV.bel, allBelow]) ?_; rw [hV])
            · simp only [parseV, parseB, parseN, if_neg hc] at p1 q
              have f1 := hfa code a1 hc
              have f2 := hfa code a2 hc
              by_cases hbig : 3000 < l0.length
              · have h1 := hlen hbig
                refine ecalls_in 130 [.tmp 4] Tryz.func7 rfl rfl rfl (by kernel_rfl) (le_ble rfl) ?_
                repeat' (first
                  | refine esem_seqK 9904729240102659032415731699 ?_
                  | refine esem_block ?_
                  | (refine stp ?_; simp only [go_sem, h1])
                  | (refine Pure.at (aw) (by simp) (by simp) rfl ?_; (try simp only [go_sem, h1]))
                  | (refine Eff.at2 (hsc ) [] rfl (by first | (simp; done) | (simp; omega) | (simp [bytesE_cons, bytesE_nil]; done) | omega) rfl ?_; (try simp only [go_sem, h1]))
                  | (refine Eff.at2 (b1 ) [0] rfl (by first | (simp; done) | (simp; omega) | (simp [bytesE_cons, bytesE_nil]; done) | omega) rfl ?_; (try simp only [go_sem, h1]))
                  | (refine Eff.at2 (p1 ) [] rfl (by first | (simp; done) | (simp; omega) | (simp [bytesE_cons, bytesE_nil]; done) | omega) rfl ?_; (try simp only [go_sem, h1]))
                  | (refine Eff.at2 (q ) [] rfl (by first | (simp; done) | (simp; omega) | (simp [bytesE_cons, bytesE_nil]; done) | omega) rfl ?_; (try simp only [go_sem, h1]))
                  | (refine Eff.at2 (f1 ) [1] rfl (by first | (simp; done) | (simp; omega) | (simp [bytesE_cons, bytesE_nil]; done) | omega) rfl ?_; (try simp only [go_sem, h1]))
                  | (refine Eff.at2 (f1 ) [2] rfl (by first | (simp; done) | (simp; omega) | (simp [bytesE_cons, bytesE_nil]; done) | omega) rfl ?_; (try simp only [go_sem, h1]))
                  | (refine Eff.at2 (f1 ) [3] rfl (by first | (simp; done) | (simp; omega) | (simp [bytesE_cons, bytesE_nil]; done) | omega) rfl ?_; (try simp only [go_sem, h1]))
                  | (refine Eff.at2 (f1 ) [4] rfl (by first | (simp; done) | (simp; omega) | (simp [bytesE_cons, bytesE_nil]; done) | omega) rfl ?_; (try simp only [go_sem, h1]))
                  | (refine Eff.at2 (f2 ) [1] rfl (by first | (simp; done) | (simp; omega) | (simp [bytesE_cons, bytesE_nil]; done) | omega) rfl ?_; (try simp only [go_sem, h1]))
                  | (refine Eff.at2 (f2 ) [2] rfl (by first | (simp; done) | (simp; omega) | (simp [bytesE_cons, bytesE_nil]; done) | omega) rfl ?_; (try simp only [go_sem, h1]))
                  | (refine Eff.at2 (f2 ) [3] rfl (by first | (simp; done) | (simp; omega) | (simp [bytesE_cons, bytesE_nil]; done) | omega) rfl ?_; (try simp only [go_sem, h1]))
                  | (refine Eff.at2 (f2 ) [4] rfl (by first | (simp; done) | (simp; omega) | (simp [bytesE_cons, bytesE_nil]; done) | omega) rfl ?_; (try simp only [go_sem, h1]))
                  | (refine ⟨cmd_eq zCmd, ?_⟩; try simp only [go_sem, h1])
                  | (simp (disch := omega) only [wrap64E, wrapU8E, wrapU16E, wrapU32E, wrapU64E, wrapI32E, tdivE, tmodE])
                  | (refine spl (fun h => ?_) (fun h => ?_) <;> first | (exfalso; omega) | ((try simp only [opRun, opSkip, stepRun, pickZ]); (try simp only [go_sem, h1, h])))
                  | (refine and_om ?_ ?_; focus omega))
                all_goals (refine done_zero (by simp [EV.bel, allBelow]) ?_; rw [hV])
              · obtain rfl := hsame hbig
                refine ecalls_in 130 [.tmp 4] Tryz.func7 rfl rfl rfl (by kernel_rfl) (le_ble rfl) ?_
                repeat' (first
                  | refine esem_seqK 9904729240102659032415731699 ?_
                  | refine esem_block ?_
                  | (refine stp ?_; simp only [go_sem])
                  | (refine Pure.at (aw) (by simp) (by simp) rfl ?_; (try simp only [go_sem]))
                  | (refine Eff.at2 (hsc ) [] rfl (by first | (simp; done) | (simp; omega) | (simp [bytesE_cons, bytesE_nil]; done) | omega) rfl ?_; (try simp only [go_sem]))
                  | (refine Eff.at2 (b1 ) [0] rfl (by first | (simp; done) | (simp; omega) | (simp [bytesE_cons, bytesE_nil]; done) | omega) rfl ?_; (try simp only [go_sem]))
                  | (refine Eff.at2 (p1 ) [] rfl (by first | (simp; done) | (simp; omega) | (simp [bytesE_cons, bytesE_nil]; done) | omega) rfl ?_; (try simp only [go_sem]))
                  | (refine Eff.at2 (q ) [] rfl (by first | (simp; done) | (simp; omega) | (simp [bytesE_cons, bytesE_nil]; done) | omega) rfl ?_; (try simp only [go_sem]))
                  | (refine Eff.at2 (f1 ) [1] rfl (by first | (simp; done) | (simp; omega) | (simp [bytesE_cons, bytesE_nil]; done) | omega) rfl ?_; (try simp only [go_sem]))
                  | (refine Eff.at2 (f1 ) [2] rfl (by first | (simp; done) | (simp; omega) | (simp [bytesE_cons, bytesE_nil]; done) | omega) rfl ?_; (try simp only [go_sem]))
                  | (refine Eff.at2 (f1 ) [3] rfl (by first | (simp; done) | (simp; omega) | (simp [bytesE_cons, bytesE_nil]; done) | omega) rfl ?_; (try simp only [go_sem]))
                  | (refine Eff.at2 (f1 ) [4] rfl (by first | (simp; done) | (simp; omega) | (simp [bytesE_cons, bytesE_nil]; done) | omega) rfl ?_; (try simp only [go_sem]))
                  | (refine Eff.at2 (f2 ) [1] rfl (by first | (simp; done) | (simp; omega) | (simp [bytesE_cons, bytesE_nil]; done) | omega) rfl ?_; (try simp only [go_sem]))
                  | (refine Eff.at2 (f2 ) [2] rfl (by first | (simp; done) | (simp; omega) | (simp [bytesE_cons, bytesE_nil]; done) | omega) rfl ?_; (try simp only [go_sem]))
                  | (refine Eff.at2 (f2 ) [3] rfl (by first | (simp; done) | (simp; omega) | (simp [bytesE_cons, bytesE_nil]; done) | omega) rfl ?_; (try simp only [go_sem]))
                  | (refine Eff.at2 (f2 ) [4] rfl (by first | (simp; done) | (simp; omega) | (simp [bytesE_cons, bytesE_nil]; done) | omega) rfl ?_; (try simp only [go_sem]))
                  | (refine ⟨cmd_eq zCmd, ?_⟩; try simp only [go_sem])
                  | (simp (disch := omega) only [wrap64E, wrapU8E, wrapU16E, wrapU32E, wrapU64E, wrapI32E, tdivE, tmodE])
                  | (refine spl (fun h => ?_) (fun h => ?_) <;> first | (exfalso; omega) | ((try simp only [opRun, opSkip, stepRun, pickZ]); (try simp only [go_sem, h])))
                  | (refine and_om ?_ ?_; focus omega))
                all_goals (refine done_zero (by simp [EV.bel, allBelow]) ?_; rw [hV])
          · clear k1 k2 q1 q2
            by_cases hbig : 3000 < l0.length
            · have h1 := hlen hbig
              refine ecalls_in 130 [.tmp 4] Tryz.func7 rfl rfl rfl (by kernel_rfl) (le_ble rfl) ?_
              repeat' (first
                | refine esem_seqK 9904729240102659032415731699 ?_
                | refine esem_block ?_
                | (refine stp ?_; simp only [go_sem, h1])
                | (refine Pure.at (aw) (by simp) (by simp) rfl ?_; (try simp only [go_sem, h1]))
                | (refine Eff.at2 (hsc ) [] rfl (by first | (simp; done) | (simp; omega) | (simp [bytesE_cons, bytesE_nil]; done) | omega) rfl ?_; (try simp only [go_sem, h1]))
                | (refine Eff.at2 (b1 ) [0] rfl (by first | (simp; done) | (simp; omega) | (simp [bytesE_cons, bytesE_nil]; done) | omega) rfl ?_; (try simp only [go_sem, h1]))
                | (simp (disch := omega) only [wrap64E, wrapU8E, wrapU16E, wrapU32E, wrapU64E, wrapI32E, tdivE, tmodE])
                | (refine spl (fun h => ?_) (fun h => ?_) <;> first | (exfalso; omega) | ((try simp only [opRun, opSkip, stepRun, pickZ]); (try simp only [go_sem, h1, h])))
                | (refine and_om ?_ ?_; focus omega))
              all_goals (refine done_zero (by simp [EV.bel, allBelow]) ?_; rw [hV])
            · obtain rfl := hsame hbig
              refine ecalls_in 130 [.tmp 4] Tryz.func7 rfl rfl rfl (by kernel_rfl) (le_ble rfl) ?_
              repeat' (first
                | refine esem_seqK 9904729240102659032415731699 ?_
                | refine esem_block ?_
                | (refine stp ?_; simp only [go_sem])
                | (refine Pure.at (aw) (by simp) (by simp) rfl ?_; (try simp only [go_sem]))
                | (refine Eff.at2 (hsc ) [] rfl (by first | (simp; done) | (simp; omega) | (simp [bytesE_cons, bytesE_nil]; done) | omega) rfl ?_; (try simp only [go_sem]))
                | (refine Eff.at2 (b1 ) [0] rfl (by first | (simp; done) | (simp; omega) | (simp [bytesE_cons, bytesE_nil]; done) | omega) rfl ?_; (try simp only [go_sem]))
                | (simp (disch := omega) only [wrap64E, wrapU8E, wrapU16E, wrapU32E, wrapU64E, wrapI32E, tdivE, tmodE])
                | (refine spl (fun h => ?_) (fun h => ?_) <;> first | (exfalso; omega) | ((try simp only [opRun, opSkip, stepRun, pickZ]); (try simp only [go_sem, h])))
                | (refine and_om ?_ ?_; focus omega))
              all_goals (refine done_zero (by simp [EV.bel, allBelow]) ?_; rw [hV])
      · have e1 : blS ts [32] = ([], false) := by unfold blS; rw [if_neg hall]
        have e2 : blS ts [32, 9, 32] = ([], false) := by unfold blS; rw [if_neg hall]
        rw [e1] at b1
        rw [e2] at b2
        simp only at b1 b2
        by_cases hbig : 3000 < l0.length
        · have h1 := hlen hbig
          refine ecalls_in 130 [.tmp 4] Tryz.func7 rfl rfl rfl (by kernel_rfl) (le_ble rfl) ?_
          repeat' (first
            | refine esem_seqK 9904729240102659032415731699 ?_
            | refine esem_block ?_
            | (refine stp ?_; simp only [go_sem, h1])
            | (refine Pure.at (aw) (by simp) (by simp) rfl ?_; (try simp only [go_sem, h1]))
            | (refine Eff.at2 (hsc ) [] rfl (by first | (simp; done) | (simp; omega) | (simp [bytesE_cons, bytesE_nil]; done) | omega) rfl ?_; (try simp only [go_sem, h1]))
            | (refine Eff.at2 (b1 ) [0] rfl (by first | (simp; done) | (simp; omega) | (simp [bytesE_cons, bytesE_nil]; done) | omega) rfl ?_; (try simp only [go_sem, h1]))
            | (refine Eff.at2 (b2 ) [0] rfl (by first | (simp; done) | (simp; omega) | (simp [bytesE_cons, bytesE_nil]; done) | omega) rfl ?_; (try simp only [go_sem, h1]))
            | (simp (disch := omega) only [wrap64E, wrapU8E, wrapU16E, wrapU32E, wrapU64E, wrapI32E, tdivE, tmodE])
            | (refine spl (fun h => ?_) (fun h => ?_) <;> first | (exfalso; omega) | ((try simp only [opRun, opSkip, stepRun, pickZ]); (try simp only [go_sem, h1, h])))
            | (refine and_om ?_ ?_; focus omega))
          all_goals (refine done_zero (by simp [EV.bel, allBelow]) ?_; rw [hV])
        · obtain rfl := hsame hbig
          refine ecalls_in 130 [.tmp 4] Tryz.func7 rfl rfl rfl (by kernel_rfl) (le_ble rfl) ?_
          repeat' (first
            | refine esem_seqK 9904729240102659032415731699 ?_
            | refine esem_block ?_
            | (refine stp ?_; simp only [go_sem])
            | (refine Pure.at (aw) (by simp) (by simp) rfl ?_; (try simp only [go_sem]))
            | (refine Eff.at2 (hsc ) [] rfl (by first | (simp; done) | (simp; omega) | (simp [bytesE_cons, bytesE_nil]; done) | omega) rfl ?_; (try simp only [go_sem]))
            | (refine Eff.at2 (b1 ) [0] rfl (by first | (simp; done) | (simp; omega) | (simp [bytesE_cons, bytesE_nil]; done) | omega) rfl ?_; (try simp only [go_sem]))
            | (refine Eff.at2 (b2 ) [0] rfl (by first | (simp; done) | (simp; omega) | (simp [bytesE_cons, bytesE_nil]; done) | omega) rfl ?_; (try simp only [go_sem]))
            | (simp (disch := omega) only [wrap64E, wrapU8E, wrapU16E, wrapU32E, wrapU64E, wrapI32E, tdivE, tmodE])
            | (refine spl (fun h => ?_) (fun h => ?_) <;> first | (exfalso; omega) | ((try simp only [opRun, opSkip, stepRun, pickZ]); (try simp only [go_sem, h])))
            | (refine and_om ?_ ?_; focus omega))
          all_goals (refine done_zero (by simp [EV.bel, allBelow]) ?_; rw [hV])
  · have hr : rparseP l = (zCmd, (scanL l).2.1, (scanL l).2.2) := by unfold rparseP; rw [if_pos hs]
    rw [hr] at p1
    have f := fault_any G hGe (scanL l).2.1 (scanL l).2.2 hs
    simp only [scanV, scanB, scanN, if_neg hs] at hsc
    simp only [parseV, parseB, parseN, if_neg hs] at p1
    generalize (scanL l).2.1 = code at hsc p1 f
    generalize (scanL l).2.2 = at_ at hsc p1 f
    by_cases hbig : 3000 < l0.length
    · have h1 := hlen hbig
      refine ecalls_in 130 [.tmp 4] Tryz.func7 rfl rfl rfl (by kernel_rfl) (le_ble rfl) ?_
      repeat' (first
        | refine esem_seqK 9904729240102659032415731699 ?_
        | refine esem_block ?_
        | (refine stp ?_; simp only [go_sem, h1])
        | (refine Pure.at (aw) (by simp) (by simp) rfl ?_; (try simp only [go_sem, h1]))
        | (refine Eff.at2 (hsc ) [] rfl (by first | (simp; done) | (simp; omega) | (simp [bytesE_cons, bytesE_nil]; done) | omega) rfl ?_; (try simp only [go_sem, h1]))
        | (refine Eff.at2 (p1 ) [] rfl (by first | (simp; done) | (simp; omega) | (simp [bytesE_cons, bytesE_nil]; done) | omega) rfl ?_; (try simp only [go_sem, h1]))
        | (refine Eff.at2 (f ) [0] rfl (by first | (simp; done) | (simp; omega) | (simp [bytesE_cons, bytesE_nil]; done) | omega) rfl ?_; (try simp only [go_sem, h1]))
        | (refine Eff.at2 (f ) [2] rfl (by first | (simp; done) | (simp; omega) | (simp [bytesE_cons, bytesE_nil]; done) | omega) rfl ?_; (try simp only [go_sem, h1]))
        | (refine Eff.at2 (f ) [1] rfl (by first | (simp; done) | (simp; omega) | (simp [bytesE_cons, bytesE_nil]; done) | omega) rfl ?_; (try simp only [go_sem, h1]))
        | (refine ⟨cmd_eq zCmd, ?_⟩; try simp only [go_sem, h1])
        | (simp (disch := omega) only [wrap64E, wrapU8E, wrapU16E, wrapU32E, wrapU64E, wrapI32E, tdivE, tmodE])
        | (refine spl (fun h => ?_) (fun h => ?_) <;> first | (exfalso; omega) | ((try simp only [opRun, opSkip, stepRun, pickZ]); (try simp only [go_sem, h1, h])))
        | (refine and_om ?_ ?_; focus omega))
      all_goals (refine done_zero (by simp [EV.bel, allBelow]) ?_; rw [hV])
    · obtain rfl := hsame hbig
      refine ecalls_in 130 [.tmp 4] Tryz.func7 rfl rfl rfl (by kernel_rfl) (le_ble rfl) ?_
      repeat' (first
        | refine esem_seqK 9904729240102659032415731699 ?_
        | refine esem_block ?_
        | (refine stp ?_; simp only [go_sem])
        | (refine Pure.at (aw) (by simp) (by simp) rfl ?_; (try simp only [go_sem]))
        | (refine Eff.at2 (hsc ) [] rfl (by first | (simp; done) | (simp; omega) | (simp [bytesE_cons, bytesE_nil]; done) | omega) rfl ?_; (try simp only [go_sem]))
        | (refine Eff.at2 (p1 ) [] rfl (by first | (simp; done) | (simp; omega) | (simp [bytesE_cons, bytesE_nil]; done) | omega) rfl ?_; (try simp only [go_sem]))
        | (refine Eff.at2 (f ) [0] rfl (by first | (simp; done) | (simp; omega) | (simp [bytesE_cons, bytesE_nil]; done) | omega) rfl ?_; (try simp only [go_sem]))
        | (refine Eff.at2 (f ) [2] rfl (by first | (simp; done) | (simp; omega) | (simp [bytesE_cons, bytesE_nil]; done) | omega) rfl ?_; (try simp only [go_sem]))
        | (refine Eff.at2 (f ) [1] rfl (by first | (simp; done) | (simp; omega) | (simp [bytesE_cons, bytesE_nil]; done) | omega) rfl ?_; (try simp only [go_sem]))
        | (refine ⟨cmd_eq zCmd, ?_⟩; try simp only [go_sem])
        | (simp (disch := omega) only [wrap64E, wrapU8E, wrapU16E, wrapU32E, wrapU64E, wrapI32E, tdivE, tmodE])
        | (refine spl (fun h => ?_) (fun h => ?_) <;> first | (exfalso; omega) | ((try simp only [opRun, opSkip, stepRun, pickZ]); (try simp only [go_sem, h])))
        | (refine and_om ?_ ?_; focus omega))
      all_goals (refine done_zero (by simp [EV.bel, allBelow]) ?_; rw [hV])
theorem commandBlanks_law (G : List Gl) (te t u tz tp : TypeId) (v : List Value) (hGe : gErr te ∈ G) (h3 : gFirst t ∈ G) (h4 : gAcc u ∈ G) (hv : v[15]? = some (.int .u8 4)) (hG : gTz v tz ∈ G) (hp : gPow tp ∈ G) (x : ByteArray) (y : Int) (hx : (x.size : Int) ≤ IntKind.i64.max) (hy : IntKind.i64.has y) :
    E.Pure G Tryz.prog 7 [.str x.data.toList, .int .i64 y] (.bool true) :=
  commandBlanks_at G te t u tz tp v hGe h3 h4 hv hG hp x.data.toList _ (by have : x.data.toList.length = x.size := Array.length_toList
                                                                           have : IntKind.i64.max = 9223372036854775807 := rfl
                                                                           omega) rfl y
theorem commandBlanks_calls (x0 : ByteArray) (x1 : Int) (hx0 : (x0.size : Int) ≤ IntKind.i64.max) (hx1 : IntKind.i64.has x1) (w : World) (hL : laidMetH Tryz.prog laidL w) : Calls Tryz.prog 7 #[.string x0, .int .i64 x1] w fun e w' => e = .returned (.bool true) ∧ Below w.heap.size w w' := by
  obtain ⟨te, t, u, tz, tp, hg⟩ := glob_of_laid hL
  refine ((commandBlanks_law [gErr te, gFirst t, gAcc u, gTz tzV tz, gPow tp] te t u tz tp tzV (by simp) (by simp) (by simp) tz15 (by simp) (by simp) x0 x1 hx0 hx1).toCalls Tryz.func7 rfl (by kernel_rfl) (VRs.cons (by rw [VR]) (VRs.cons (by rw [VR]) VRs.nil)) w hg).mono ?_
  rintro e w' ⟨x, s', ρ', hr, hb, rfl, rfl⟩
  obtain ⟨v', rfl, hv⟩ := hr
  rw [VR] at hv
  exact ⟨by rw [hv], hb⟩
set_option maxRecDepth 100000 in
theorem commandBlanks_lifted (os : Os) (started : os.Started) (H : Type) (enc : TypeId × Value → H) :
    ReturnsInHanded {} Tryz.checked os 7 .any (fun w args => (Rows.commandBlanksSpec.pre enc Tryz.prog Tryz.f7 [] false w args ∧ laidMetH Tryz.prog laidL w) ∧ sizedMet enc Tryz.prog Tryz.f7 (OpenSpec.ofChange Rows.commandBlanksSpec) false w args)
      (Rows.commandBlanksSpec.post enc Tryz.prog Tryz.f7 false true false false) := by
  refine returnsInHanded_of_change_and (C := Tryz.checked) (X := fun w _ => laidMetH Tryz.prog laidL w) (fun _ _ _ hh h => h.of_heap hh) own started (by kernel_rfl) Tryz.func7
    (ChangeSpec.witness_shaped (enc := enc) (C := Tryz.checked) (os := os) (X := fun w _ => laidMetH Tryz.prog laidL w) false (witW os) #[.string .empty, .int .i64 0] 8 (witW_os os)
      (World.shaped_of_ZipB (by kernel_rfl) (by kernel_rfl)) (by kernel_rfl) (by kernel_rfl) (by kernel_rfl) (witW_met os _)) ?_
  intro W base args ds gs before hval0 hW _ _ hL _
  have hval : ∀ (j : Nat) t v, Tryz.f7.params[j]? = some t → args[j]? = some v → Value.okWide Tryz.prog W .any base t v := hval0
  have hW' := hW
  obtain ⟨p, q, hA0, hV, rfl, hfz, hnd⟩ := hW
  have hA : DataW.TrodAll enc Tryz.prog W 0 (fun _ => true) true Tryz.f7.params.toList args.toList ds p := hA0
  rw [Tryz.params7] at hA hval
  have hstay := hA
  obtain ⟨v0, vs0, d0, ds0, p0, q0, hargs, rfl, rfl, h0, r0⟩ := trodAll_cons hA
  obtain ⟨v1, vs1, d1, ds1, p1, q1, rfl, rfl, rfl, h1, r1⟩ := trodAll_cons r0
  obtain ⟨rfl, rfl, rfl⟩ := trodAll_nil r1
  obtain rfl : args = #[v0, v1] := by cases args; simp_all
  obtain ⟨rfl, rfl⟩ := trodVars_none hV
  obtain ⟨x0, rfl, hx0⟩ := cell_str Tryz.underlying9 (okWide_cell (by rw [Tryz.underlying9]; trivial) (hval 0 9 v0 rfl rfl))
  obtain ⟨x1, rfl, hx1⟩ := cell_int Tryz.underlying3 (okWide_cell (by rw [Tryz.underlying3]; trivial) (hval 1 3 v1 rfl rfl))
  refine (commandBlanks_calls x0 x1 hx0 hx1 W hL).mono fun e W' ⟨he, bel⟩ => ?_
  subst he
  exact ⟨_, rfl, _, _, _, [], _, [], hW', trodAll_mk1 (shut_bool Tryz.underlying4 _), args_stay laidOut bel hstay (by intro t ht; simp at ht; rcases ht with rfl | rfl <;> exact ⟨by kernel_rfl, of_decide_eq_true (by kernel_rfl)⟩), rfl, bel.frame _, fun h => by cases h⟩
theorem commandBlanks_over : Rows.commandBlanksRow.holds Tryz.pinned (OpenSpec.ofChange Rows.commandBlanksSpec) :=
  OpenClaim.holds_of_wide 7 Tryz.f7 rfl rfl rfl rfl rfl rfl rfl ⟨rfl, rfl, rfl, rfl, rfl⟩ rfl rfl rfl rfl rfl (by kernel_rfl) Tryz.func7 (by kernel_rfl)
    (of_decide_eq_true (by kernel_rfl)) (by unfold Func.isWrapper; first | (rw [if_pos (by decide +kernel)]; kernel_rfl) | (rw [if_neg (by decide +kernel)]; exact ⟨rfl, rfl⟩))
    (fun os started H enc _ => commandBlanks_lifted os started H enc)
theorem commandBlanks_card : Rows.CommandBlanksCardSaid :=
  Claim7.holds_tied_plain_at .later [] [.data, .data, .data, .data, .handle, .pinned] true (true, "8a79f1cbe4cbe0b827adf0f6cc364f8cc62241dfff2f37c340b2934bee1663d3") true commandBlanks_over (fun _ h => by cases h) (by kernel_rfl) (fun _ h => by cases h) commandBlanks_row_tie rfl ⟨rfl, rfl⟩ (by kernel_rfl) rfl
    (fun f fn hf hfn => by
      obtain rfl : f = 7 := Option.some.inj ((show Tryz.prog.funcNamed "vellum/vellumlaw26.CommandBlanks" = some 7 by kernel_rfl).symm.trans hf) |>.symm
      obtain rfl : fn = Tryz.f7 := (Option.some.inj (Tryz.func7.symm.trans hfn)).symm
      exact ⟨by kernel_rfl, fun j t ht => by
        rw [Tryz.params7] at ht
        have hm : t ∈ [9, 3] := by simpa using Array.mem_of_getElem? ht
        have hall : ([9, 3].all fun u => !Tryz.prog.wantsStandIn u) = true := by kernel_rfl
        exact (show Tryz.prog.wantsStandIn t = false by simpa using List.all_eq_true.1 hall t hm)⟩)
    (by kernel_rfl)
end Go.Proofs.YtnjbdcdjcfhooaaGreatDoor
