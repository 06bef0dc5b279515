/-
  Own work: walks and laws of the functions that the statement reaches; the statement itself stands in the last text.
-/
import Derived.Test.YtnjbdcdjcfhooaaGreatDoorHs
namespace Go.Proofs.YtnjbdcdjcfhooaaGreatDoor
open Go.E Go.ChangeShapes Go.WideShapes Go.ChangeAt Go.RowKit
set_option linter.all false
set_option maxRecDepth 20000
set_option maxHeartbeats 8000000
theorem join_snoc {ps : List (List UInt8)} {p : List UInt8} (h : 0 < ps.length) : Lib.join (ps ++ [p]) [32] = Lib.join ps [32] ++ [32] ++ p := by
  cases ps with
  | nil => cases h
  | cons x r => rw [List.cons_append, Lib.join_cons, Lib.join_cons]; simp [Lib.joinTail]
def outL (ts : List Tok) (i : Nat) : List UInt8 := Lib.join (prsT ts i) [32]
theorem outL_one {ts : List Tok} (h : 0 < ts.length) : outL ts 1 = prA (tokAt ts 0) := by
  have := prsT_step h
  rw [Nat.zero_add] at this
  rw [outL, this]
  exact Lib.join_one ..
theorem outL_step {ts : List Tok} {i : Nat} (h : i < ts.length) (h0 : 0 < i) : outL ts (i + 1) = outL ts i ++ [32] ++ prA (tokAt ts i) := by
  rw [outL, prsT_step h, join_snoc (by rw [prsT_length (by omega)]; exact h0)]; rfl
theorem outL_all (ts : List Tok) : outL ts ts.length = Lib.join (ts.map prA) [32] := by rw [outL, prsT, List.take_length]
theorem prA_pos {t : Tok} (h : (prS t).2 = true) : 0 < (prA t).length := by
  rw [prA_ok h]
  unfold prS at h ⊢
  split at h
  · rename_i hk
    rw [if_pos hk]
    unfold wordB at h
    simp only [Bool.and_eq_true, decide_eq_true_eq] at h
    exact List.length_pos_iff.2 h.1.1.1
  · rename_i hk
    rw [if_neg hk]
    split at h
    · rename_i hk2
      rw [if_pos hk2]
      simp only
      refine List.length_pos_iff.2 fun he => ?_
      rw [Lib.itoa_nonneg] at he
      have := (dec_head _ t.num rfl).1
      rw [he] at this
      cases this
    · rename_i hk2
      rw [if_neg hk2]
      split at h
      · rename_i hk3
        rw [if_pos hk3]
        simp [quoteL]
      · cases h
theorem toks_fld {ts : List Tok} {i k : Nat} (h : i < ts.length) (hk : k < 4) : (toksE ts)[i * 4 + k]? = (tkE (tokAt ts i))[k]? := by
  rw [← toks_at h, List.getElem?_take, if_pos hk, List.getElem?_drop]
theorem rprint_c (G : List Gl) (tz tp : TypeId) (v : List Value) (hv : v[15]? = some (.int .u8 4)) (hG : gTz v tz ∈ G) (hp : gPow tp ∈ G) (ts : List Tok) (n cz : Nat) (hn : ts.length = n) (h0 : 0 < n) (hN : n ≤ 16)
    (h63 : ∀ k ∈ ts, k.text.length ≤ 1000000000000 ∧ k.num ≤ 9223372036854775807) :
    Eff G Tryz.prog 35 [.slice (some ⟨0, 0⟩) n n] [(0, .cells (toksE ts) 72 cz true 0)] 1 (.tuple [.str (printL ts).1, .int .i64 (printL ts).2]) [] 1 := by
  unfold Eff
  subst hn
  have hz0 : outL ts 0 = [] := rfl
  have hbd : ∀ i, i ≤ ts.length → (outL ts i).length ≤ 16 * 8000000000021 := fun i hi => by
    have := join_len 8000000000020 (prsT ts i) (fun p hp => by
      obtain ⟨t, ht, rfl⟩ := List.mem_map.1 hp
      have h := h63 t (List.mem_of_mem_take ht)
      have := prA_len h.2
      omega)
    rw [prsT_length hi] at this
    have h2 : i * (8000000000020 + 1) ≤ 16 * 8000000000021 := Nat.mul_le_mul (by omega) (Nat.le_refl _)
    exact Nat.le_trans this h2
  refine ecalls_in 60 [.tmp 2, .tmp 3] Tryz.func35 rfl rfl rfl (by kernel_rfl) (le_ble rfl) ?_
  repeat' (first
    | refine esem_seqK 144150441302295101 ?_
    | refine esem_block ?_
    | (refine stp ?_; simp only [go_sem])
    | (simp (disch := omega) only [wrap64E, wrapU8E, wrapU16E, wrapU32E, wrapU64E, wrapI32E, tdivE, tmodE])
    | (refine spl (fun h => ?_) (fun h => ?_) <;> first | (exfalso; omega) | ((try simp only [opRun, opSkip, stepRun, pickZ]); (try simp only [go_sem, h])))
    | (refine and_om ?_ ?_; focus omega))
  refine esem_loopS (fun z : Nat × Nat => [(0, .slice (some ⟨0, 0⟩) ts.length ts.length), (5, .int .i64 z.1), (4, accE (z.2 + 1) (outL ts z.1).length)]) (fun z => (0, .cells (toksE ts) 72 cz true 0) :: accB (z.2 + 1) (bytesE (outL ts z.1)) 5 1) (fun z => z.2 + 2) (fun z => z.1 ≤ ts.length ∧ (z.1 ≠ 0 → 0 < (outL ts z.1).length) ∧ ∀ j, j < z.1 → (prS (tokAt ts j)).2 = true) (fun z => ts.length - z.1) ((0 : Nat), (0 : Nat))
    (fun z hz => ⟨by simp [frBel, EV.bel, allBelow], ⟨by omega, by simp [EO.bel], accB_below (by omega) (by simp)⟩, by omega⟩) ⟨Nat.zero_le _, fun h => absurd rfl h, fun j h => by simp at h⟩ (by simp only [go_sem, weakL, hz0, List.length_nil, accE_zero]) (by simp only [go_sem, lessL, hz0, bytesE_nil, accB_nil]) ?_
  rintro ⟨i, b⟩ ⟨z1, z2, z3⟩
  simp only at z1 z2 z3
  simp only []
  by_cases hi : i < ts.length
  · have hkk := h63 _ (tokAt_mem hi)
    have hua := toks_at hi
    have mc := may_c G (tokAt ts i) hkk.1
    have hpa := prA_ok (t := tokAt ts i)
    have hpp := prA_pos (t := tokAt ts i)
    have hbad := printL_bad hi
    have hb1 := hbd i z1
    have hb2 := hbd (i + 1) (by omega)
    have hR : ∀ j, (prS (tokAt ts i)).2 = true → j < i + 1 → (prS (tokAt ts j)).2 = true := fun j hq1 hj => by
      by_cases h : j = i
      · rw [h, hq1]
      · exact z3 j (by omega)
    cases hq : (prS (tokAt ts i)).2 with
    | false =>
      rw [hq] at mc
      rw [hbad hq]
      repeat' (first
        | refine esem_seqK 144150441302295101 ?_
        | refine esem_block ?_
        | (refine stp ?_; simp only [go_sem, hua, EV.one])
        | (refine Pure.at (mc) (by simp) (by simp) rfl ?_; (try simp only [go_sem, hua, EV.one]))
        | (simp (disch := omega) only [wrap64E, wrapU8E, wrapU16E, wrapU32E, wrapU64E, wrapI32E, tdivE, tmodE])
        | (refine spl (fun h => ?_) (fun h => ?_) <;> first | (exfalso; omega) | ((try simp only [opRun, opSkip, stepRun, pickZ]); (try simp only [go_sem, hua, EV.one, h])))
        | (refine and_om ?_ ?_; focus omega))
      all_goals exact done_eff [] (by simp) (by simp) (by simp) (by simp) (by simp) (by simp) rfl (by simp [List.map_append]) (by simp [bytesE_cons, bytesE_nil])
    | true =>
      rw [hq] at mc
      specialize hpa hq
      specialize hpp hq
      have hkc : (tokAt ts i).kind = 1 ∧ prA (tokAt ts i) = (tokAt ts i).text ∨ (tokAt ts i).kind = 2 ∧ prA (tokAt ts i) = Lib.itoa (tokAt ts i).num ∨ (tokAt ts i).kind = 3 ∧ prA (tokAt ts i) = quoteL (tokAt ts i).text := by
        rw [hpa]
        unfold prS at hq ⊢
        split at hq
        · rename_i hk; rw [if_pos hk]; exact .inl ⟨hk, rfl⟩
        · rename_i hk
          rw [if_neg hk]
          split at hq
          · rename_i hk2; rw [if_pos hk2]; exact .inr (.inl ⟨hk2, rfl⟩)
          · rename_i hk2
            rw [if_neg hk2]
            split at hq
            · rename_i hk3; rw [if_pos hk3]; exact .inr (.inr ⟨hk3, rfl⟩)
            · cases hq
      have ic := itoa_c G tp hp (tokAt ts i).num (by omega) (by omega)
      have qc := rquote_c G v tz hv hG (tokAt ts i).text hkk.1
      have f0 : (toksE ts)[i * 4]? = some (.int .i64 (tokAt ts i).kind) := toks_fld (k := 0) hi (by decide)
      have f2 : (toksE ts)[i * 4 + 2]? = some (.str (tokAt ts i).text) := toks_fld (k := 2) hi (by decide)
      have f3 : (toksE ts)[i * 4 + 3]? = some (.int .i64 (tokAt ts i).num) := toks_fld (k := 3) hi (by decide)
      by_cases ho : i = 0
      · subst ho
        rw [Nat.zero_mul] at f0 f2 f3
        simp only [Nat.zero_add] at f2 f3
        have e1 := outL_one hi
        rw [Nat.zero_add, e1] at hb2
        simp only [hz0, List.length_nil, accE_zero, bytesE_nil, accB_nil]
        rw [Nat.zero_mul, List.drop_zero] at hua
        rcases hkc with ⟨hk, hA⟩ | ⟨hk, hA⟩ | ⟨hk, hA⟩
        · rw [hA] at e1 hb2 hpp
          have hq' : 0 < (bytesE (tokAt ts 0).text).length := by rw [bytesE_length]; exact hpp
          repeat' (first
            | refine esem_seqK 144150441302295101 ?_
            | refine esem_block ?_
            | (refine stp ?_; simp only [go_sem, hua, EV.one, f0, f2, f3])
            | (refine Pure.at (mc) (by simp) (by simp) rfl ?_; (try simp only [go_sem, hua, EV.one, f0, f2, f3]))
            | (refine Pure.at (ic) (by simp) (by simp) rfl ?_; (try simp only [go_sem, hua, EV.one, f0, f2, f3]))
            | (refine Pure.at (qc) (by simp) (by simp) rfl ?_; (try simp only [go_sem, hua, EV.one, f0, f2, f3]))
            | (simp (disch := omega) only [wrap64E, wrapU8E, wrapU16E, wrapU32E, wrapU64E, wrapI32E, tdivE, tmodE])
            | (refine spl (fun h => ?_) (fun h => ?_) <;> first | (exfalso; omega) | ((try simp only [opRun, opSkip, stepRun, pickZ]); (try simp only [go_sem, hua, EV.one, f0, f2, f3, h])))
            | (refine and_om ?_ ?_; focus omega))
          all_goals
            (refine ⟨((1 : Nat), b + 1), ?_, ?_, rfl, rfl, ?_, ?_⟩; rotate_left; (focus (first | omega | (simp only []; omega))); (focus (first | (simp only [go_sem, weakL, e1, accE_pos hpp, accB_pos hq']; done) | ((try simp only [go_sem, weakL, e1, accE_pos hpp, accB_pos hq']); ((repeat' apply And.intro) <;> (first | rfl | trivial | ((try simp only [EV.int.injEq, EV.str.injEq, EV.bool.injEq, EV.tuple.injEq, EV.slice.injEq, List.cons.injEq, true_and, and_true]); first | rfl | omega)))))); (focus (first | trivial | (simp only [go_sem, lessL, e1, accE_pos hpp, accB_pos hq']; done) | ((try simp only [go_sem, lessL, e1, accE_pos hpp, accB_pos hq']); ((repeat' apply And.intro) <;> (first | rfl | trivial | ((try simp only [EV.int.injEq, EV.str.injEq, EV.bool.injEq, EV.tuple.injEq, EV.slice.injEq, List.cons.injEq, true_and, and_true]); first | rfl | omega)))))); (try simp only []))
            exact ⟨by omega, fun _ => by rw [e1]; exact hpp, fun j hj => hR j hq hj⟩
        · rw [← hA] at ic
          generalize prA (tokAt ts 0) = pA at ic e1 hb2 hpp
          have hq' : 0 < (bytesE pA).length := by rw [bytesE_length]; exact hpp
          repeat' (first
            | refine esem_seqK 144150441302295101 ?_
            | refine esem_block ?_
            | (refine stp ?_; simp only [go_sem, hua, EV.one, f0, f2, f3])
            | (refine Pure.at (mc) (by simp) (by simp) rfl ?_; (try simp only [go_sem, hua, EV.one, f0, f2, f3]))
            | (refine Pure.at (ic) (by simp) (by simp) rfl ?_; (try simp only [go_sem, hua, EV.one, f0, f2, f3]))
            | (refine Pure.at (qc) (by simp) (by simp) rfl ?_; (try simp only [go_sem, hua, EV.one, f0, f2, f3]))
            | (simp (disch := omega) only [wrap64E, wrapU8E, wrapU16E, wrapU32E, wrapU64E, wrapI32E, tdivE, tmodE])
            | (refine spl (fun h => ?_) (fun h => ?_) <;> first | (exfalso; omega) | ((try simp only [opRun, opSkip, stepRun, pickZ]); (try simp only [go_sem, hua, EV.one, f0, f2, f3, h])))
            | (refine and_om ?_ ?_; focus omega))
          all_goals
            (refine ⟨((1 : Nat), b + 1), ?_, ?_, rfl, rfl, ?_, ?_⟩; rotate_left; (focus (first | omega | (simp only []; omega))); (focus (first | (simp only [go_sem, weakL, e1, accE_pos hpp, accB_pos hq']; done) | ((try simp only [go_sem, weakL, e1, accE_pos hpp, accB_pos hq']); ((repeat' apply And.intro) <;> (first | rfl | trivial | ((try simp only [EV.int.injEq, EV.str.injEq, EV.bool.injEq, EV.tuple.injEq, EV.slice.injEq, List.cons.injEq, true_and, and_true]); first | rfl | omega)))))); (focus (first | trivial | (simp only [go_sem, lessL, e1, accE_pos hpp, accB_pos hq']; done) | ((try simp only [go_sem, lessL, e1, accE_pos hpp, accB_pos hq']); ((repeat' apply And.intro) <;> (first | rfl | trivial | ((try simp only [EV.int.injEq, EV.str.injEq, EV.bool.injEq, EV.tuple.injEq, EV.slice.injEq, List.cons.injEq, true_and, and_true]); first | rfl | omega)))))); (try simp only []))
            exact ⟨by omega, fun _ => by rw [e1]; exact hpp, fun j hj => hR j hq hj⟩
        · rw [← hA] at qc
          generalize prA (tokAt ts 0) = pA at qc e1 hb2 hpp
          have hq' : 0 < (bytesE pA).length := by rw [bytesE_length]; exact hpp
          repeat' (first
            | refine esem_seqK 144150441302295101 ?_
            | refine esem_block ?_
            | (refine stp ?_; simp only [go_sem, hua, EV.one, f0, f2, f3])
            | (refine Pure.at (mc) (by simp) (by simp) rfl ?_; (try simp only [go_sem, hua, EV.one, f0, f2, f3]))
            | (refine Pure.at (ic) (by simp) (by simp) rfl ?_; (try simp only [go_sem, hua, EV.one, f0, f2, f3]))
            | (refine Pure.at (qc) (by simp) (by simp) rfl ?_; (try simp only [go_sem, hua, EV.one, f0, f2, f3]))
            | (simp (disch := omega) only [wrap64E, wrapU8E, wrapU16E, wrapU32E, wrapU64E, wrapI32E, tdivE, tmodE])
            | (refine spl (fun h => ?_) (fun h => ?_) <;> first | (exfalso; omega) | ((try simp only [opRun, opSkip, stepRun, pickZ]); (try simp only [go_sem, hua, EV.one, f0, f2, f3, h])))
            | (refine and_om ?_ ?_; focus omega))
          all_goals
            (refine ⟨((1 : Nat), b + 1), ?_, ?_, rfl, rfl, ?_, ?_⟩; rotate_left; (focus (first | omega | (simp only []; omega))); (focus (first | (simp only [go_sem, weakL, e1, accE_pos hpp, accB_pos hq']; done) | ((try simp only [go_sem, weakL, e1, accE_pos hpp, accB_pos hq']); ((repeat' apply And.intro) <;> (first | rfl | trivial | ((try simp only [EV.int.injEq, EV.str.injEq, EV.bool.injEq, EV.tuple.injEq, EV.slice.injEq, List.cons.injEq, true_and, and_true]); first | rfl | omega)))))); (focus (first | trivial | (simp only [go_sem, lessL, e1, accE_pos hpp, accB_pos hq']; done) | ((try simp only [go_sem, lessL, e1, accE_pos hpp, accB_pos hq']); ((repeat' apply And.intro) <;> (first | rfl | trivial | ((try simp only [EV.int.injEq, EV.str.injEq, EV.bool.injEq, EV.tuple.injEq, EV.slice.injEq, List.cons.injEq, true_and, and_true]); first | rfl | omega)))))); (try simp only []))
            exact ⟨by omega, fun _ => by rw [e1]; exact hpp, fun j hj => hR j hq hj⟩
      · have hpo := z2 ho
        have e1 := outL_step hi (by omega)
        rw [e1] at hb2
        rw [accE_pos hpo, accB_pos (by rw [bytesE_length]; exact hpo)]
        generalize outL ts i = out at hpo e1 hb1 hb2
        simp only [List.length_append, List.length_cons, List.length_nil] at hb2
        have w2 : (bytesE out ++ [EV.int IntKind.u8 32]).length = out.length + 1 := by rw [List.length_append, bytesE_length]; rfl
        have w1 : List.take (out.length + 1) (bytesE out ++ [EV.int IntKind.u8 32]) = bytesE out ++ [EV.int IntKind.u8 32] := List.take_of_length_le (by rw [w2]; exact Nat.le_refl _)
        have wb : bytesE [32] = [EV.int IntKind.u8 32] := rfl
        rcases hkc with ⟨hk, hA⟩ | ⟨hk, hA⟩ | ⟨hk, hA⟩
        · rw [hA] at e1 hb2 hpp
          have hp' : 0 < out.length + 1 + ((tokAt ts i).text).length := by omega
          have hq' : 0 < (bytesE out ++ [EV.int IntKind.u8 32] ++ bytesE (tokAt ts i).text).length := by rw [List.length_append, List.length_append, bytesE_length]; omega
          repeat' (first
            | refine esem_seqK 144150441302295101 ?_
            | refine esem_block ?_
            | (refine stp ?_; simp only [go_sem, hua, EV.one, f0, f2, f3, w1, w2])
            | (refine Pure.at (mc) (by simp) (by simp) rfl ?_; (try simp only [go_sem, hua, EV.one, f0, f2, f3, w1, w2]))
            | (refine Pure.at (ic) (by simp) (by simp) rfl ?_; (try simp only [go_sem, hua, EV.one, f0, f2, f3, w1, w2]))
            | (refine Pure.at (qc) (by simp) (by simp) rfl ?_; (try simp only [go_sem, hua, EV.one, f0, f2, f3, w1, w2]))
            | (simp (disch := omega) only [wrap64E, wrapU8E, wrapU16E, wrapU32E, wrapU64E, wrapI32E, tdivE, tmodE])
            | (refine spl (fun h => ?_) (fun h => ?_) <;> first | (exfalso; omega) | ((try simp only [opRun, opSkip, stepRun, pickZ]); (try simp only [go_sem, hua, EV.one, f0, f2, f3, w1, w2, h])))
            | (refine and_om ?_ ?_; focus omega))
          all_goals
            (refine ⟨(i + 1, b + 3), ?_, ?_, rfl, rfl, ?_, ?_⟩; rotate_left; (focus (first | omega | (simp only []; omega))); (focus (first | (simp only [go_sem, weakL, e1, List.length_append, bytesE_append, wb, List.length_cons, List.length_nil, Nat.zero_add, accE_pos hp', accB_pos hq']; done) | ((try simp only [go_sem, weakL, e1, List.length_append, bytesE_append, wb, List.length_cons, List.length_nil, Nat.zero_add, accE_pos hp', accB_pos hq']); ((repeat' apply And.intro) <;> (first | rfl | trivial | ((try simp only [EV.int.injEq, EV.str.injEq, EV.bool.injEq, EV.tuple.injEq, EV.slice.injEq, List.cons.injEq, true_and, and_true]); first | rfl | omega)))))); (focus (first | trivial | (simp only [go_sem, lessL, e1, List.length_append, bytesE_append, wb, List.length_cons, List.length_nil, Nat.zero_add, accE_pos hp', accB_pos hq']; done) | ((try simp only [go_sem, lessL, e1, List.length_append, bytesE_append, wb, List.length_cons, List.length_nil, Nat.zero_add, accE_pos hp', accB_pos hq']); ((repeat' apply And.intro) <;> (first | rfl | trivial | ((try simp only [EV.int.injEq, EV.str.injEq, EV.bool.injEq, EV.tuple.injEq, EV.slice.injEq, List.cons.injEq, true_and, and_true]); first | rfl | omega)))))); (try simp only []))
            exact ⟨by omega, fun _ => by rw [e1]; simp; omega, fun j hj => hR j hq hj⟩
        · rw [← hA] at ic
          generalize prA (tokAt ts i) = pA at ic e1 hb2 hpp
          have hp' : 0 < out.length + 1 + (pA).length := by omega
          have hq' : 0 < (bytesE out ++ [EV.int IntKind.u8 32] ++ bytesE pA).length := by rw [List.length_append, List.length_append, bytesE_length]; omega
          repeat' (first
            | refine esem_seqK 144150441302295101 ?_
            | refine esem_block ?_
            | (refine stp ?_; simp only [go_sem, hua, EV.one, f0, f2, f3, w1, w2])
            | (refine Pure.at (mc) (by simp) (by simp) rfl ?_; (try simp only [go_sem, hua, EV.one, f0, f2, f3, w1, w2]))
            | (refine Pure.at (ic) (by simp) (by simp) rfl ?_; (try simp only [go_sem, hua, EV.one, f0, f2, f3, w1, w2]))
            | (refine Pure.at (qc) (by simp) (by simp) rfl ?_; (try simp only [go_sem, hua, EV.one, f0, f2, f3, w1, w2]))
            | (simp (disch := omega) only [wrap64E, wrapU8E, wrapU16E, wrapU32E, wrapU64E, wrapI32E, tdivE, tmodE])
            | (refine spl (fun h => ?_) (fun h => ?_) <;> first | (exfalso; omega) | ((try simp only [opRun, opSkip, stepRun, pickZ]); (try simp only [go_sem, hua, EV.one, f0, f2, f3, w1, w2, h])))
            | (refine and_om ?_ ?_; focus omega))
          all_goals
            (refine ⟨(i + 1, b + 3), ?_, ?_, rfl, rfl, ?_, ?_⟩; rotate_left; (focus (first | omega | (simp only []; omega))); (focus (first | (simp only [go_sem, weakL, e1, List.length_append, bytesE_append, wb, List.length_cons, List.length_nil, Nat.zero_add, accE_pos hp', accB_pos hq']; done) | ((try simp only [go_sem, weakL, e1, List.length_append, bytesE_append, wb, List.length_cons, List.length_nil, Nat.zero_add, accE_pos hp', accB_pos hq']); ((repeat' apply And.intro) <;> (first | rfl | trivial | ((try simp only [EV.int.injEq, EV.str.injEq, EV.bool.injEq, EV.tuple.injEq, EV.slice.injEq, List.cons.injEq, true_and, and_true]); first | rfl | omega)))))); (focus (first | trivial | (simp only [go_sem, lessL, e1, List.length_append, bytesE_append, wb, List.length_cons, List.length_nil, Nat.zero_add, accE_pos hp', accB_pos hq']; done) | ((try simp only [go_sem, lessL, e1, List.length_append, bytesE_append, wb, List.length_cons, List.length_nil, Nat.zero_add, accE_pos hp', accB_pos hq']); ((repeat' apply And.intro) <;> (first | rfl | trivial | ((try simp only [EV.int.injEq, EV.str.injEq, EV.bool.injEq, EV.tuple.injEq, EV.slice.injEq, List.cons.injEq, true_and, and_true]); first | rfl | omega)))))); (try simp only []))
            exact ⟨by omega, fun _ => by rw [e1]; simp; omega, fun j hj => hR j hq hj⟩
        · rw [← hA] at qc
          generalize prA (tokAt ts i) = pA at qc e1 hb2 hpp
          have hp' : 0 < out.length + 1 + (pA).length := by omega
          have hq' : 0 < (bytesE out ++ [EV.int IntKind.u8 32] ++ bytesE pA).length := by rw [List.length_append, List.length_append, bytesE_length]; omega
          repeat' (first
            | refine esem_seqK 144150441302295101 ?_
            | refine esem_block ?_
            | (refine stp ?_; simp only [go_sem, hua, EV.one, f0, f2, f3, w1, w2])
            | (refine Pure.at (mc) (by simp) (by simp) rfl ?_; (try simp only [go_sem, hua, EV.one, f0, f2, f3, w1, w2]))
            | (refine Pure.at (ic) (by simp) (by simp) rfl ?_; (try simp only [go_sem, hua, EV.one, f0, f2, f3, w1, w2]))
            | (refine Pure.at (qc) (by simp) (by simp) rfl ?_; (try simp only [go_sem, hua, EV.one, f0, f2, f3, w1, w2]))
            | (simp (disch := omega) only [wrap64E, wrapU8E, wrapU16E, wrapU32E, wrapU64E, wrapI32E, tdivE, tmodE])
            | (refine spl (fun h => ?_) (fun h => ?_) <;> first | (exfalso; omega) | ((try simp only [opRun, opSkip, stepRun, pickZ]); (try simp only [go_sem, hua, EV.one, f0, f2, f3, w1, w2, h])))
            | (refine and_om ?_ ?_; focus omega))
          all_goals
            (refine ⟨(i + 1, b + 3), ?_, ?_, rfl, rfl, ?_, ?_⟩; rotate_left; (focus (first | omega | (simp only []; omega))); (focus (first | (simp only [go_sem, weakL, e1, List.length_append, bytesE_append, wb, List.length_cons, List.length_nil, Nat.zero_add, accE_pos hp', accB_pos hq']; done) | ((try simp only [go_sem, weakL, e1, List.length_append, bytesE_append, wb, List.length_cons, List.length_nil, Nat.zero_add, accE_pos hp', accB_pos hq']); ((repeat' apply And.intro) <;> (first | rfl | trivial | ((try simp only [EV.int.injEq, EV.str.injEq, EV.bool.injEq, EV.tuple.injEq, EV.slice.injEq, List.cons.injEq, true_and, and_true]); first | rfl | omega)))))); (focus (first | trivial | (simp only [go_sem, lessL, e1, List.length_append, bytesE_append, wb, List.length_cons, List.length_nil, Nat.zero_add, accE_pos hp', accB_pos hq']; done) | ((try simp only [go_sem, lessL, e1, List.length_append, bytesE_append, wb, List.length_cons, List.length_nil, Nat.zero_add, accE_pos hp', accB_pos hq']); ((repeat' apply And.intro) <;> (first | rfl | trivial | ((try simp only [EV.int.injEq, EV.str.injEq, EV.bool.injEq, EV.tuple.injEq, EV.slice.injEq, List.cons.injEq, true_and, and_true]); first | rfl | omega)))))); (try simp only []))
            exact ⟨by omega, fun _ => by rw [e1]; simp; omega, fun j hj => hR j hq hj⟩
  · obtain rfl : i = ts.length := by omega
    specialize z2 (by omega)
    rw [accE_pos z2, accB_pos (by rw [bytesE_length]; exact z2)]
    rw [printL_ok z3, ← outL_all]
    generalize outL ts ts.length = out at z2
    by_cases hL : 16384 < out.length
    · rw [if_pos hL]
      repeat' (first
        | refine esem_seqK 144150441302295101 ?_
        | refine esem_block ?_
        | (refine stp ?_; simp only [go_sem])
        | (simp (disch := omega) only [wrap64E, wrapU8E, wrapU16E, wrapU32E, wrapU64E, wrapI32E, tdivE, tmodE])
        | (refine spl (fun h => ?_) (fun h => ?_) <;> first | (exfalso; omega) | ((try simp only [opRun, opSkip, stepRun, pickZ]); (try simp only [go_sem, h])))
        | (refine and_om ?_ ?_; focus omega))
      all_goals exact done_eff [] (by simp) (by simp) (by simp) (by simp) (by simp) (by simp) rfl (by simp [List.map_append]) (by simp [bytesE_cons, bytesE_nil])
    · rw [if_neg hL]
      repeat' (first
        | refine esem_seqK 144150441302295101 ?_
        | refine esem_block ?_
        | (refine stp ?_; simp only [go_sem])
        | (simp (disch := omega) only [wrap64E, wrapU8E, wrapU16E, wrapU32E, wrapU64E, wrapI32E, tdivE, tmodE])
        | (refine spl (fun h => ?_) (fun h => ?_) <;> first | (exfalso; omega) | ((try simp only [opRun, opSkip, stepRun, pickZ]); (try simp only [go_sem, h])))
        | (refine and_om ?_ ?_; focus omega))
      all_goals exact done_eff [] (by simp) (by simp) (by simp) (by simp) (by simp) (by simp) rfl (by simp [List.map_append]) (by simp [bytesE_cons, bytesE_nil])
end Go.Proofs.YtnjbdcdjcfhooaaGreatDoor
namespace Go.Proofs.YtnjbdcdjcfhooaaGreatDoor
open Go.E Go.ChangeShapes Go.WideShapes Go.ChangeAt Go.RowKit
set_option linter.all false
set_option maxRecDepth 20000
set_option maxHeartbeats 8000000
def tkL (c : Cmd) (k i : Nat) : List Tok := ⟨1, 0, wordOf k, 0⟩ :: ((argsOf k).take i).map (argT c)
theorem tkL_len (c : Cmd) {k i : Nat} (h : i ≤ (argsOf k).length) : (tkL c k i).length = i + 1 := by simp [tkL]; omega
theorem tkL_step (c : Cmd) {k i : Nat} (h : i < (argsOf k).length) : tkL c k (i + 1) = tkL c k i ++ [argT c ((argsOf k).getD i 0)] := by
  unfold tkL
  rw [List.take_succ, List.getElem?_eq_getElem h, List.getD_eq_getElem?_getD, List.getElem?_eq_getElem h, List.map_append]
  rfl
theorem args_four : ∀ k, k ≤ 22 → (argsOf k).length ≤ 4 := fun k hk => (by decide : ∀ i : Fin 23, (argsOf i.1).length ≤ 4) ⟨k, by omega⟩
theorem toks_nums {c : Cmd} (hc : cOK c) : ∀ t ∈ toksOf c, t.num ≤ 9223372036854775807 := by
  obtain ⟨i1, g1, f1, t1, -, -⟩ := hc
  have hs : ∀ ws n, n ≤ 9223372036854775807 → (shownT ws n).num ≤ 9223372036854775807 := fun ws n h => by
    unfold shownT numT
    split
    · simp
    · simp only; omega
  intro t ht
  unfold toksOf at ht
  rw [List.mem_cons] at ht
  rcases ht with rfl | ht
  · simp
  · obtain ⟨a, ha, rfl⟩ := List.mem_map.1 ht
    unfold argT
    repeat' split
    · simp [nameT]
    · simp [nameT]
    · simp
    · simp only [numT]; omega
    · simp only [numT]; omega
    · simp only [numT]; omega
    · exact hs _ _ (by omega)
    · exact hs _ _ (by omega)
theorem okC_kind {c : Cmd} (hc : cOK c) : okC c ↔ kindB c = true ∧ 0 ≤ c.frm ∧ 0 ≤ c.to := by
  obtain ⟨i1, g1, f1, t1, -, -⟩ := hc
  unfold okC kindB rOK
  rw [decide_eq_true_eq]
  constructor
  · rintro ⟨a, b, -, -, ⟨d, -⟩, e, -⟩
    exact ⟨⟨a, b⟩, d, e⟩
  · rintro ⟨⟨a, b⟩, d, e⟩
    exact ⟨a, b, i1, g1, ⟨d, f1.2⟩, e, t1.2⟩
theorem rprintP_c (G : List Gl) (tz tp : TypeId) (v : List Value) (hv : v[15]? = some (.int .u8 4)) (hG : gTz v tz ∈ G) (hp : gPow tp ∈ G) (c : Cmd) (hc : cOK c) : E.Pure G Tryz.prog 15 [.agg (cmdE c)] (.tuple [.str (printP c).1, .int .i64 (printP c).2]) := by
  refine pure_hid fun V hV => ?_
  have kc := kind_c G c
  have ok := okC_kind hc
  have fo := rforms_c G
  by_cases hk : okC c
  · obtain ⟨k1, k2, k3⟩ := ok.1 hk
    rw [k1] at kc
    have hkr := hk.1
    obtain ⟨k, hkk⟩ : ∃ k : Nat, c.kind = k := ⟨c.kind.toNat, by omega⟩
    obtain ⟨ck, d, id, fr, to, tx, g⟩ := c
    simp only at hkk
    subst hkk
    simp only at hkr k2 k3
    have hrl : refL.length = 23 := rfl
    have hrle : k * 2 + 2 ≤ (rowsE refL).length := by rw [rowsE_length, hrl]; omega
    have rg := rows_get (r := refL) (i := k) (by omega)
    have rd : ((rowsE refL).drop (k * 2)).take 2 = [.str (wordOf k), .str (argsOf k)] := by
      obtain ⟨g0, g1⟩ := rg
      obtain ⟨h0, h0'⟩ := List.getElem?_eq_some_iff.1 g0
      obtain ⟨h1, h1'⟩ := List.getElem?_eq_some_iff.1 g1
      rw [List.drop_eq_getElem_cons h0, List.drop_eq_getElem_cons h1, h0', h1']; rfl
    let c0 : Cmd := ⟨k, d, id, fr, to, tx, g⟩
    have hkr2 : rOK c0 := hk.2.2
    have hc5 : d.length ≤ 1000000000000 := hc.2.2.2.2.1
    have hc6 : tx.length ≤ 1000000000000 := hc.2.2.2.2.2
    have hlet : ∀ i, i < (argsOf k).length → letter ((argsOf k).getD i 0) := fun i h => by
      have hL := letters_of k (by omega) ((argsOf k).getD i 0)
      rw [List.getD_eq_getElem?_getD, List.getElem?_eq_getElem h] at hL ⊢
      exact hL (List.getElem_mem h)
    refine ecalls_in 57 [.tmp 2, .tmp 3] Tryz.func15 rfl rfl rfl (by kernel_rfl) (le_ble rfl) ?_
    repeat' (first
      | refine esem_seqK 8804683481215 ?_
      | refine esem_block ?_
      | (refine stp ?_; simp only [go_sem, rd, EV.one])
      | (refine drawQ (id := 3) mixed [(1, []), (2, []), (0, [2]), (3, []), (4, []), (5, []), (6, [])] (by kernel_rfl) ?_; simp only [go_sem, rd, EV.one])
      | (refine drawQ (id := 9) mixed [(0, []), (2, []), (4, []), (1, []), (3, []), (5, []), (6, []), (7, []), (8, []), (9, [])] (by kernel_rfl) ?_; simp only [go_sem, rd, EV.one])
      | (refine Pure.at (kc) (by simp) (by simp) rfl ?_; (try simp only [go_sem, rd, EV.one]))
      | (refine Eff.at2 (fo ) [] rfl (by first | (simp; done) | (simp; omega) | (simp [bytesE_cons, bytesE_nil]; done) | omega) rfl ?_; (try simp only [go_sem, rd, EV.one]))
      | (simp (disch := omega) only [wrap64E, wrapU8E, wrapU16E, wrapU32E, wrapU64E, wrapI32E, tdivE, tmodE])
      | (refine spl (fun h => ?_) (fun h => ?_) <;> first | (exfalso; omega) | ((try simp only [opRun, opSkip, stepRun, pickZ]); (try simp only [go_sem, rd, EV.one, h])))
      | (refine and_om ?_ ?_; focus omega))
    have hz0 : toksE (tkL c0 k 0) = [.int .i64 1, .int .i64 0, .str (wordOf k), .int .i64 0] := rfl
    refine esem_loopS (fun z : Nat × Nat × Nat => [(1, .ptr (some ⟨0, 0⟩)), (4, .ptr (some ⟨6, 0⟩)), (5, .slice (some ⟨z.2.1 + 9, 0⟩) (z.1 + 1) (z.1 + 1)), (6, .int .i64 z.1)]) (fun z => [(z.2.1 + 9, .cells (toksE (tkL c0 k z.1)) 72 z.2.2 true 0), (6, .cells [.str (wordOf k), .str (argsOf k)] 89 0 true 0), (0, .cells (cmdE c0) 24 0 true 0)]) (fun z => z.2.1 + 10) (fun z => z.1 ≤ (argsOf k).length ∧ (k = 22 ∧ d = [] → z.1 = 0) ∧ (z.2.2 = 0 ∨ z.2.2 = 4)) (fun z => (argsOf k).length - z.1) ((0 : Nat), (0 : Nat), (0 : Nat))
      (fun z hz => ⟨by simp [frBel, EV.bel, allBelow], by simp [blBelow, EO.bel, EV.bel, allBelow, c0], by omega⟩) ⟨Nat.zero_le _, fun _ => rfl, .inl rfl⟩ (by simp only [go_sem, weakL]) (by simp only [go_sem, lessL, hz0, c0]) ?_
    rintro ⟨i, b, cz⟩ ⟨z1, z2, z3⟩
    simp only at z1 z2 z3
    simp only []
    have hall : ∀ j, tkL c0 k j = toksOf c0 → j ≤ (argsOf k).length → Eff G Tryz.prog 35 [.slice (some ⟨0, 0⟩) (j + 1) (j + 1)] [(0, .cells (toksE (tkL c0 k j)) 72 cz true 0)] 1 (.tuple [.str (printP c0).1, .int .i64 (printP c0).2]) [] 1 := fun j hj hl => by
      have h5 : (toksOf c0).length ≤ 5 := toks_len5 (c := c0) hkr.2
      have hle := tkL_len c0 hl
      rw [hj] at hle ⊢
      have := rprint_c G tz tp v hv hG hp (toksOf c0) (j + 1) cz hle (by omega) (by omega) fun t ht => ⟨toks_text hc t ht, toks_nums hc t ht⟩
      rwa [← printP_ok hk] at this
    have q6 : 6 < b + 10 := by omega
    have q9 : ¬ b + 9 = 6 := by omega
    by_cases hbk : k = 22 ∧ d = []
    · obtain rfl := z2 hbk
      obtain ⟨rfl, rfl⟩ := hbk
      have h1 := hall 0 (by simp [tkL, toksOf, argL, c0]) (Nat.zero_le _)
      have hl1 : (argsOf 22).length = 1 := by decide
      have e1 : c0.kind = 22 := rfl
      have e2 : c0.doc = [] := rfl
      repeat' (first
        | refine esem_seqK 8804683481215 ?_
        | refine esem_block ?_
        | (refine stp ?_; simp only [go_sem, hl1, EV.one, if_pos q6, q6, q9, e1, e2])
        | (refine drawQ (id := 3) mixed [(1, []), (2, []), (0, [2]), (3, []), (4, []), (5, []), (6, [])] (by kernel_rfl) ?_; simp only [go_sem, hl1, EV.one, if_pos q6, q6, q9, e1, e2])
        | (refine drawQ (id := 9) mixed [(0, []), (2, []), (4, []), (1, []), (3, []), (5, []), (6, []), (7, []), (8, []), (9, [])] (by kernel_rfl) ?_; simp only [go_sem, hl1, EV.one, if_pos q6, q6, q9, e1, e2])
        | (refine Eff.at2 (h1 ) [b + 9] rfl (by first | (simp; done) | (simp; omega) | (simp [bytesE_cons, bytesE_nil]; done) | omega) rfl ?_; (try simp only [go_sem, hl1, EV.one, if_pos q6, q6, q9, e1, e2]))
        | (simp (disch := omega) only [wrap64E, wrapU8E, wrapU16E, wrapU32E, wrapU64E, wrapI32E, tdivE, tmodE])
        | (refine spl (fun h => ?_) (fun h => ?_) <;> first | (exfalso; omega) | ((try simp only [opRun, opSkip, stepRun, pickZ]); (try simp only [go_sem, hl1, EV.one, if_pos q6, q6, q9, e1, e2, h])))
        | (refine and_om ?_ ?_; focus omega))
      all_goals ((refine done_zero (by simp [EV.bel, allBelow]) ?_; rw [hV]); try rfl)
    · by_cases hi : i < (argsOf k).length
      · have tc := token_c G c0 hkr2 hc5 hc6 ((argsOf k).getD i 0) (hlet i hi)
        have hlen := tkL_len c0 z1
        have h4 : (argsOf k).length ≤ 4 := args_four k (by omega)
        have hst := tkL_step c0 hi
        have htk : List.take ((i + 1) * 4) (toksE (tkL c0 k i)) = toksE (tkL c0 k i) := List.take_of_length_le (by rw [toksE_length, hlen]; exact Nat.le_refl _)
        have hto : toksE (tkL c0 k (i + 1)) = toksE (tkL c0 k i) ++ tkE (argT c0 ((argsOf k).getD i 0)) := by rw [hst, toksE_append, toksE_one]; rfl
        repeat' (first
          | (exfalso; exact hbk ⟨Int.ofNat_inj.1 (by assumption), by assumption⟩)
          | refine esem_seqK 8804683481215 ?_
          | refine esem_block ?_
          | (refine stp ?_; simp only [go_sem, EV.one, if_pos q6, q6, q9, hlen, htk])
          | (refine drawQ (id := 3) mixed [(1, []), (2, []), (0, [2]), (3, []), (4, []), (5, []), (6, [])] (by kernel_rfl) ?_; simp only [go_sem, EV.one, if_pos q6, q6, q9, hlen, htk])
          | (refine drawQ (id := 9) mixed [(0, []), (2, []), (4, []), (1, []), (3, []), (5, []), (6, []), (7, []), (8, []), (9, [])] (by kernel_rfl) ?_; simp only [go_sem, EV.one, if_pos q6, q6, q9, hlen, htk])
          | (refine Pure.at (tc) (by simp) (by simp) rfl ?_; (try simp only [go_sem, EV.one, if_pos q6, q6, q9, hlen, htk]))
          | (simp (disch := omega) only [wrap64E, wrapU8E, wrapU16E, wrapU32E, wrapU64E, wrapI32E, tdivE, tmodE])
          | (refine spl (fun h => ?_) (fun h => ?_) <;> first | (exfalso; omega) | ((try simp only [opRun, opSkip, stepRun, pickZ]); (try simp only [go_sem, EV.one, if_pos q6, q6, q9, hlen, htk, h])))
          | (refine and_om ?_ ?_; focus omega))
        all_goals
          (refine ⟨(i + 1, b + 11, 4), ?_, ?_, rfl, rfl, ?_, ?_⟩; rotate_left; (focus (first | omega | (simp only []; omega))); (focus (first | (simp only [go_sem, weakL, hto]; done) | ((try simp only [go_sem, weakL, hto]); ((repeat' apply And.intro) <;> (first | rfl | trivial | ((try simp only [EV.int.injEq, EV.str.injEq, EV.bool.injEq, EV.tuple.injEq, EV.slice.injEq, List.cons.injEq, true_and, and_true]); first | rfl | omega)))))); (focus (first | trivial | (simp only [go_sem, lessL, hto]; done) | ((try simp only [go_sem, lessL, hto]); ((repeat' apply And.intro) <;> (first | rfl | trivial | ((try simp only [EV.int.injEq, EV.str.injEq, EV.bool.injEq, EV.tuple.injEq, EV.slice.injEq, List.cons.injEq, true_and, and_true]); first | rfl | omega)))))); (try simp only []))
          exact ⟨by omega, fun h => absurd h hbk, by simp⟩
      · have h1 := hall i (by have : i = (argsOf k).length := by omega
                              subst this
                              have e : argL c0 = argsOf k := by
                                unfold argL
                                rw [if_neg (fun h => hbk ⟨Int.ofNat_inj.1 h.1, h.2⟩)]; rfl
                              unfold tkL toksOf
                              rw [e, List.take_length]; rfl) (by omega)
        repeat' (first
          | refine esem_seqK 8804683481215 ?_
          | refine esem_block ?_
          | (refine stp ?_; simp only [go_sem, EV.one, if_pos q6, q6, q9])
          | (refine drawQ (id := 3) mixed [(1, []), (2, []), (0, [2]), (3, []), (4, []), (5, []), (6, [])] (by kernel_rfl) ?_; simp only [go_sem, EV.one, if_pos q6, q6, q9])
          | (refine drawQ (id := 9) mixed [(0, []), (2, []), (4, []), (1, []), (3, []), (5, []), (6, []), (7, []), (8, []), (9, [])] (by kernel_rfl) ?_; simp only [go_sem, EV.one, if_pos q6, q6, q9])
          | (refine Eff.at2 (h1 ) [b + 9] rfl (by first | (simp; done) | (simp; omega) | (simp [bytesE_cons, bytesE_nil]; done) | omega) rfl ?_; (try simp only [go_sem, EV.one, if_pos q6, q6, q9]))
          | (simp (disch := omega) only [wrap64E, wrapU8E, wrapU16E, wrapU32E, wrapU64E, wrapI32E, tdivE, tmodE])
          | (refine spl (fun h => ?_) (fun h => ?_) <;> first | (exfalso; omega) | ((try simp only [opRun, opSkip, stepRun, pickZ]); (try simp only [go_sem, EV.one, if_pos q6, q6, q9, h])))
          | (refine and_om ?_ ?_; focus omega))
        all_goals ((refine done_zero (by simp [EV.bel, allBelow]) ?_; rw [hV]); try rfl)
  · have hpr : printP c = ([], 260) := by unfold printP; rw [if_neg hk]
    rw [hpr] at hV
    rw [ok] at hk
    cases hkb : kindB c with
    | false =>
      rw [hkb] at kc
      refine ecalls_in 57 [.tmp 2, .tmp 3] Tryz.func15 rfl rfl rfl (by kernel_rfl) (le_ble rfl) ?_
      repeat' (first
        | refine esem_seqK 8804683481215 ?_
        | refine esem_block ?_
        | (refine stp ?_; simp only [go_sem])
        | (refine drawQ (id := 3) mixed [(1, []), (2, []), (0, [2]), (3, []), (4, []), (5, []), (6, [])] (by kernel_rfl) ?_; simp only [go_sem])
        | (refine drawQ (id := 9) mixed [(0, []), (2, []), (4, []), (1, []), (3, []), (5, []), (6, []), (7, []), (8, []), (9, [])] (by kernel_rfl) ?_; simp only [go_sem])
        | (refine Pure.at (kc) (by simp) (by simp) rfl ?_; (try simp only [go_sem]))
        | (simp (disch := omega) only [wrap64E, wrapU8E, wrapU16E, wrapU32E, wrapU64E, wrapI32E, tdivE, tmodE])
        | (refine spl (fun h => ?_) (fun h => ?_) <;> first | (exfalso; omega) | ((try simp only [opRun, opSkip, stepRun, pickZ]); (try simp only [go_sem, h])))
        | (refine and_om ?_ ?_; focus omega))
      all_goals ((refine done_zero (by simp [EV.bel, allBelow]) ?_; rw [hV]); try rfl)
    | true =>
      rw [hkb] at kc hk
      refine ecalls_in 57 [.tmp 2, .tmp 3] Tryz.func15 rfl rfl rfl (by kernel_rfl) (le_ble rfl) ?_
      repeat' (first
        | refine esem_seqK 8804683481215 ?_
        | refine esem_block ?_
        | (refine stp ?_; simp only [go_sem])
        | (refine drawQ (id := 3) mixed [(1, []), (2, []), (0, [2]), (3, []), (4, []), (5, []), (6, [])] (by kernel_rfl) ?_; simp only [go_sem])
        | (refine drawQ (id := 9) mixed [(0, []), (2, []), (4, []), (1, []), (3, []), (5, []), (6, []), (7, []), (8, []), (9, [])] (by kernel_rfl) ?_; simp only [go_sem])
        | (refine Pure.at (kc) (by simp) (by simp) rfl ?_; (try simp only [go_sem]))
        | (simp (disch := omega) only [wrap64E, wrapU8E, wrapU16E, wrapU32E, wrapU64E, wrapI32E, tdivE, tmodE])
        | (refine spl (fun h => ?_) (fun h => ?_) <;> first | (exfalso; omega) | ((try simp only [opRun, opSkip, stepRun, pickZ]); (try simp only [go_sem, h])))
        | (refine and_om ?_ ?_; focus omega))
      all_goals first | ((refine done_zero (by simp [EV.bel, allBelow]) ?_; rw [hV]); rfl) | (exfalso; exact hk ⟨rfl, by omega, by omega⟩)
end Go.Proofs.YtnjbdcdjcfhooaaGreatDoor
namespace Go.Proofs.YtnjbdcdjcfhooaaGreatDoor
open Go.E Go.ChangeShapes Go.WideShapes Go.ChangeAt Go.RowKit
set_option linter.all false
set_option maxRecDepth 100000
set_option maxHeartbeats 8000000
theorem prints_law (G : List Gl) (te t u tz tp : TypeId) (v : List Value) (hGe : gErr te ∈ G) (h3 : gFirst t ∈ G) (h4 : gAcc u ∈ G) (hv : v[15]? = some (.int .u8 4)) (hG : gTz v tz ∈ G) (hp : gPow tp ∈ G) (c : Cmd) (hc : cOK c) :
    E.Pure G Tryz.prog 4 [.agg (cmdE c)] (.bool true) := by
  refine pure_hid fun V hV => ?_
  have p1 := print_c G t u tz tp v h3 h4 hv hG hp c hc
  have p2 := rprintP_c G tz tp v hv hG hp c hc
  have aw := awake_c G te t u tz tp v hGe h3 h4 hv hG hp
  generalize printP c = r at p1 p2
  obtain ⟨l, e⟩ := r
  simp only at p1 p2
  refine ecalls_in 28 [.tmp 2] Tryz.func4 rfl rfl rfl (by kernel_rfl) (le_ble rfl) ?_
  repeat' (first
    | refine esem_seqK 127 ?_
    | refine esem_block ?_
    | (refine stp ?_; simp only [go_sem])
    | (refine Pure.at (p1) (by simp) (by simp) rfl ?_; (try simp only [go_sem]))
    | (refine Pure.at (p2) (by simp) (by simp) rfl ?_; (try simp only [go_sem]))
    | (refine Pure.at (aw) (by simp) (by simp) rfl ?_; (try simp only [go_sem]))
    | (simp (disch := omega) only [wrap64E, wrapU8E, wrapU16E, wrapU32E, wrapU64E, wrapI32E, tdivE, tmodE])
    | (refine spl (fun h => ?_) (fun h => ?_) <;> first | (exfalso; omega) | ((try simp only [opRun, opSkip, stepRun, pickZ]); (try simp only [go_sem, h])))
    | (refine and_om ?_ ?_; focus omega))
  all_goals (refine done_zero (by simp [EV.bel, allBelow]) ?_; rw [hV])
theorem commandPrints_calls (k i f t g : Int) (a b : ByteArray) (hc : cOK ⟨k, a.data.toList, i, f, t, b.data.toList, g⟩) (w : World) (hL : laidMetH Tryz.prog laidL w) :
    Calls Tryz.prog 4 #[.agg #[.int .i64 k, .string a, .int .u32 i, .int .i64 f, .int .i64 t, .string b, .int .u8 g]] w fun e w' => e = .returned (.bool true) ∧ Below w.heap.size w w' := by
  obtain ⟨te, tu, u, tz, tp, hg⟩ := glob_of_laid hL
  refine ((prints_law [gErr te, gFirst tu, gAcc u, gTz tzV tz, gPow tp] te tu u tz tp tzV (by simp) (by simp) (by simp) tz15 (by simp) (by simp) _ hc).toCalls Tryz.func4 rfl (by kernel_rfl) (VRs.cons (cmd_vr ..) VRs.nil) w hg).mono ?_
  rintro e w' ⟨y, s', ρ', hr, hb, rfl, rfl⟩
  obtain ⟨v', rfl, hv⟩ := hr
  rw [VR] at hv
  exact ⟨by rw [hv], hb⟩
theorem commandPrints_lifted (os : Os) (started : os.Started) (H : Type) (enc : TypeId × Value → H) (F : Stop.Interp) :
    ReturnsInHanded {} Tryz.checked os 4 .any ((Rows.OpenSpec.upto Rows.commandPrintsSpec).preRow enc Tryz.prog Tryz.f4 Rows.commandPrintsUptoRow.domain false Rows.commandPrintsUptoRow.laid) (((Rows.OpenSpec.upto Rows.commandPrintsSpec).at F).post enc Tryz.prog Tryz.f4 false true false false) := by
  have hx : DataW.whole enc Tryz.prog ((witW os).forCall (fun _ _ => 0) ⟨#[], #[cmdWit], []⟩).memory Tryz.f4.params.toList Rows.commandPrintsSpec.vars false #[cmdWit].toList 8 =
      some ([.agg [.lit (.int .i64 0), .lit (.string []), .lit (.int .u32 0), .lit (.int .i64 0), .lit (.int .i64 0), .lit (.string []), .lit (.int .u8 0)]], [], []) := by kernel_rfl
  have hok : Input.okWideB Tryz.prog ((witW os).forCall (fun _ _ => 0) ⟨#[], #[cmdWit], []⟩) 4 ⟨#[], #[cmdWit], []⟩ = true := by kernel_rfl
  refine returnsInHanded_of_row (C := Tryz.checked) (s := Rows.OpenSpec.upto Rows.commandPrintsSpec) own started (by kernel_rfl) Tryz.func4
    ⟨witW os, fun _ _ => 0, ⟨#[], #[cmdWit], []⟩, witW_os os, World.shaped_of_ZipB (by kernel_rfl) (by kernel_rfl), rfl, (Input.okWide_of_okWideB hok).2,
      OpenSpec.preRow_of_cond 8 hx (by kernel_rfl) (fun k hk => by cases hk; kernel_rfl) (by kernel_rfl) (witW_met os _), by
        simp only [Assume.holds]
        exact ⟨by simp, by simp, fun h => by simp at h, by simp, by simp⟩⟩ ?_
  intro W base args ds gs before hval0 hW _ hcond _ hL _ _
  have hval : ∀ (j : Nat) t v, Tryz.f4.params[j]? = some t → args[j]? = some v → Value.okWide Tryz.prog W .any base t v := hval0
  have hW' := hW
  obtain ⟨p, q, hA0, hV, rfl, hfz, hnd⟩ := hW
  have hA : DataW.TrodAll enc Tryz.prog W 0 (fun _ => true) true Tryz.f4.params.toList args.toList ds p := hA0
  rw [Tryz.params4] at hA hval
  have hstay := hA
  obtain ⟨v0, vs0, d0, ds0, p0, q0, hargs, rfl, rfl, h0, r0⟩ := trodAll_cons hA
  obtain ⟨rfl, rfl, rfl⟩ := trodAll_nil r0
  obtain rfl : args = #[v0] := by cases args; simp_all
  obtain ⟨rfl, rfl⟩ := trodVars_none hV
  have hb := of_decide_eq_true (hcond _ rfl)
  simp only [List.append_nil, Rows.uptoBulkAll] at hb
  obtain ⟨k, i, f, t, g, a, b, rfl, b1, b2, b3, b4, b5, b6⟩ := cmdIn (hval 0 24 v0 rfl rfl) h0
  refine (commandPrints_calls k i f t g a b (cmd_ok b1 b2 b3 b4 (by omega) (by omega)) W hL).mono fun e W' ⟨he, bel⟩ => ?_
  subst he
  exact ⟨_, rfl, _, _, _, [], _, [], hW', trodAll_mk1 (shut_bool Tryz.underlying4 _), args_stay laidOut bel hstay (by intro t ht; simp at ht; subst ht; exact ⟨by kernel_rfl, of_decide_eq_true (by kernel_rfl)⟩), rfl, bel.frame _, fun h => by cases h⟩
theorem commandPrints_over : Rows.commandPrintsUptoRow.holds Tryz.pinned (Rows.OpenSpec.upto Rows.commandPrintsSpec) :=
  OpenClaim.holds_of_cond 4 Tryz.f4 rfl rfl rfl rfl rfl rfl rfl ⟨rfl, rfl, rfl, rfl, rfl⟩ rfl rfl rfl rfl rfl (by kernel_rfl) Tryz.func4 (by kernel_rfl)
    (of_decide_eq_true (by kernel_rfl)) (by unfold Func.isWrapper; first | (rw [if_pos (by decide +kernel)]; kernel_rfl) | (rw [if_neg (by decide +kernel)]; exact ⟨rfl, rfl⟩))
    (fun os started H enc _ F => by rw [OpenClaim.pre_eq_preRow]; exact commandPrints_lifted os started H enc F)
theorem commandPrintsUpto_card : Rows.CommandPrintsUptoCardSaid :=
  Claim7.holds_tied_plain_at .later [] _ _ _ _ commandPrints_over (fun _ h => by cases h) (by kernel_rfl) (fun _ h => by cases h) commandPrintsUpto_row_tie rfl ⟨rfl, rfl⟩ (by kernel_rfl) rfl
    (fun f fn hf hfn => by
      obtain rfl : f = 4 := Option.some.inj ((show Tryz.prog.funcNamed "vellum/vellumlaw26.CommandPrints" = some 4 by kernel_rfl).symm.trans hf) |>.symm
      obtain rfl : fn = Tryz.f4 := (Option.some.inj (Tryz.func4.symm.trans hfn)).symm
      exact ⟨by kernel_rfl, fun j t ht => by
        rw [Tryz.params4] at ht
        have hm : t ∈ [24] := by simpa using Array.mem_of_getElem? ht
        have hall : ([24].all fun u => !Tryz.prog.wantsStandIn u) = true := by kernel_rfl
        exact (show Tryz.prog.wantsStandIn t = false by simpa using List.all_eq_true.1 hall t hm)⟩)
    (by kernel_rfl)
end Go.Proofs.YtnjbdcdjcfhooaaGreatDoor
