/-
  Own work: walks and laws of the functions that the statement reaches; the statement itself stands in the last text.
-/
import Derived.Test.YtnjbdcdjcfhooaaGreatDoorHp
namespace Go.Proofs.YtnjbdcdjcfhooaaGreatDoor
open Go.E Go.ChangeShapes Go.WideShapes Go.ChangeAt Go.RowKit
set_option linter.all false
set_option maxRecDepth 20000
set_option maxHeartbeats 8000000
theorem putS_text {x : Cmd} {a : UInt8} {t : Tok} {B : Nat} (hx : x.doc.length ≤ B ∧ x.text.length ≤ B) (ht : t.text.length ≤ B) : (putS x a t).1.doc.length ≤ B ∧ (putS x a t).1.text.length ≤ B := by
  unfold putS
  repeat' split
  all_goals first | exact hx | exact ⟨ht, hx.2⟩ | exact ⟨hx.1, ht⟩
theorem putR_text (A : List UInt8) {ts : List Tok} {B : Nat} (hts : ∀ i, i < ts.length → (tokAt ts i).text.length ≤ B) : ∀ (n i : Nat) (x : Cmd), ts.length - i = n → x.doc.length ≤ B ∧ x.text.length ≤ B → (putR A ts i x).1.doc.length ≤ B ∧ (putR A ts i x).1.text.length ≤ B := by
  intro n
  induction n with
  | zero => intro i x hn hx; rw [putR_end (by omega)]; exact hx
  | succ n ih =>
    intro i x hn hx
    rw [putR_step (by omega)]
    split
    · exact hx
    · split
      · exact ih _ _ (by omega) (putS_text hx (hts i (by omega)))
      · exact hx
theorem rparse_text (l : List UInt8) : (rparseP l).1.doc.length ≤ 16384 ∧ (rparseP l).1.text.length ≤ 16384 := by
  have hz : zCmd.doc.length ≤ 16384 ∧ zCmd.text.length ≤ 16384 := ⟨Nat.zero_le _, Nat.zero_le _⟩
  have hts : ∀ i, i < (scanL l).1.length → (tokAt (scanL l).1 i).text.length ≤ 16384 := fun i h => scanL_text l _ (tokAt_mem h)
  unfold rparseP
  split
  · exact hz
  · split
    · exact hz
    · have key : (rparseT (scanL l).1 l.length).1.doc.length ≤ 16384 ∧ (rparseT (scanL l).1 l.length).1.text.length ≤ 16384 := by
        unfold rparseT
        split
        · exact hz
        · split
          · exact hz
          · split
            · exact hz
            · exact putR_text _ hts _ 1 _ rfl ⟨Nat.zero_le _, Nat.zero_le _⟩
      split
      · exact hz
      · exact key
theorem printP_bad (c : Cmd) : (printP c).2 ≠ 0 → (printP c).1 = [] := by
  unfold printP
  split
  · split
    · intro h; exact absurd rfl h
    · intro _; rfl
  · intro _; rfl
theorem printP_okc {d : Cmd} (h : okC d) : (printP d).2 = 0 ∨ printP d = ([], 4) := by
  unfold printP
  rw [if_pos h]
  split
  · exact .inl rfl
  · exact .inr rfl
theorem cmd_ne (c : Cmd) : EqS Tryz.prog .neq 24 (.agg (cmdE c)) (.agg (cmdE c)) false := cmd_neq c c true (by simp)
theorem back_law (G : List Gl) (te t u tz tp : TypeId) (v : List Value) (hGe : gErr te ∈ G) (h3 : gFirst t ∈ G) (h4 : gAcc u ∈ G) (hv : v[15]? = some (.int .u8 4)) (hG : gTz v tz ∈ G) (hp : gPow tp ∈ G) (c : Cmd) (hc : cOK c) (l : List UInt8) (hl : l.length ≤ 9223372036854775807) :
    E.Pure G Tryz.prog 6 [.agg (cmdE c), .str l] (.bool true) := by
  refine pure_hid fun V hV => ?_
  have aw := awake_c G te t u tz tp v hGe h3 h4 hv hG hp
  have q := print_c G t u tz tp v h3 h4 hv hG hp c hc
  have hq0 := printP_bad c
  have hqb := fun s (h : printP c = (s, 0)) => print_back h
  have hqs : (printP c).1.length ≤ 16384 := by unfold printP; split <;> (try split) <;> simp_all
  obtain ⟨z1, z2⟩ := rparse_zero l
  have pl := parse_c G t u h3 h4 l hl
  rw [parse_same] at pl
  have hd := rparse_text l
  have hok : ∀ d, rparseP l = (d, 0, 0) → okC d := fun d h => parse_print (scanL_ok l) h
  have hprint := fun (d : Cmd) (h : cOK d) => print_c G t u tz tp v h3 h4 hv hG hp d h
  have hparse := fun (s : List UInt8) (h : s.length ≤ 16384) => parse_c G t u h3 h4 s (by omega)
  have fn := fault_nil G
  generalize hr : rparseP l = r at z1 z2 pl hd hok
  obtain ⟨d, code, at_⟩ := r
  simp only at z1 z2 hd hok
  -- what the line's command comes to
  generalize hP : printP c = pc at q hq0 hqb hqs
  obtain ⟨s, e⟩ := pc
  simp only at q hq0 hqs
  by_cases he : e = 0
  · subst he
    have hb := hqb s rfl
    have ps := hparse s hqs
    rw [parse_same, hb] at ps
    simp only [parseV, parseB, parseN, if_true] at ps
    by_cases hcd : code = 0
    · subst hcd
      obtain rfl := z2 rfl
      have hokd := hok d rfl
      have hcd : cOK d := by
        obtain ⟨-, -, r1, r2, r3, r4⟩ := hokd
        exact ⟨r1, r2, ⟨by omega, r3.2⟩, ⟨by omega, r4.2⟩, by omega, by omega⟩
      have qd := hprint d hcd
      simp only [parseV, parseB, parseN, if_true] at pl
      rcases printP_okc hokd with h0 | h4'
      · have hbd := fun s (h : printP d = (s, 0)) => print_back h
        have hds : (printP d).1.length ≤ 16384 := by unfold printP; split <;> (try split) <;> simp_all
        generalize hPd : printP d = pd at qd h0 hbd hds
        obtain ⟨s2, e2⟩ := pd
        simp only at qd h0 hds
        subst h0
        have ps2 := hparse s2 hds
        rw [parse_same, hbd s2 rfl] at ps2
        simp only [parseV, parseB, parseN, if_true] at ps2
        refine ecalls_in 88 [.tmp 4] Tryz.func6 rfl rfl rfl (by kernel_rfl) (le_ble rfl) ?_
        repeat' (first
          | refine esem_seqK 590877900610560262135 ?_
          | refine esem_block ?_
          | (refine stp ?_; simp only [go_sem])
          | (refine Pure.at (aw) (by simp) (by simp) rfl ?_; (try simp only [go_sem]))
          | (refine Pure.at (q) (by simp) (by simp) rfl ?_; (try simp only [go_sem]))
          | (refine Eff.at2 (ps ) [] rfl (by first | (simp; done) | (simp; omega) | (simp [bytesE_cons, bytesE_nil]; done) | omega) rfl ?_; (try simp only [go_sem]))
          | (refine Pure.at (qd) (by simp) (by simp) rfl ?_; (try simp only [go_sem]))
          | (refine Eff.at2 (pl ) [] rfl (by first | (simp; done) | (simp; omega) | (simp [bytesE_cons, bytesE_nil]; done) | omega) rfl ?_; (try simp only [go_sem]))
          | (refine Eff.at2 (ps2 ) [] rfl (by first | (simp; done) | (simp; omega) | (simp [bytesE_cons, bytesE_nil]; done) | omega) rfl ?_; (try simp only [go_sem]))
          | (refine ⟨cmd_ne c, ?_⟩; try simp only [go_sem])
          | (refine ⟨cmd_eq d, ?_⟩; try simp only [go_sem])
          | (simp (disch := omega) only [wrap64E, wrapU8E, wrapU16E, wrapU32E, wrapU64E, wrapI32E, tdivE, tmodE])
          | (refine spl (fun h => ?_) (fun h => ?_) <;> first | (exfalso; omega) | ((try simp only [opRun, opSkip, stepRun, pickZ]); (try simp only [go_sem, h])))
          | (refine and_om ?_ ?_; focus omega))
        all_goals (refine done_zero (by simp [EV.bel, allBelow]) ?_; rw [hV])
      · rw [h4'] at qd
        simp only at qd
        refine ecalls_in 88 [.tmp 4] Tryz.func6 rfl rfl rfl (by kernel_rfl) (le_ble rfl) ?_
        repeat' (first
          | refine esem_seqK 590877900610560262135 ?_
          | refine esem_block ?_
          | (refine stp ?_; simp only [go_sem])
          | (refine Pure.at (aw) (by simp) (by simp) rfl ?_; (try simp only [go_sem]))
          | (refine Pure.at (q) (by simp) (by simp) rfl ?_; (try simp only [go_sem]))
          | (refine Eff.at2 (ps ) [] rfl (by first | (simp; done) | (simp; omega) | (simp [bytesE_cons, bytesE_nil]; done) | omega) rfl ?_; (try simp only [go_sem]))
          | (refine Pure.at (qd) (by simp) (by simp) rfl ?_; (try simp only [go_sem]))
          | (refine Eff.at2 (pl ) [] rfl (by first | (simp; done) | (simp; omega) | (simp [bytesE_cons, bytesE_nil]; done) | omega) rfl ?_; (try simp only [go_sem]))
          | (refine ⟨cmd_ne c, ?_⟩; try simp only [go_sem])
          | (simp (disch := omega) only [wrap64E, wrapU8E, wrapU16E, wrapU32E, wrapU64E, wrapI32E, tdivE, tmodE])
          | (refine spl (fun h => ?_) (fun h => ?_) <;> first | (exfalso; omega) | ((try simp only [opRun, opSkip, stepRun, pickZ]); (try simp only [go_sem, h])))
          | (refine and_om ?_ ?_; focus omega))
        all_goals (refine done_zero (by simp [EV.bel, allBelow]) ?_; rw [hV])
    · obtain rfl := z1 hcd
      simp only [parseV, parseB, parseN, if_neg hcd] at pl
      refine ecalls_in 88 [.tmp 4] Tryz.func6 rfl rfl rfl (by kernel_rfl) (le_ble rfl) ?_
      repeat' (first
        | refine esem_seqK 590877900610560262135 ?_
        | refine esem_block ?_
        | (refine stp ?_; simp only [go_sem])
        | (refine Pure.at (aw) (by simp) (by simp) rfl ?_; (try simp only [go_sem]))
        | (refine Pure.at (q) (by simp) (by simp) rfl ?_; (try simp only [go_sem]))
        | (refine Eff.at2 (ps ) [] rfl (by first | (simp; done) | (simp; omega) | (simp [bytesE_cons, bytesE_nil]; done) | omega) rfl ?_; (try simp only [go_sem]))
        | (refine Eff.at2 (pl ) [] rfl (by first | (simp; done) | (simp; omega) | (simp [bytesE_cons, bytesE_nil]; done) | omega) rfl ?_; (try simp only [go_sem]))
        | (refine ⟨cmd_ne c, ?_⟩; try simp only [go_sem])
        | (refine ⟨cmd_eq zCmd, ?_⟩; try simp only [go_sem])
        | (simp (disch := omega) only [wrap64E, wrapU8E, wrapU16E, wrapU32E, wrapU64E, wrapI32E, tdivE, tmodE])
        | (refine spl (fun h => ?_) (fun h => ?_) <;> first | (exfalso; omega) | ((try simp only [opRun, opSkip, stepRun, pickZ]); (try simp only [go_sem, h])))
        | (refine and_om ?_ ?_; focus omega))
      all_goals (refine done_zero (by simp [EV.bel, allBelow]) ?_; rw [hV])
  · obtain rfl := hq0 he
    have he' : (e : Int) ≠ 0 := by omega
    by_cases hcd : code = 0
    · subst hcd
      obtain rfl := z2 rfl
      have hokd := hok d rfl
      have hcd : cOK d := by
        obtain ⟨-, -, r1, r2, r3, r4⟩ := hokd
        exact ⟨r1, r2, ⟨by omega, r3.2⟩, ⟨by omega, r4.2⟩, by omega, by omega⟩
      have qd := hprint d hcd
      simp only [parseV, parseB, parseN, if_true] at pl
      rcases printP_okc hokd with h0 | h4'
      · have hbd := fun s (h : printP d = (s, 0)) => print_back h
        have hds : (printP d).1.length ≤ 16384 := by unfold printP; split <;> (try split) <;> simp_all
        generalize hPd : printP d = pd at qd h0 hbd hds
        obtain ⟨s2, e2⟩ := pd
        simp only at qd h0 hds
        subst h0
        have ps2 := hparse s2 hds
        rw [parse_same, hbd s2 rfl] at ps2
        simp only [parseV, parseB, parseN, if_true] at ps2
        refine ecalls_in 88 [.tmp 4] Tryz.func6 rfl rfl rfl (by kernel_rfl) (le_ble rfl) ?_
        repeat' (first
          | refine esem_seqK 590877900610560262135 ?_
          | refine esem_block ?_
          | (refine stp ?_; simp only [go_sem])
          | (refine Pure.at (aw) (by simp) (by simp) rfl ?_; (try simp only [go_sem]))
          | (refine Pure.at (q) (by simp) (by simp) rfl ?_; (try simp only [go_sem]))
          | (refine Pure.at (qd) (by simp) (by simp) rfl ?_; (try simp only [go_sem]))
          | (refine Eff.at2 (pl ) [] rfl (by first | (simp; done) | (simp; omega) | (simp [bytesE_cons, bytesE_nil]; done) | omega) rfl ?_; (try simp only [go_sem]))
          | (refine Eff.at2 (ps2 ) [] rfl (by first | (simp; done) | (simp; omega) | (simp [bytesE_cons, bytesE_nil]; done) | omega) rfl ?_; (try simp only [go_sem]))
          | (refine ⟨cmd_eq d, ?_⟩; try simp only [go_sem])
          | (simp (disch := omega) only [wrap64E, wrapU8E, wrapU16E, wrapU32E, wrapU64E, wrapI32E, tdivE, tmodE])
          | (refine spl (fun h => ?_) (fun h => ?_) <;> first | (exfalso; omega) | ((try simp only [opRun, opSkip, stepRun, pickZ]); (try simp only [go_sem, h])))
          | (refine and_om ?_ ?_; focus omega))
        all_goals (refine done_zero (by simp [EV.bel, allBelow]) ?_; rw [hV])
      · rw [h4'] at qd
        simp only at qd
        refine ecalls_in 88 [.tmp 4] Tryz.func6 rfl rfl rfl (by kernel_rfl) (le_ble rfl) ?_
        repeat' (first
          | refine esem_seqK 590877900610560262135 ?_
          | refine esem_block ?_
          | (refine stp ?_; simp only [go_sem])
          | (refine Pure.at (aw) (by simp) (by simp) rfl ?_; (try simp only [go_sem]))
          | (refine Pure.at (q) (by simp) (by simp) rfl ?_; (try simp only [go_sem]))
          | (refine Pure.at (qd) (by simp) (by simp) rfl ?_; (try simp only [go_sem]))
          | (refine Eff.at2 (pl ) [] rfl (by first | (simp; done) | (simp; omega) | (simp [bytesE_cons, bytesE_nil]; done) | omega) rfl ?_; (try simp only [go_sem]))
          | (simp (disch := omega) only [wrap64E, wrapU8E, wrapU16E, wrapU32E, wrapU64E, wrapI32E, tdivE, tmodE])
          | (refine spl (fun h => ?_) (fun h => ?_) <;> first | (exfalso; omega) | ((try simp only [opRun, opSkip, stepRun, pickZ]); (try simp only [go_sem, h])))
          | (refine and_om ?_ ?_; focus omega))
        all_goals (refine done_zero (by simp [EV.bel, allBelow]) ?_; rw [hV])
    · obtain rfl := z1 hcd
      simp only [parseV, parseB, parseN, if_neg hcd] at pl
      refine ecalls_in 88 [.tmp 4] Tryz.func6 rfl rfl rfl (by kernel_rfl) (le_ble rfl) ?_
      repeat' (first
        | refine esem_seqK 590877900610560262135 ?_
        | refine esem_block ?_
        | (refine stp ?_; simp only [go_sem])
        | (refine Pure.at (aw) (by simp) (by simp) rfl ?_; (try simp only [go_sem]))
        | (refine Pure.at (q) (by simp) (by simp) rfl ?_; (try simp only [go_sem]))
        | (refine Eff.at2 (pl ) [] rfl (by first | (simp; done) | (simp; omega) | (simp [bytesE_cons, bytesE_nil]; done) | omega) rfl ?_; (try simp only [go_sem]))
        | (refine ⟨cmd_eq zCmd, ?_⟩; try simp only [go_sem])
        | (simp (disch := omega) only [wrap64E, wrapU8E, wrapU16E, wrapU32E, wrapU64E, wrapI32E, tdivE, tmodE])
        | (refine spl (fun h => ?_) (fun h => ?_) <;> first | (exfalso; omega) | ((try simp only [opRun, opSkip, stepRun, pickZ]); (try simp only [go_sem, h])))
        | (refine and_om ?_ ?_; focus omega))
      all_goals (refine done_zero (by simp [EV.bel, allBelow]) ?_; rw [hV])
end Go.Proofs.YtnjbdcdjcfhooaaGreatDoor
