/-
  Own work: walks and laws of the functions that the statement reaches; the statement itself stands in the last text.
-/
import Derived.Test.YtnjbdcdjcfhooaaGreatDoorHu
import Derived.Test.YtnjbdcdjcfhooaaGreatDoorEd
namespace Go.Proofs.YtnjbdcdjcfhooaaGreatDoor
open Go.E Go.ChangeShapes Go.WideShapes Go.ChangeAt Go.RowKit
set_option linter.all false
set_option maxRecDepth 20000
set_option maxHeartbeats 8000000
structure Mk where
  id : Int
  at_ : Int
  grav : Int
structure Cu where
  id : Int
  at_ : Int
  anc : Int
  goal : Int
abbrev mkE (m : Mk) : List EV := [.int .u32 m.id, .int .i64 m.at_, .int .u8 m.grav]
abbrev cuE (m : Cu) : List EV := [.int .u32 m.id, .int .i64 m.at_, .int .i64 m.anc, .int .i64 m.goal]
def mksE : List Mk → List EV
  | [] => []
  | m :: r => mkE m ++ mksE r
def cusE : List Cu → List EV
  | [] => []
  | m :: r => cuE m ++ cusE r
def mkOK (m : Mk) : Prop := (0 ≤ m.id ∧ m.id ≤ 4294967295) ∧ i64B m.at_ ∧ (0 ≤ m.grav ∧ m.grav ≤ 255)
theorem mksE_length (l : List Mk) : (mksE l).length = l.length * 3 := by
  induction l with
  | nil => rfl
  | cons m r ih => simp only [mksE, List.length_append, ih, List.length_cons, List.length_nil]; omega
@[simp] theorem allBelow_mksE {k : Nat} (l : List Mk) : allBelow k (mksE l) := by
  induction l with
  | nil => trivial
  | cons m r ih => simp [mksE, ih]
@[simp] theorem allBelow_cusE {k : Nat} (l : List Cu) : allBelow k (cusE l) := by
  induction l with
  | nil => trivial
  | cons m r ih => simp [cusE, ih]
@[simp] theorem renL_mksE {π : Nat → Nat} (l : List Mk) : renL π (mksE l) = mksE l := renL_idF (k := 0) (fun i h => by omega) _ (allBelow_mksE l)
@[simp] theorem renL_cusE {π : Nat → Nat} (l : List Cu) : renL π (cusE l) = cusE l := renL_idF (k := 0) (fun i h => by omega) _ (allBelow_cusE l)
def mkAt (l : List Mk) (i : Nat) : Mk := l.getD i ⟨0, 0, 0⟩
theorem mks_at : ∀ {l : List Mk} {i : Nat}, i < l.length → ((mksE l).drop (i * 3)).take 3 = mkE (mkAt l i)
  | m :: r, 0, _ => rfl
  | m :: r, i + 1, h => by
    have e : (i + 1) * 3 = 3 + i * 3 := by omega
    rw [e, ← List.drop_drop]
    exact mks_at (l := r) (by simpa using h)
theorem mkAt_mem {l : List Mk} {i : Nat} (h : i < l.length) : mkAt l i ∈ l := by
  unfold mkAt; rw [List.getD_eq_getElem?_getD, List.getElem?_eq_getElem h]; exact List.getElem_mem h
structure Rp where
  err : Int
  num : Int
  line : Int
  col : Int
  text : List UInt8
  found : Bool
  frm : Int
  to : Int
  st : Sts
abbrev rpE (r : Rp) (mk cu na : EV) : List EV := [.int .i64 r.err, .int .i64 r.num, .int .i64 r.line, .int .i64 r.col, .str r.text, .bool r.found, .int .i64 r.frm, .int .i64 r.to, mk, cu, na, .int .i64 r.st.docs, .int .i64 r.st.bytes, .int .i64 r.st.marks, .int .i64 r.st.curs, .int .i64 r.st.chg, .int .i64 r.st.pay, .int .i64 r.st.names, .int .i64 r.st.chars, .int .i64 r.st.lines]
def rpOK (r : Rp) : Prop := i64B r.err ∧ i64B r.num ∧ i64B r.line ∧ i64B r.col ∧ r.text.length ≤ 1000000000000 ∧ i64B r.frm ∧ i64B r.to ∧ stsOK r.st
def gravS (g : Int) : List UInt8 := if 0 ≤ g ∧ g < 2 then gravL.getD g.toNat [] else Lib.itoa g
def markS (m : Mk) : List UInt8 := rowL [m.id, m.at_] ++ [32] ++ gravS m.grav
def curS (m : Cu) : List UInt8 := rowL [m.id, m.at_, m.anc, m.goal]
def noneL : List UInt8 := [110, 111, 110, 101]
def joinS (ps : List (List UInt8)) : List UInt8 := if ps = [] then noneL else Lib.join ps [44, 32]
def showL (k : Int) (r : Rp) (ms : List Mk) (cs : List Cu) (ns : List (List UInt8)) : List UInt8 :=
  if r.err ≠ 0 then errL ++ Lib.itoa r.err else
  if k = 14 then quoteL r.text else
  if k = 15 ∨ k = 17 then Lib.itoa r.num else
  if k = 16 then rowL [r.line, r.col] else
  if k = 18 then joinS (ms.map markS) else
  if k = 19 then joinS (cs.map curS) else
  if k = 20 then joinS (ns.map namesS) else
  if k = 21 then joinS (if r.found = true then [rowL [r.frm, r.to]] else []) else
  if k = 22 then statL r.st else [111, 107]
theorem rowL_len2 (a b : Int) (ha : i64B a) (hb : i64B b) : (rowL [a, b]).length ≤ 44 := by
  have la := itoa_lenI a ha
  have lb := itoa_lenI b hb
  have hl := join_len 21 [Lib.itoa a, Lib.itoa b] (by intro p hp; simp only [List.mem_cons, List.not_mem_nil, or_false] at hp; rcases hp with rfl | rfl <;> assumption)
  simp only [rowL, List.map_cons, List.map_nil, List.length_cons, List.length_nil] at hl ⊢; omega
theorem show_0 (G : List Gl) (t u tz tp : TypeId) (v : List Value) (h3 : gFirst t ∈ G) (h4 : gAcc u ∈ G) (hv : v[15]? = some (.int .u8 4)) (hG : gTz v tz ∈ G) (hp : gPow tp ∈ G) (c : Cmd) (r : Rp) (hr : rpOK r) (mk cu na : EV) (m1 : mk.one = true) (c1 : cu.one = true) (n1 : na.one = true)
    (hk : r.err ≠ 0 ∨ ¬ (c.kind = 18 ∨ c.kind = 19 ∨ c.kind = 20)) (ms : List Mk) (cs : List Cu) (ns : List (List UInt8)) :
    Eff G Tryz.prog 17 [.agg (cmdE c), .agg (rpE r mk cu na)] [] 3 (.str (showL c.kind r ms cs ns)) [] 3 := by
  unfold Eff
  obtain ⟨k, d, id, fr, to, tx, g⟩ := c
  obtain ⟨err, num, line, col, text, found, frm, rto, st⟩ := r
  obtain ⟨o1, o2, o3, o4, o5, o6, o7, o8⟩ := hr
  simp only at o1 o2 o3 o4 o5 o6 o7 o8 hk
  have hkn : (EV.agg (rpE ⟨err, num, line, col, text, found, frm, rto, st⟩ mk cu na)).known = true := by simp [EV.known, EV.one, rpE]; exact ⟨m1, c1, n1⟩
  by_cases he : err = 0
  · subst he
    have hk' : ¬ (k = 18 ∨ k = 19 ∨ k = 20) := by rcases hk with h | h; · exact absurd rfl h
                                                  · exact h
    clear hk
    by_cases h14 : k = 14
    · subst h14
      have qc := quote_c G t u tz v h3 h4 hv hG text o5
      have e : showL 14 ⟨0, num, line, col, text, found, frm, rto, st⟩ ms cs ns = quoteL text := by simp [showL]
      rw [e]
      refine ecalls_in 132 [.tmp 4] Tryz.func17 rfl rfl rfl (by kernel_rfl) (le_ble rfl) ?_
      repeat' (first | refine esem_seqK 373922066680392647905437741317376703 ?_ | refine esem_block ?_ | (refine stp ?_; simp only [go_sem]) | (refine drawQ (id := 19) mixed [(0, []), (1, []), (4, []), (10, []), (2, []), (3, []), (5, []), (11, []), (12, []), (6, []), (7, [11]), (8, []), (9, [11]), (13, []), (14, []), (15, []), (16, []), (17, []), (18, [])] (by kernel_rfl) ?_; simp only [go_sem]) | (refine and_om ?_ ?_; focus (simp only [EV.one] at m1 c1 n1; simp [m1, c1, n1]; done)) | (refine Pure.at (qc) (by simp) (by simp) rfl ?_; (try simp only [go_sem])) | (simp (disch := omega) only [wE]) | (refine spl (fun h => ?_) (fun h => ?_) <;> first | (exfalso; omega) | ((try simp only [opRun, opSkip, stepRun, pickZ]); (try simp only [go_sem, h]))) | (refine and_om ?_ ?_; focus omega))
      all_goals exact done_ef2 [] (by simp) rfl (by simp [mA]) (by simp [bC])
    by_cases h15 : k = 15 ∨ k = 17
    · have dc := decimal_c G tp hp num o2.1 o2.2
      have e : showL k ⟨0, num, line, col, text, found, frm, rto, st⟩ ms cs ns = Lib.itoa num := by rcases h15 with rfl | rfl <;> simp [showL]
      rw [e]
      refine ecalls_in 132 [.tmp 4] Tryz.func17 rfl rfl rfl (by kernel_rfl) (le_ble rfl) ?_
      repeat' (first | refine esem_seqK 373922066680392647905437741317376703 ?_ | refine esem_block ?_ | (refine stp ?_; simp only [go_sem]) | (refine drawQ (id := 19) mixed [(0, []), (1, []), (4, []), (10, []), (2, []), (3, []), (5, []), (11, []), (12, []), (6, []), (7, [11]), (8, []), (9, [11]), (13, []), (14, []), (15, []), (16, []), (17, []), (18, [])] (by kernel_rfl) ?_; simp only [go_sem]) | (refine and_om ?_ ?_; focus (simp only [EV.one] at m1 c1 n1; simp [m1, c1, n1]; done)) | (refine Pure.at (dc) (by simp) (by simp) rfl ?_; (try simp only [go_sem])) | (simp (disch := omega) only [wE]) | (refine spl (fun h => ?_) (fun h => ?_) <;> first | (exfalso; omega) | ((try simp only [opRun, opSkip, stepRun, pickZ]); (try simp only [go_sem, h]))) | (refine and_om ?_ ?_; focus omega))
      all_goals exact done_ef2 [] (by simp) rfl (by simp [mA]) (by simp [bC])
    by_cases h16 : k = 16
    · subst h16
      have rc := row2_c G tp hp line col o3 o4
      have e : showL 16 ⟨0, num, line, col, text, found, frm, rto, st⟩ ms cs ns = rowL [line, col] := by simp [showL]
      rw [e]
      refine ecalls_in 132 [.tmp 4] Tryz.func17 rfl rfl rfl (by kernel_rfl) (le_ble rfl) ?_
      repeat' (first | refine esem_seqK 373922066680392647905437741317376703 ?_ | refine esem_block ?_ | (refine stp ?_; simp only [go_sem]) | (refine drawQ (id := 19) mixed [(0, []), (1, []), (4, []), (10, []), (2, []), (3, []), (5, []), (11, []), (12, []), (6, []), (7, [11]), (8, []), (9, [11]), (13, []), (14, []), (15, []), (16, []), (17, []), (18, [])] (by kernel_rfl) ?_; simp only [go_sem]) | (refine and_om ?_ ?_; focus (simp only [EV.one] at m1 c1 n1; simp [m1, c1, n1]; done)) | (refine Eff.at2 (rc ) [5] rfl (by first | (simp; done) | (simp; omega) | (simp [bC]; done) | omega) rfl ?_; (try simp only [go_sem])) | (simp (disch := omega) only [wE]) | (refine spl (fun h => ?_) (fun h => ?_) <;> first | (exfalso; omega) | ((try simp only [opRun, opSkip, stepRun, pickZ]); (try simp only [go_sem, h]))) | (refine and_om ?_ ?_; focus omega))
      all_goals exact done_ef2 [] (by simp) rfl (by simp [mA]) (by simp [bC])
    by_cases h22 : k = 22
    · subst h22
      have rc := stats_c G tp hp st o8
      have e : showL 22 ⟨0, num, line, col, text, found, frm, rto, st⟩ ms cs ns = statL st := by simp [showL]
      rw [e]
      refine ecalls_in 132 [.tmp 4] Tryz.func17 rfl rfl rfl (by kernel_rfl) (le_ble rfl) ?_
      repeat' (first | refine esem_seqK 373922066680392647905437741317376703 ?_ | refine esem_block ?_ | (refine stp ?_; simp only [go_sem]) | (refine drawQ (id := 19) mixed [(0, []), (1, []), (4, []), (10, []), (2, []), (3, []), (5, []), (11, []), (12, []), (6, []), (7, [11]), (8, []), (9, [11]), (13, []), (14, []), (15, []), (16, []), (17, []), (18, [])] (by kernel_rfl) ?_; simp only [go_sem]) | (refine and_om ?_ ?_; focus (simp only [EV.one] at m1 c1 n1; simp [m1, c1, n1]; done)) | (refine Pure.at (rc) (by simp) (by simp) rfl ?_; (try simp only [go_sem])) | (simp (disch := omega) only [wE]) | (refine spl (fun h => ?_) (fun h => ?_) <;> first | (exfalso; omega) | ((try simp only [opRun, opSkip, stepRun, pickZ]); (try simp only [go_sem, h]))) | (refine and_om ?_ ?_; focus omega))
      all_goals exact done_ef2 [] (by simp) rfl (by simp [mA]) (by simp [bC])
    by_cases h21 : k = 21
    · subst h21
      cases found
      · have jc := joined_0 G
        have e : showL 21 ⟨0, num, line, col, text, false, frm, rto, st⟩ ms cs ns = noneL := by simp [showL, joinS]
        rw [e]
        refine ecalls_in 132 [.tmp 4] Tryz.func17 rfl rfl rfl (by kernel_rfl) (le_ble rfl) ?_
        repeat' (first | refine esem_seqK 373922066680392647905437741317376703 ?_ | refine esem_block ?_ | (refine stp ?_; simp only [go_sem]) | (refine drawQ (id := 19) mixed [(0, []), (1, []), (4, []), (10, []), (2, []), (3, []), (5, []), (11, []), (12, []), (6, []), (7, [11]), (8, []), (9, [11]), (13, []), (14, []), (15, []), (16, []), (17, []), (18, [])] (by kernel_rfl) ?_; simp only [go_sem]) | (refine and_om ?_ ?_; focus (simp only [EV.one] at m1 c1 n1; simp [m1, c1, n1]; done)) | (refine Pure.at (jc) (by simp) (by simp) rfl ?_; (try simp only [go_sem])) | (simp (disch := omega) only [wE]) | (refine spl (fun h => ?_) (fun h => ?_) <;> first | (exfalso; omega) | ((try simp only [opRun, opSkip, stepRun, pickZ]); (try simp only [go_sem, h]))) | (refine and_om ?_ ?_; focus omega))
        all_goals (unfold noneL; exact done_ef2 [] (by simp) rfl (by simp [mA]) (by simp [bC]))
      · have rc := row2_c G tp hp frm rto o6 o7
        have hl := rowL_len2 frm rto o6 o7
        have jc := joined_c G [rowL [frm, rto]] 1 1 rfl (by decide) (by decide) (by rw [Lib.join_one]; omega)
        have e : showL 21 ⟨0, num, line, col, text, true, frm, rto, st⟩ ms cs ns = Lib.join [rowL [frm, rto]] [44, 32] := by simp [showL, joinS]
        rw [e]
        simp only [strsE, List.map_cons, List.map_nil] at jc
        generalize Lib.join [rowL [frm, rto]] [44, 32] = J at jc
        generalize rowL [frm, rto] = R at rc hl jc
        refine ecalls_in 132 [.tmp 4] Tryz.func17 rfl rfl rfl (by kernel_rfl) (le_ble rfl) ?_
        repeat' (first | refine esem_seqK 373922066680392647905437741317376703 ?_ | refine esem_block ?_ | (refine stp ?_; simp only [go_sem]) | (refine drawQ (id := 19) mixed [(0, []), (1, []), (4, []), (10, []), (2, []), (3, []), (5, []), (11, []), (12, []), (6, []), (7, [11]), (8, []), (9, [11]), (13, []), (14, []), (15, []), (16, []), (17, []), (18, [])] (by kernel_rfl) ?_; simp only [go_sem]) | (refine and_om ?_ ?_; focus (simp only [EV.one] at m1 c1 n1; simp [m1, c1, n1]; done)) | (refine Eff.at2 (rc ) [5] rfl (by first | (simp; done) | (simp; omega) | (simp [bC]; done) | omega) rfl ?_; (try simp only [go_sem])) | (refine Eff.at2 (jc ) [7] rfl (by first | (simp; done) | (simp; omega) | (simp [bC]; done) | omega) rfl ?_; (try simp only [go_sem])) | (simp (disch := omega) only [wE]) | (refine spl (fun h => ?_) (fun h => ?_) <;> first | (exfalso; omega) | ((try simp only [opRun, opSkip, stepRun, pickZ]); (try simp only [go_sem, h]))) | (refine and_om ?_ ?_; focus omega))
        all_goals exact done_ef2 [] (by simp) rfl (by simp [mA]) (by simp [bC])
    have e : showL k ⟨0, num, line, col, text, found, frm, rto, st⟩ ms cs ns = [111, 107] := by
      simp only [showL, ne_eq, not_true_eq_false, if_false]
      (repeat (first | rw [if_pos (by omega)] | rw [if_neg (by omega)]))
    rw [e]
    refine ecalls_in 132 [.tmp 4] Tryz.func17 rfl rfl rfl (by kernel_rfl) (le_ble rfl) ?_
    repeat' (first | refine esem_seqK 373922066680392647905437741317376703 ?_ | refine esem_block ?_ | (refine stp ?_; simp only [go_sem]) | (refine drawQ (id := 19) mixed [(0, []), (1, []), (4, []), (10, []), (2, []), (3, []), (5, []), (11, []), (12, []), (6, []), (7, [11]), (8, []), (9, [11]), (13, []), (14, []), (15, []), (16, []), (17, []), (18, [])] (by kernel_rfl) ?_; simp only [go_sem]) | (refine and_om ?_ ?_; focus (simp only [EV.one] at m1 c1 n1; simp [m1, c1, n1]; done)) | (simp (disch := omega) only [wE]) | (refine spl (fun h => ?_) (fun h => ?_) <;> first | (exfalso; omega) | ((try simp only [opRun, opSkip, stepRun, pickZ]); (try simp only [go_sem, h]))) | (refine and_om ?_ ?_; focus omega))
    all_goals exact done_ef2 [] (by simp) rfl (by simp [mA]) (by simp [bC])
  · have dc := decimal_c G tp hp err o1.1 o1.2
    have la := itoa_lenI err o1
    have e : showL k ⟨err, num, line, col, text, found, frm, rto, st⟩ ms cs ns = errL ++ Lib.itoa err := by
      simp only [showL]; rw [if_pos he]
    rw [e]
    unfold errL
    refine ecalls_in 132 [.tmp 4] Tryz.func17 rfl rfl rfl (by kernel_rfl) (le_ble rfl) ?_
    repeat' (first | refine esem_seqK 373922066680392647905437741317376703 ?_ | refine esem_block ?_ | (refine stp ?_; simp only [go_sem]) | (refine drawQ (id := 19) mixed [(0, []), (1, []), (4, []), (10, []), (2, []), (3, []), (5, []), (11, []), (12, []), (6, []), (7, [11]), (8, []), (9, [11]), (13, []), (14, []), (15, []), (16, []), (17, []), (18, [])] (by kernel_rfl) ?_; simp only [go_sem]) | (refine and_om ?_ ?_; focus (simp only [EV.one] at m1 c1 n1; simp [m1, c1, n1]; done)) | (refine Pure.at (dc) (by simp) (by simp) rfl ?_; (try simp only [go_sem])) | (refine and_om ?_ ?_; focus (simp only [List.length_cons, List.length_nil]; omega)) | (simp (disch := omega) only [wE]) | (refine spl (fun h => ?_) (fun h => ?_) <;> first | (exfalso; omega) | ((try simp only [opRun, opSkip, stepRun, pickZ]); (try simp only [go_sem, h]))) | (refine and_om ?_ ?_; focus omega))
    all_goals exact done_ef2 [] (by simp) rfl (by simp [mA]) (by simp [bC])
end Go.Proofs.YtnjbdcdjcfhooaaGreatDoor
namespace Go.Proofs.YtnjbdcdjcfhooaaGreatDoor
open Go.E Go.ChangeShapes Go.WideShapes Go.ChangeAt Go.RowKit
set_option linter.all false
set_option maxRecDepth 20000
set_option maxHeartbeats 8000000
theorem gravS_len (g : Int) (h : 0 ≤ g ∧ g ≤ 255) : (gravS g).length ≤ 21 := by
  unfold gravS
  split
  · rename_i hg
    rcases (show g = 0 ∨ g = 1 by omega) with rfl | rfl <;> decide
  · exact itoa_lenI g ⟨by omega, by omega⟩
theorem markS_len {m : Mk} (h : mkOK m) : (markS m).length ≤ 66 := by
  have h1 := rowL_len2 m.id m.at_ ⟨by have := h.1.1; omega, by have := h.1.2; omega⟩ h.2.1
  have h2 := gravS_len m.grav h.2.2
  simp only [markS, List.length_append, List.length_cons, List.length_nil]; omega
theorem namesS_len (s : List UInt8) : (namesS s).length ≤ 8 * s.length + 2 := by
  unfold namesS
  split
  · omega
  · exact quoteL_len s
theorem join_lenS (B : Nat) (sep : List UInt8) (ps : List (List UInt8)) (h : ∀ p ∈ ps, p.length ≤ B) : (Lib.join ps sep).length ≤ ps.length * (B + sep.length) := by
  have ht : ∀ l : List (List UInt8), (∀ p ∈ l, p.length ≤ B) → (Lib.joinTail sep l).length ≤ l.length * (B + sep.length) := fun l => by
    induction l with
    | nil => intro _; simp [Lib.joinTail]
    | cons p r ih =>
      intro hl
      have h1 := hl p (.head _)
      have h2 := ih fun q hq => hl q (.tail _ hq)
      simp only [Lib.joinTail, List.map_cons, List.flatten_cons, List.length_append, List.length_cons] at h2 ⊢
      rw [Nat.add_mul, Nat.one_mul]; omega
  cases ps with
  | nil => simp [Lib.join_nil]
  | cons p r =>
    have h1 := h p (.head _)
    have h2 := ht r fun q hq => h q (.tail _ hq)
    rw [Lib.join_cons, List.length_append, List.length_cons, Nat.add_mul, Nat.one_mul]; omega
@[simp] theorem strsE_nil : strsE [] = [] := rfl
theorem saidG (G : List Gl) (tp : TypeId) (hp : gPow tp ∈ G) (g : Int) (h : 0 ≤ g ∧ g ≤ 255) : (shE gravL g = woE (gravS g) ∨ shE gravL g = nuE g) ∧ E.Pure G Tryz.prog 40 [.agg (shE gravL g)] (.str (gravS g)) := by
  by_cases hg : g < 2
  · have e : shE gravL g = woE (gravS g) := by rcases (show g = 0 ∨ g = 1 by omega) with rfl | rfl <;> rfl
    rw [e]; exact ⟨.inl rfl, said_word G _⟩
  · have e : shE gravL g = nuE g := by unfold shE; rw [if_neg (fun h => hg (by have : (gravL.length : Int) = 2 := rfl; omega))]
    have e2 : gravS g = Lib.itoa g := by unfold gravS; rw [if_neg (by omega)]
    rw [e, e2]; exact ⟨.inr rfl, said_num G tp hp g ⟨by omega, by omega⟩⟩
theorem strsE_take (ps : List (List UInt8)) (i : Nat) (h : i ≤ ps.length) : List.take i (strsE (ps.take i)) = strsE (ps.take i) := List.take_of_length_le (by simp only [strsE, List.length_map, List.length_take]; omega)
theorem strsE_step {ps : List (List UInt8)} {i : Nat} (h : i < ps.length) : strsE (ps.take (i + 1)) = strsE (ps.take i) ++ [.str (ps.getD i [])] := by
  rw [List.take_succ, List.getElem?_eq_getElem h, List.getD_eq_getElem?_getD, List.getElem?_eq_getElem h, strsE, List.map_append]; rfl
theorem strsE_len {ps : List (List UInt8)} {i : Nat} (h : i ≤ ps.length) : (strsE (ps.take i)).length = i := by simp only [strsE, List.length_map, List.length_take]; omega
theorem show_m (G : List Gl) (tp : TypeId) (hp : gPow tp ∈ G) (c : Cmd) (hc : c.kind = 18) (r : Rp) (he : r.err = 0) (cu na : EV) (c1 : cu.one = true) (n1 : na.one = true) (ms : List Mk) (hm : ∀ m ∈ ms, mkOK m) (n ty z : Nat) (wr : Bool) (hn : ms.length = n) (hN : n ≤ 4000000) (cs : List Cu) (ns : List (List UInt8)) :
    Eff G Tryz.prog 17 [.agg (cmdE c), .agg (rpE r (.slice (some ⟨0, 0⟩) n n) cu na)] [(0, .cells (mksE ms) ty z wr 0)] 3 (.str (showL c.kind r ms cs ns)) [(0, .cells (mksE ms) ty z wr 0)] 3 := by
  have e : showL c.kind r ms cs ns = joinS (ms.map markS) := by unfold showL; rw [hc]; simp [he]
  rw [e]
  unfold Eff
  obtain ⟨k, d, id, fr, to, tx, g⟩ := c
  obtain ⟨err, num, line, col, text, found, frm, rto, st⟩ := r
  simp only at he hc
  subst he hc
  subst hn
  refine ecalls_in 132 [.tmp 4] Tryz.func17 rfl rfl rfl (by kernel_rfl) (le_ble rfl) ?_
  repeat' (first | refine esem_seqK 373922066680392647905437741317376703 ?_ | refine esem_block ?_ | (refine stp ?_; simp only [go_sem]) | (refine drawQ (id := 19) mixed [(0, []), (1, []), (4, []), (10, []), (2, []), (3, []), (5, []), (11, []), (12, []), (6, []), (7, [11]), (8, []), (9, [11]), (13, []), (14, []), (15, []), (16, []), (17, []), (18, [])] (by kernel_rfl) ?_; simp only [go_sem]) | (refine and_om ?_ ?_; focus (simp only [EV.one] at c1 n1; simp [c1, n1]; done)) | (simp (disch := omega) only [wE]) | (refine spl (fun h => ?_) (fun h => ?_) <;> first | (exfalso; omega) | ((try simp only [opRun, opSkip, stepRun, pickZ]); (try simp only [go_sem, h]))) | (refine and_om ?_ ?_; focus omega))
  clear c1 n1
  have hlen : (ms.map markS).length = ms.length := List.length_map ..
  have hz0 : strsE ((ms.map markS).take 0) = [] := rfl
  refine esem_loopS (fun z : Nat × Nat => [(5, accE (z.2 + 5) z.1), (50, .slice (some ⟨0, 0⟩) ms.length ms.length), (51, .int .i64 ms.length), (52, .int .i64 z.1)]) (fun z' => (0, .cells (mksE ms) ty z wr 0) :: accB (z'.2 + 5) (strsE ((ms.map markS).take z'.1)) 9 1) (fun z => z.2 + 6) (fun z => z.1 ≤ ms.length) (fun z => ms.length - z.1) ((0 : Nat), (0 : Nat))
    (fun z hz => ⟨by simp [frBel, EV.bel, allBelow], ⟨by omega, by simp [EO.bel], accB_below (by omega) (by simp)⟩, by omega⟩) (Nat.zero_le _) (by simp only [go_sem, weakL, accE_zero]) (by simp only [go_sem, lessL, strsE_nil, accB_nil]) ?_
  rintro ⟨i, b⟩ z1
  simp only at z1
  simp only []
  by_cases hi : i < ms.length
  · have hk := hm _ (mkAt_mem hi)
    have hua := mks_at hi
    have hml := mksE_length ms
    have hst := strsE_step (ps := ms.map markS) (i := i) (by omega)
    have hx : (ms.map markS).getD i [] = markS (mkAt ms i) := by
      unfold mkAt
      rw [List.getD_eq_getElem?_getD, List.getD_eq_getElem?_getD, List.getElem?_map, List.getElem?_eq_getElem hi]; rfl
    rw [hx, markS] at hst
    have hln := strsE_len (ps := ms.map markS) (i := i) (by omega)
    have htk := strsE_take (ms.map markS) i (by omega)
    generalize mkAt ms i = m at hk hua hst
    obtain ⟨mi, ma, mg⟩ := m
    obtain ⟨k1, k2, k3⟩ := hk
    simp only at k1 k2 k3 hst
    have rc := row2_c G tp hp mi ma ⟨by omega, by omega⟩ k2
    have hl2 := rowL_len2 mi ma ⟨by omega, by omega⟩ k2
    have hgl := gravS_len mg k3
    have gc := gravities_c G
    have sc := shownG_c G mg
    obtain ⟨sh, sd⟩ := saidG G tp hp mg k3
    generalize shE gravL mg = sv at sc sh sd
    generalize gravS mg = gs at hst hgl sd sh
    generalize rowL [mi, ma] = rs at hst rc hl2
    simp only [gravL, List.map_cons, List.map_nil] at gc sc
    by_cases h0 : i = 0
    · subst h0
      rw [Nat.zero_mul, List.drop_zero] at hua
      have hs1 : strsE ((ms.map markS).take 1) = [.str (rs ++ [32] ++ gs)] := hst
      simp only [accE_zero, List.take_zero, strsE_nil, accB_nil]
      rcases sh with rfl | rfl
      · repeat' (first | refine esem_seqK 373922066680392647905437741317376703 ?_ | refine esem_block ?_ | (refine stp ?_; simp only [go_sem, hua, EV.one]) | (refine drawQ (id := 19) mixed [(0, []), (1, []), (4, []), (10, []), (2, []), (3, []), (5, []), (11, []), (12, []), (6, []), (7, [11]), (8, []), (9, [11]), (13, []), (14, []), (15, []), (16, []), (17, []), (18, [])] (by kernel_rfl) ?_; simp only [go_sem, hua, EV.one]) | (refine Eff.at2 (rc ) [b + 13] rfl (by first | (simp; done) | (simp; omega) | (simp [bC]; done) | omega) rfl ?_; (try simp only [go_sem, hua, EV.one])) | (refine Eff.at2 (gc ) [] rfl (by first | (simp; done) | (simp; omega) | (simp [bC]; done) | omega) rfl ?_; (try simp only [go_sem, hua, EV.one])) | (refine Eff.at2 (sc ) [b + 26] rfl (by first | (simp; done) | (simp; omega) | (simp [bC]; done) | omega) rfl ?_; (try simp only [go_sem, hua, EV.one])) | (refine Pure.at (sd) (by simp) (by simp) rfl ?_; (try simp only [go_sem, hua, EV.one])) | (refine and_om ?_ ?_; focus (simp only [List.length_append, List.length_cons, List.length_nil]; omega)) | (simp (disch := omega) only [wE]) | (refine spl (fun h => ?_) (fun h => ?_) <;> first | (exfalso; omega) | ((try simp only [opRun, opSkip, stepRun, pickZ]); (try simp only [go_sem, hua, EV.one, h]))) | (refine and_om ?_ ?_; focus omega))
        all_goals
          (refine ⟨(1, b + 22), ?_, ?_, rfl, rfl, ?_, ?_⟩; rotate_left; (focus (first | omega | (simp only []; omega))); (focus (first | (simp only [go_sem, weakL, hs1, accE_one, accB_cons]; done) | ((try simp only [go_sem, weakL, hs1, accE_one, accB_cons]); ((repeat' apply And.intro) <;> (first | rfl | trivial | ((try simp only [EV.int.injEq, EV.str.injEq, EV.bool.injEq, EV.tuple.injEq, EV.slice.injEq, List.cons.injEq, true_and, and_true]); first | rfl | omega)))))); (focus (first | trivial | (simp only [go_sem, lessL, hs1, accE_one, accB_cons]; done) | ((try simp only [go_sem, lessL, hs1, accE_one, accB_cons]); ((repeat' apply And.intro) <;> (first | rfl | trivial | ((try simp only [EV.int.injEq, EV.str.injEq, EV.bool.injEq, EV.tuple.injEq, EV.slice.injEq, List.cons.injEq, true_and, and_true]); first | rfl | omega)))))); (try simp only []))
          omega
      · repeat' (first | refine esem_seqK 373922066680392647905437741317376703 ?_ | refine esem_block ?_ | (refine stp ?_; simp only [go_sem, hua, EV.one]) | (refine drawQ (id := 19) mixed [(0, []), (1, []), (4, []), (10, []), (2, []), (3, []), (5, []), (11, []), (12, []), (6, []), (7, [11]), (8, []), (9, [11]), (13, []), (14, []), (15, []), (16, []), (17, []), (18, [])] (by kernel_rfl) ?_; simp only [go_sem, hua, EV.one]) | (refine Eff.at2 (rc ) [b + 13] rfl (by first | (simp; done) | (simp; omega) | (simp [bC]; done) | omega) rfl ?_; (try simp only [go_sem, hua, EV.one])) | (refine Eff.at2 (gc ) [] rfl (by first | (simp; done) | (simp; omega) | (simp [bC]; done) | omega) rfl ?_; (try simp only [go_sem, hua, EV.one])) | (refine Eff.at2 (sc ) [b + 26] rfl (by first | (simp; done) | (simp; omega) | (simp [bC]; done) | omega) rfl ?_; (try simp only [go_sem, hua, EV.one])) | (refine Pure.at (sd) (by simp) (by simp) rfl ?_; (try simp only [go_sem, hua, EV.one])) | (refine and_om ?_ ?_; focus (simp only [List.length_append, List.length_cons, List.length_nil]; omega)) | (simp (disch := omega) only [wE]) | (refine spl (fun h => ?_) (fun h => ?_) <;> first | (exfalso; omega) | ((try simp only [opRun, opSkip, stepRun, pickZ]); (try simp only [go_sem, hua, EV.one, h]))) | (refine and_om ?_ ?_; focus omega))
        all_goals
          (refine ⟨(1, b + 22), ?_, ?_, rfl, rfl, ?_, ?_⟩; rotate_left; (focus (first | omega | (simp only []; omega))); (focus (first | (simp only [go_sem, weakL, hs1, accE_one, accB_cons]; done) | ((try simp only [go_sem, weakL, hs1, accE_one, accB_cons]); ((repeat' apply And.intro) <;> (first | rfl | trivial | ((try simp only [EV.int.injEq, EV.str.injEq, EV.bool.injEq, EV.tuple.injEq, EV.slice.injEq, List.cons.injEq, true_and, and_true]); first | rfl | omega)))))); (focus (first | trivial | (simp only [go_sem, lessL, hs1, accE_one, accB_cons]; done) | ((try simp only [go_sem, lessL, hs1, accE_one, accB_cons]); ((repeat' apply And.intro) <;> (first | rfl | trivial | ((try simp only [EV.int.injEq, EV.str.injEq, EV.bool.injEq, EV.tuple.injEq, EV.slice.injEq, List.cons.injEq, true_and, and_true]); first | rfl | omega)))))); (try simp only []))
          omega
    · rw [accE_pos (by omega), accB_pos (by omega)]
      rcases sh with rfl | rfl
      · repeat' (first | refine esem_seqK 373922066680392647905437741317376703 ?_ | refine esem_block ?_ | (refine stp ?_; simp only [go_sem, hua, EV.one, htk, hln]) | (refine drawQ (id := 19) mixed [(0, []), (1, []), (4, []), (10, []), (2, []), (3, []), (5, []), (11, []), (12, []), (6, []), (7, [11]), (8, []), (9, [11]), (13, []), (14, []), (15, []), (16, []), (17, []), (18, [])] (by kernel_rfl) ?_; simp only [go_sem, hua, EV.one, htk, hln]) | (refine Eff.at2 (rc ) [b + 13] rfl (by first | (simp; done) | (simp; omega) | (simp [bC]; done) | omega) rfl ?_; (try simp only [go_sem, hua, EV.one, htk, hln])) | (refine Eff.at2 (gc ) [] rfl (by first | (simp; done) | (simp; omega) | (simp [bC]; done) | omega) rfl ?_; (try simp only [go_sem, hua, EV.one, htk, hln])) | (refine Eff.at2 (sc ) [b + 26] rfl (by first | (simp; done) | (simp; omega) | (simp [bC]; done) | omega) rfl ?_; (try simp only [go_sem, hua, EV.one, htk, hln])) | (refine Pure.at (sd) (by simp) (by simp) rfl ?_; (try simp only [go_sem, hua, EV.one, htk, hln])) | (refine and_om ?_ ?_; focus (simp only [List.length_append, List.length_cons, List.length_nil]; omega)) | (simp (disch := omega) only [wE]) | (refine spl (fun h => ?_) (fun h => ?_) <;> first | (exfalso; omega) | ((try simp only [opRun, opSkip, stepRun, pickZ]); (try simp only [go_sem, hua, EV.one, htk, hln, h]))) | (refine and_om ?_ ?_; focus omega))
        all_goals
          (refine ⟨(i + 1, b + 22), ?_, ?_, rfl, rfl, ?_, ?_⟩; rotate_left; (focus (first | omega | (simp only []; omega))); (focus (first | (simp only [go_sem, weakL, hst, accE_add1, accB_app]; done) | ((try simp only [go_sem, weakL, hst, accE_add1, accB_app]); ((repeat' apply And.intro) <;> (first | rfl | trivial | ((try simp only [EV.int.injEq, EV.str.injEq, EV.bool.injEq, EV.tuple.injEq, EV.slice.injEq, List.cons.injEq, true_and, and_true]); first | rfl | omega)))))); (focus (first | trivial | (simp only [go_sem, lessL, hst, accE_add1, accB_app]; done) | ((try simp only [go_sem, lessL, hst, accE_add1, accB_app]); ((repeat' apply And.intro) <;> (first | rfl | trivial | ((try simp only [EV.int.injEq, EV.str.injEq, EV.bool.injEq, EV.tuple.injEq, EV.slice.injEq, List.cons.injEq, true_and, and_true]); first | rfl | omega)))))); (try simp only []))
          omega
      · repeat' (first | refine esem_seqK 373922066680392647905437741317376703 ?_ | refine esem_block ?_ | (refine stp ?_; simp only [go_sem, hua, EV.one, htk, hln]) | (refine drawQ (id := 19) mixed [(0, []), (1, []), (4, []), (10, []), (2, []), (3, []), (5, []), (11, []), (12, []), (6, []), (7, [11]), (8, []), (9, [11]), (13, []), (14, []), (15, []), (16, []), (17, []), (18, [])] (by kernel_rfl) ?_; simp only [go_sem, hua, EV.one, htk, hln]) | (refine Eff.at2 (rc ) [b + 13] rfl (by first | (simp; done) | (simp; omega) | (simp [bC]; done) | omega) rfl ?_; (try simp only [go_sem, hua, EV.one, htk, hln])) | (refine Eff.at2 (gc ) [] rfl (by first | (simp; done) | (simp; omega) | (simp [bC]; done) | omega) rfl ?_; (try simp only [go_sem, hua, EV.one, htk, hln])) | (refine Eff.at2 (sc ) [b + 26] rfl (by first | (simp; done) | (simp; omega) | (simp [bC]; done) | omega) rfl ?_; (try simp only [go_sem, hua, EV.one, htk, hln])) | (refine Pure.at (sd) (by simp) (by simp) rfl ?_; (try simp only [go_sem, hua, EV.one, htk, hln])) | (refine and_om ?_ ?_; focus (simp only [List.length_append, List.length_cons, List.length_nil]; omega)) | (simp (disch := omega) only [wE]) | (refine spl (fun h => ?_) (fun h => ?_) <;> first | (exfalso; omega) | ((try simp only [opRun, opSkip, stepRun, pickZ]); (try simp only [go_sem, hua, EV.one, htk, hln, h]))) | (refine and_om ?_ ?_; focus omega))
        all_goals
          (refine ⟨(i + 1, b + 22), ?_, ?_, rfl, rfl, ?_, ?_⟩; rotate_left; (focus (first | omega | (simp only []; omega))); (focus (first | (simp only [go_sem, weakL, hst, accE_add1, accB_app]; done) | ((try simp only [go_sem, weakL, hst, accE_add1, accB_app]); ((repeat' apply And.intro) <;> (first | rfl | trivial | ((try simp only [EV.int.injEq, EV.str.injEq, EV.bool.injEq, EV.tuple.injEq, EV.slice.injEq, List.cons.injEq, true_and, and_true]); first | rfl | omega)))))); (focus (first | trivial | (simp only [go_sem, lessL, hst, accE_add1, accB_app]; done) | ((try simp only [go_sem, lessL, hst, accE_add1, accB_app]); ((repeat' apply And.intro) <;> (first | rfl | trivial | ((try simp only [EV.int.injEq, EV.str.injEq, EV.bool.injEq, EV.tuple.injEq, EV.slice.injEq, List.cons.injEq, true_and, and_true]); first | rfl | omega)))))); (try simp only []))
          omega
  · obtain rfl : i = ms.length := by omega
    have hle := join_lenS 66 [44, 32] (ms.map markS) (fun p hp => by
      obtain ⟨m, hm1, rfl⟩ := List.mem_map.1 hp
      exact markS_len (hm m hm1))
    rw [hlen] at hle
    simp only [List.length_cons, List.length_nil] at hle
    have ht : (ms.map markS).take ms.length = ms.map markS := List.take_of_length_le (by omega)
    rw [ht]
    by_cases h0 : ms.length = 0
    · have jc := joined_0 G
      have : ms = [] := List.length_eq_zero_iff.1 h0
      subst this
      rw [show joinS ([].map markS) = [110, 111, 110, 101] from rfl]
      simp only [List.length_nil, accE_zero, List.map_nil, strsE_nil, accB_nil]
      repeat' (first | refine esem_seqK 373922066680392647905437741317376703 ?_ | refine esem_block ?_ | (refine stp ?_; simp only [go_sem]) | (refine drawQ (id := 19) mixed [(0, []), (1, []), (4, []), (10, []), (2, []), (3, []), (5, []), (11, []), (12, []), (6, []), (7, [11]), (8, []), (9, [11]), (13, []), (14, []), (15, []), (16, []), (17, []), (18, [])] (by kernel_rfl) ?_; simp only [go_sem]) | (refine Pure.at (jc) (by simp) (by simp) rfl ?_; (try simp only [go_sem])) | (simp (disch := omega) only [wE]) | (refine spl (fun h => ?_) (fun h => ?_) <;> first | (exfalso; omega) | ((try simp only [opRun, opSkip, stepRun, pickZ]); (try simp only [go_sem, h]))) | (refine and_om ?_ ?_; focus omega))
      all_goals exact done_ef2 [] (by simp) rfl (by simp [mA]) (by simp [bC])
    · have jc := joined_c G (ms.map markS) ms.length 1 hlen (by omega) hN (by omega)
      have hne : ms.map markS ≠ [] := fun h => h0 (by rw [← hlen, h]; rfl)
      have hsl : (strsE (ms.map markS)).length = ms.length := by simp [strsE]
      rw [accE_pos (by omega), accB_pos (by omega), joinS, if_neg hne]
      generalize Lib.join (ms.map markS) [44, 32] = J at jc
      repeat' (first | refine esem_seqK 373922066680392647905437741317376703 ?_ | refine esem_block ?_ | (refine stp ?_; simp only [go_sem]) | (refine drawQ (id := 19) mixed [(0, []), (1, []), (4, []), (10, []), (2, []), (3, []), (5, []), (11, []), (12, []), (6, []), (7, [11]), (8, []), (9, [11]), (13, []), (14, []), (15, []), (16, []), (17, []), (18, [])] (by kernel_rfl) ?_; simp only [go_sem]) | (refine Eff.at2 (jc ) [b + 5] rfl (by first | (simp; done) | (simp; omega) | (simp [bC]; done) | omega) rfl ?_; (try simp only [go_sem])) | (simp (disch := omega) only [wE]) | (refine spl (fun h => ?_) (fun h => ?_) <;> first | (exfalso; omega) | ((try simp only [opRun, opSkip, stepRun, pickZ]); (try simp only [go_sem, h]))) | (refine and_om ?_ ?_; focus omega))
      all_goals exact done_ef2 [] (by simp) rfl (by simp [mA]) (by simp [bC])
end Go.Proofs.YtnjbdcdjcfhooaaGreatDoor
