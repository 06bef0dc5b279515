/-
  Own work: walks and laws of the functions that the statement reaches; the statement itself stands in the last text.
-/
import Derived.Test.YtnjbdcdjcfhooaaGreatDoorHd
namespace Go.Proofs.YtnjbdcdjcfhooaaGreatDoor
open Go.E
set_option linter.all false
set_option maxRecDepth 20000
set_option maxHeartbeats 8000000
structure Cmd where
  kind : Int
  doc : List UInt8
  id : Int
  frm : Int
  to : Int
  text : List UInt8
  grav : Int
  deriving DecidableEq
abbrev cmdE (c : Cmd) : List EV := [.int .i64 c.kind, .str c.doc, .int .u32 c.id, .int .i64 c.frm, .int .i64 c.to, .str c.text, .int .u8 c.grav]
abbrev rdE (c : Cmd) (sl : EV) (size : Nat) (bp : Option EA) : EO := .cells [.int .i64 c.kind, .str c.doc, .int .u32 c.id, .int .i64 c.frm, .int .i64 c.to, .str c.text, .int .u8 c.grav, sl, .int .i64 size, .ptr bp] 70 0 true 0
def zTok : Tok := ⟨0, 0, [], 0⟩
abbrev tokAt (all : List Tok) (i : Nat) : Tok := all.getD i zTok
abbrev slT (all : List Tok) (i : Nat) : EV := .slice (some ⟨1, i * 4⟩) (all.length - i) (all.length - i)
abbrev tkB (all : List Tok) (z : Nat) : Nat × EO := (1, .cells (toksE all) 72 z true 0)
abbrev tkE (t : Tok) : List EV := [.int .i64 t.kind, .int .i64 t.at_, .str t.text, .int .i64 t.num]
theorem drop_toksE : ∀ (l : List Tok) (i : Nat), (toksE l).drop (i * 4) = toksE (l.drop i)
  | [], i => by simp [toksE]
  | t :: r, 0 => by simp
  | t :: r, i + 1 => by
    have : (i + 1) * 4 = i * 4 + 1 + 1 + 1 + 1 := by omega
    rw [this]
    simp only [toksE, tokE, List.cons_append, List.drop_succ_cons, List.nil_append]
    exact drop_toksE r i
theorem toks_at {l : List Tok} {i : Nat} (h : i < l.length) : ((toksE l).drop (i * 4)).take 4 = tkE (tokAt l i) := by
  rw [drop_toksE, List.drop_eq_getElem_cons h]
  simp [toksE, tokE, tokAt, List.getD_eq_getElem?_getD, List.getElem?_eq_getElem h]
theorem index1_c (G : List Gl) (a v : Int) : Eff G Tryz.prog 101 [.slice (some ⟨0, 0⟩) 1 1, .int .i64 v] [(0, .cells [.int .i64 a] 3 0 true 0)] 1 (.int .i64 (if v = a then 0 else -1)) [] 1 := by
  unfold Eff
  refine ecalls_in 19 [.tmp 4] Tryz.func101 rfl rfl rfl (by kernel_rfl) (le_ble rfl) ?_
  repeat' (first | refine esem_seqK 66483 ?_ | refine esem_block ?_ | (refine stp ?_; simp only [go_sem]) | (refine esem_loopN 66483 3 ?_; simp only [go_sem]) | (simp (disch := omega) only [wE]) | (refine spl (fun h => ?_) (fun h => ?_) <;> first | (exfalso; omega) | ((try simp only [opRun, opSkip, stepRun, pickZ]); (try simp only [go_sem, h]))) | (refine and_om ?_ ?_; focus omega))
  · exact done_ef2 [] (by simp) rfl (by simp [mA]) (by simp [bC])
  · exact done_ef2 [] (by simp) rfl (by simp [mA]) (by simp [bC])
theorem index2_c (G : List Gl) (a b v : Int) : Eff G Tryz.prog 101 [.slice (some ⟨0, 0⟩) 2 2, .int .i64 v] [(0, .cells [.int .i64 a, .int .i64 b] 3 0 true 0)] 1 (.int .i64 (if v = a then 0 else if v = b then 1 else -1)) [] 1 := by
  unfold Eff
  refine ecalls_in 19 [.tmp 4] Tryz.func101 rfl rfl rfl (by kernel_rfl) (le_ble rfl) ?_
  repeat' (first | refine esem_seqK 66483 ?_ | refine esem_block ?_ | (refine stp ?_; simp only [go_sem]) | (refine esem_loopN 66483 4 ?_; simp only [go_sem]) | (simp (disch := omega) only [wE]) | (refine spl (fun h => ?_) (fun h => ?_) <;> first | (exfalso; omega) | ((try simp only [opRun, opSkip, stepRun, pickZ]); (try simp only [go_sem, h]))) | (refine and_om ?_ ?_; focus omega))
  · exact done_ef2 [] (by simp) rfl (by simp [mA]) (by simp [bC])
  · exact done_ef2 [] (by simp) rfl (by simp [mA]) (by simp [bC])
  · exact done_ef2 [] (by simp) rfl (by simp [mA]) (by simp [bC])
theorem contains1_c (G : List Gl) (a v : Int) : Eff G Tryz.prog 59 [.slice (some ⟨0, 0⟩) 1 1, .int .i64 v] [(0, .cells [.int .i64 a] 3 0 true 0)] 1 (.bool (decide (v = a))) [] 1 := by
  unfold Eff
  have hi := index1_c G a v
  by_cases h : v = a
  · rw [if_pos h] at hi
    rw [decide_eq_true h]
    refine ecalls_in 9 [.tmp 4] Tryz.func59 rfl rfl rfl (by kernel_rfl) (le_ble rfl) ?_
    repeat' (first | refine esem_seqK 19 ?_ | refine esem_block ?_ | (refine stp ?_; simp only [go_sem]) | (refine Eff.at2 (hi ) [0] rfl (by first | (simp; done) | (simp; omega) | (simp [bC]; done) | omega) rfl ?_; (try simp only [go_sem])) | (simp (disch := omega) only [wE]) | (refine spl (fun h => ?_) (fun h => ?_) <;> first | (exfalso; omega) | ((try simp only [opRun, opSkip, stepRun, pickZ]); (try simp only [go_sem, h]))) | (refine and_om ?_ ?_; focus omega))
    exact done_ef2 [] (by simp) rfl (by simp [mA]) (by simp [bC])
  · rw [if_neg h] at hi
    rw [decide_eq_false h]
    refine ecalls_in 9 [.tmp 4] Tryz.func59 rfl rfl rfl (by kernel_rfl) (le_ble rfl) ?_
    repeat' (first | refine esem_seqK 19 ?_ | refine esem_block ?_ | (refine stp ?_; simp only [go_sem]) | (refine Eff.at2 (hi ) [0] rfl (by first | (simp; done) | (simp; omega) | (simp [bC]; done) | omega) rfl ?_; (try simp only [go_sem])) | (simp (disch := omega) only [wE]) | (refine spl (fun h => ?_) (fun h => ?_) <;> first | (exfalso; omega) | ((try simp only [opRun, opSkip, stepRun, pickZ]); (try simp only [go_sem, h]))) | (refine and_om ?_ ?_; focus omega))
    exact done_ef2 [] (by simp) rfl (by simp [mA]) (by simp [bC])
theorem contains2_c (G : List Gl) (a b v : Int) : Eff G Tryz.prog 59 [.slice (some ⟨0, 0⟩) 2 2, .int .i64 v] [(0, .cells [.int .i64 a, .int .i64 b] 3 0 true 0)] 1 (.bool (decide (v = a ∨ v = b))) [] 1 := by
  unfold Eff
  have hi := index2_c G a b v
  by_cases h : v = a
  · rw [if_pos h] at hi
    rw [decide_eq_true (.inl h)]
    refine ecalls_in 9 [.tmp 4] Tryz.func59 rfl rfl rfl (by kernel_rfl) (le_ble rfl) ?_
    repeat' (first | refine esem_seqK 19 ?_ | refine esem_block ?_ | (refine stp ?_; simp only [go_sem]) | (refine Eff.at2 (hi ) [0] rfl (by first | (simp; done) | (simp; omega) | (simp [bC]; done) | omega) rfl ?_; (try simp only [go_sem])) | (simp (disch := omega) only [wE]) | (refine spl (fun h => ?_) (fun h => ?_) <;> first | (exfalso; omega) | ((try simp only [opRun, opSkip, stepRun, pickZ]); (try simp only [go_sem, h]))) | (refine and_om ?_ ?_; focus omega))
    exact done_ef2 [] (by simp) rfl (by simp [mA]) (by simp [bC])
  · by_cases h2 : v = b
    · rw [if_neg h, if_pos h2] at hi
      rw [decide_eq_true (.inr h2)]
      refine ecalls_in 9 [.tmp 4] Tryz.func59 rfl rfl rfl (by kernel_rfl) (le_ble rfl) ?_
      repeat' (first | refine esem_seqK 19 ?_ | refine esem_block ?_ | (refine stp ?_; simp only [go_sem]) | (refine Eff.at2 (hi ) [0] rfl (by first | (simp; done) | (simp; omega) | (simp [bC]; done) | omega) rfl ?_; (try simp only [go_sem])) | (simp (disch := omega) only [wE]) | (refine spl (fun h => ?_) (fun h => ?_) <;> first | (exfalso; omega) | ((try simp only [opRun, opSkip, stepRun, pickZ]); (try simp only [go_sem, h]))) | (refine and_om ?_ ?_; focus omega))
      exact done_ef2 [] (by simp) rfl (by simp [mA]) (by simp [bC])
    · rw [if_neg h, if_neg h2] at hi
      rw [decide_eq_false (by simp [h, h2])]
      refine ecalls_in 9 [.tmp 4] Tryz.func59 rfl rfl rfl (by kernel_rfl) (le_ble rfl) ?_
      repeat' (first | refine esem_seqK 19 ?_ | refine esem_block ?_ | (refine stp ?_; simp only [go_sem]) | (refine Eff.at2 (hi ) [0] rfl (by first | (simp; done) | (simp; omega) | (simp [bC]; done) | omega) rfl ?_; (try simp only [go_sem])) | (simp (disch := omega) only [wE]) | (refine spl (fun h => ?_) (fun h => ?_) <;> first | (exfalso; omega) | ((try simp only [opRun, opSkip, stepRun, pickZ]); (try simp only [go_sem, h]))) | (refine and_om ?_ ?_; focus omega))
      exact done_ef2 [] (by simp) rfl (by simp [mA]) (by simp [bC])
theorem fails_new (G : List Gl) (c : Cmd) (sl : EV) (hsl : sl = .slice none 0 0 ∨ ∃ i m, sl = .slice (some ⟨1, i⟩) m m) (size a : Nat) : Eff G Tryz.prog 26 [.ptr (some ⟨0, 0⟩), .int .i64 a] [(0, rdE c sl size none)] 2 (.tuple []) [(0, rdE c sl size (some ⟨2, 0⟩)), (2, faultC 260 a)] 3 := by
  unfold Eff
  rcases hsl with rfl | ⟨i, m, rfl⟩
  all_goals
    refine ecalls_in 15 [] Tryz.func26 rfl rfl rfl (by kernel_rfl) (le_ble rfl) ?_
    repeat' (first | refine esem_seqK 259 ?_ | refine esem_block ?_ | (refine stp ?_; simp only [go_sem]) | (simp (disch := omega) only [wE]) | (refine spl (fun h => ?_) (fun h => ?_) <;> first | (exfalso; omega) | ((try simp only [opRun, opSkip, stepRun, pickZ]); (try simp only [go_sem, h]))) | (refine and_om ?_ ?_; focus omega))
    exact done_ef2 [2] (by simp) rfl (by simp [mA]) (by simp [bC])
theorem fails_old (G : List Gl) (c : Cmd) (sl : EV) (hsl : sl = .slice none 0 0 ∨ ∃ i m, sl = .slice (some ⟨1, i⟩) m m) (size a : Nat) : Eff G Tryz.prog 26 [.ptr (some ⟨0, 0⟩), .int .i64 a] [(0, rdE c sl size (some ⟨2, 0⟩))] 3 (.tuple []) [(0, rdE c sl size (some ⟨2, 0⟩))] 3 := by
  unfold Eff
  rcases hsl with rfl | ⟨i, m, rfl⟩
  all_goals
    refine ecalls_in 15 [] Tryz.func26 rfl rfl rfl (by kernel_rfl) (le_ble rfl) ?_
    repeat' (first | refine esem_seqK 259 ?_ | refine esem_block ?_ | (refine stp ?_; simp only [go_sem]) | (simp (disch := omega) only [wE]) | (refine spl (fun h => ?_) (fun h => ?_) <;> first | (exfalso; omega) | ((try simp only [opRun, opSkip, stepRun, pickZ]); (try simp only [go_sem, h]))) | (refine and_om ?_ ?_; focus omega))
    exact done_ef2 [] (by simp) rfl (by simp [mA]) (by simp [bC])
theorem next1_end (G : List Gl) (all : List Tok) (c : Cmd) (i size z : Nat) (hz : z = 0 ∨ z = 4) (hal : all.length ≤ 16384) (a : Int) (h : all.length ≤ i) : Eff G Tryz.prog 24 [.ptr (some ⟨0, 0⟩), .slice (some ⟨2, 0⟩) 1 1] [(0, rdE c (slT all i) size none), tkB all z, (2, .cells [.int .i64 a] 3 0 true 0)] 3 (.tuple [.agg [.int .i64 0, .int .i64 0, .str [], .int .i64 0], .bool false]) [(0, rdE c (slT all i) size (some ⟨3, 0⟩)), tkB all z, (3, faultC 260 size)] 4 := by
  unfold Eff
  have e1 : i * 4 + 4 = (i + 1) * 4 := by omega
  have e2 : all.length - i - 1 = all.length - (i + 1) := by omega
  have e3 : i + 1 ≤ all.length → (i + 1) * 4 ≤ all.length * 4 := fun h => by omega
  refine ecalls_in 44 [.cell 4 72, .tmp 5] Tryz.func24 rfl rfl rfl (by kernel_rfl) (le_ble rfl) ?_
  repeat' (first | refine esem_seqK 137438955571 ?_ | refine esem_block ?_ | (refine stp ?_; simp only [go_sem]) | (refine drawQ (id := 4) mixed [(0, []), (1, []), (2, []), (3, []), (7, []), (8, []), (9, []), (4, []), (5, []), (6, []), (10, []), (11, []), (12, [10, 11]), (13, []), (14, []), (15, [])] (by kernel_rfl) ?_; simp only [go_sem]) | (fail) | (refine Eff.at2 (fails_new _ c (slT all i) (.inr ⟨_, _, rfl⟩) size size ) [0, 1] rfl (by first | (simp; done) | (simp; omega) | (simp [bC]; done) | omega) rfl ?_; (try simp only [go_sem])) | (simp only [e1, go_sem, EV.one, List.length_cons, List.length_nil]) | (simp only [e1, e2]) | (simp (disch := omega) only [wE]) | (refine spl (fun h => ?_) (fun h => ?_) <;> first | (exfalso; omega) | ((try simp only [opRun, opSkip, stepRun, pickZ]); (try simp only [go_sem, h]))) | (refine and_om ?_ ?_; focus omega))
  all_goals first
    | (exfalso; omega)
    | exact done_ef2 [4] (by simp) rfl (by simp [mA]) (by simp [bC])
theorem next1_no (G : List Gl) (all : List Tok) (c : Cmd) (i size z : Nat) (hz : z = 0 ∨ z = 4) (hal : all.length ≤ 16384) (a : Int) (h : i < all.length) (hk : ¬ (((tokAt all i).kind : Int) = a)) : Eff G Tryz.prog 24 [.ptr (some ⟨0, 0⟩), .slice (some ⟨2, 0⟩) 1 1] [(0, rdE c (slT all i) size none), tkB all z, (2, .cells [.int .i64 a] 3 0 true 0)] 3 (.tuple [.agg (tkE (tokAt all i)), .bool false]) [(0, rdE c (slT all (i + 1)) size (some ⟨3, 0⟩)), tkB all z, (3, faultC 260 (tokAt all i).at_)] 4 := by
  unfold Eff
  have e1 : i * 4 + 4 = (i + 1) * 4 := by omega
  have e2 : all.length - i - 1 = all.length - (i + 1) := by omega
  have e3 : i + 1 ≤ all.length → (i + 1) * 4 ≤ all.length * 4 := fun h => by omega
  have ht := toks_at h
  have hc := contains1_c G a ((tokAt all i).kind : Int)
  rw [decide_eq_false hk] at hc
  refine ecalls_in 44 [.cell 4 72, .tmp 5] Tryz.func24 rfl rfl rfl (by kernel_rfl) (le_ble rfl) ?_
  repeat' (first | refine esem_seqK 137438955571 ?_ | refine esem_block ?_ | (refine stp ?_; simp only [go_sem]) | (refine drawQ (id := 4) mixed [(0, []), (1, []), (2, []), (3, []), (7, []), (8, []), (9, []), (4, []), (5, []), (6, []), (10, []), (11, []), (12, [10, 11]), (13, []), (14, []), (15, [])] (by kernel_rfl) ?_; simp only [go_sem]) | (refine Eff.at2 (hc ) [2] rfl (by first | (simp; done) | (simp; omega) | (simp [bC]; done) | omega) rfl ?_; (try simp only [go_sem])) | (refine Eff.at2 (fails_new _ c (slT all (i + 1)) (.inr ⟨_, _, rfl⟩) size (tokAt all i).at_ ) [0, 1] rfl (by first | (simp; done) | (simp; omega) | (simp [bC]; done) | omega) rfl ?_; (try simp only [go_sem])) | (simp only [ht, go_sem, EV.one, List.length_cons, List.length_nil]) | (simp only [e1, e2]) | (simp (disch := omega) only [wE]) | (refine spl (fun h => ?_) (fun h => ?_) <;> first | (exfalso; omega) | ((try simp only [opRun, opSkip, stepRun, pickZ]); (try simp only [go_sem, h]))) | (refine and_om ?_ ?_; focus omega))
  all_goals first
    | (exfalso; omega)
    | exact done_ef2 [20] (by simp) rfl (by simp [mA]) (by simp [bC])
theorem next1_ok (G : List Gl) (all : List Tok) (c : Cmd) (i size z : Nat) (hz : z = 0 ∨ z = 4) (hal : all.length ≤ 16384) (a : Int) (h : i < all.length) (hk : ((tokAt all i).kind : Int) = a) : Eff G Tryz.prog 24 [.ptr (some ⟨0, 0⟩), .slice (some ⟨2, 0⟩) 1 1] [(0, rdE c (slT all i) size none), tkB all z, (2, .cells [.int .i64 a] 3 0 true 0)] 3 (.tuple [.agg (tkE (tokAt all i)), .bool true]) [(0, rdE c (slT all (i + 1)) size none), tkB all z] 3 := by
  unfold Eff
  have e1 : i * 4 + 4 = (i + 1) * 4 := by omega
  have e2 : all.length - i - 1 = all.length - (i + 1) := by omega
  have e3 : i + 1 ≤ all.length → (i + 1) * 4 ≤ all.length * 4 := fun h => by omega
  have ht := toks_at h
  have hc := contains1_c G a ((tokAt all i).kind : Int)
  rw [decide_eq_true hk] at hc
  refine ecalls_in 44 [.cell 4 72, .tmp 5] Tryz.func24 rfl rfl rfl (by kernel_rfl) (le_ble rfl) ?_
  repeat' (first | refine esem_seqK 137438955571 ?_ | refine esem_block ?_ | (refine stp ?_; simp only [go_sem]) | (refine drawQ (id := 4) mixed [(0, []), (1, []), (2, []), (3, []), (7, []), (8, []), (9, []), (4, []), (5, []), (6, []), (10, []), (11, []), (12, [10, 11]), (13, []), (14, []), (15, [])] (by kernel_rfl) ?_; simp only [go_sem]) | (refine Eff.at2 (hc ) [2] rfl (by first | (simp; done) | (simp; omega) | (simp [bC]; done) | omega) rfl ?_; (try simp only [go_sem])) | (refine Eff.at2 (fails_new _ c (slT all (i + 1)) (.inr ⟨_, _, rfl⟩) size (tokAt all i).at_ ) [0, 1] rfl (by first | (simp; done) | (simp; omega) | (simp [bC]; done) | omega) rfl ?_; (try simp only [go_sem])) | (simp only [ht, go_sem, EV.one, List.length_cons, List.length_nil]) | (simp only [e1, e2]) | (simp (disch := omega) only [wE]) | (refine spl (fun h => ?_) (fun h => ?_) <;> first | (exfalso; omega) | ((try simp only [opRun, opSkip, stepRun, pickZ]); (try simp only [go_sem, h]))) | (refine and_om ?_ ?_; focus omega))
  all_goals first
    | (exfalso; omega)
    | exact done_ef2 [] (by simp) rfl (by simp [mA]) (by simp [bC])
theorem next1_end_b (G : List Gl) (all : List Tok) (c : Cmd) (i size z : Nat) (hz : z = 0 ∨ z = 4) (hal : all.length ≤ 16384) (a : Int) (h : all.length ≤ i) : Eff G Tryz.prog 24 [.ptr (some ⟨0, 0⟩), .slice (some ⟨3, 0⟩) 1 1] [(0, rdE c (slT all i) size (some ⟨2, 0⟩)), tkB all z, (3, .cells [.int .i64 a] 3 0 true 0)] 4 (.tuple [.agg [.int .i64 0, .int .i64 0, .str [], .int .i64 0], .bool false]) [(0, rdE c (slT all i) size (some ⟨2, 0⟩)), tkB all z] 4 := by
  unfold Eff
  have e1 : i * 4 + 4 = (i + 1) * 4 := by omega
  have e2 : all.length - i - 1 = all.length - (i + 1) := by omega
  have e3 : i + 1 ≤ all.length → (i + 1) * 4 ≤ all.length * 4 := fun h => by omega
  refine ecalls_in 44 [.cell 4 72, .tmp 5] Tryz.func24 rfl rfl rfl (by kernel_rfl) (le_ble rfl) ?_
  repeat' (first | refine esem_seqK 137438955571 ?_ | refine esem_block ?_ | (refine stp ?_; simp only [go_sem]) | (refine drawQ (id := 4) mixed [(0, []), (1, []), (2, []), (3, []), (7, []), (8, []), (9, []), (4, []), (5, []), (6, []), (10, []), (11, []), (12, [10, 11]), (13, []), (14, []), (15, [])] (by kernel_rfl) ?_; simp only [go_sem]) | (fail) | (refine Eff.at2 (fails_old _ c (slT all i) (.inr ⟨_, _, rfl⟩) size size ) [0, 1, 2] rfl (by first | (simp; done) | (simp; omega) | (simp [bC]; done) | omega) rfl ?_; (try simp only [go_sem])) | (simp only [e1, go_sem, EV.one, List.length_cons, List.length_nil]) | (simp only [e1, e2]) | (simp (disch := omega) only [wE]) | (refine spl (fun h => ?_) (fun h => ?_) <;> first | (exfalso; omega) | ((try simp only [opRun, opSkip, stepRun, pickZ]); (try simp only [go_sem, h]))) | (refine and_om ?_ ?_; focus omega))
  all_goals first
    | (exfalso; omega)
    | exact done_ef2 [] (by simp) rfl (by simp [mA]) (by simp [bC])
theorem next1_no_b (G : List Gl) (all : List Tok) (c : Cmd) (i size z : Nat) (hz : z = 0 ∨ z = 4) (hal : all.length ≤ 16384) (a : Int) (h : i < all.length) (hk : ¬ (((tokAt all i).kind : Int) = a)) : Eff G Tryz.prog 24 [.ptr (some ⟨0, 0⟩), .slice (some ⟨3, 0⟩) 1 1] [(0, rdE c (slT all i) size (some ⟨2, 0⟩)), tkB all z, (3, .cells [.int .i64 a] 3 0 true 0)] 4 (.tuple [.agg (tkE (tokAt all i)), .bool false]) [(0, rdE c (slT all (i + 1)) size (some ⟨2, 0⟩)), tkB all z] 4 := by
  unfold Eff
  have e1 : i * 4 + 4 = (i + 1) * 4 := by omega
  have e2 : all.length - i - 1 = all.length - (i + 1) := by omega
  have e3 : i + 1 ≤ all.length → (i + 1) * 4 ≤ all.length * 4 := fun h => by omega
  have ht := toks_at h
  have hc := contains1_c G a ((tokAt all i).kind : Int)
  rw [decide_eq_false hk] at hc
  refine ecalls_in 44 [.cell 4 72, .tmp 5] Tryz.func24 rfl rfl rfl (by kernel_rfl) (le_ble rfl) ?_
  repeat' (first | refine esem_seqK 137438955571 ?_ | refine esem_block ?_ | (refine stp ?_; simp only [go_sem]) | (refine drawQ (id := 4) mixed [(0, []), (1, []), (2, []), (3, []), (7, []), (8, []), (9, []), (4, []), (5, []), (6, []), (10, []), (11, []), (12, [10, 11]), (13, []), (14, []), (15, [])] (by kernel_rfl) ?_; simp only [go_sem]) | (refine Eff.at2 (hc ) [3] rfl (by first | (simp; done) | (simp; omega) | (simp [bC]; done) | omega) rfl ?_; (try simp only [go_sem])) | (refine Eff.at2 (fails_old _ c (slT all (i + 1)) (.inr ⟨_, _, rfl⟩) size (tokAt all i).at_ ) [0, 1, 2] rfl (by first | (simp; done) | (simp; omega) | (simp [bC]; done) | omega) rfl ?_; (try simp only [go_sem])) | (simp only [ht, go_sem, EV.one, List.length_cons, List.length_nil]) | (simp only [e1, e2]) | (simp (disch := omega) only [wE]) | (refine spl (fun h => ?_) (fun h => ?_) <;> first | (exfalso; omega) | ((try simp only [opRun, opSkip, stepRun, pickZ]); (try simp only [go_sem, h]))) | (refine and_om ?_ ?_; focus omega))
  all_goals first
    | (exfalso; omega)
    | exact done_ef2 [] (by simp) rfl (by simp [mA]) (by simp [bC])
theorem next1_ok_b (G : List Gl) (all : List Tok) (c : Cmd) (i size z : Nat) (hz : z = 0 ∨ z = 4) (hal : all.length ≤ 16384) (a : Int) (h : i < all.length) (hk : ((tokAt all i).kind : Int) = a) : Eff G Tryz.prog 24 [.ptr (some ⟨0, 0⟩), .slice (some ⟨3, 0⟩) 1 1] [(0, rdE c (slT all i) size (some ⟨2, 0⟩)), tkB all z, (3, .cells [.int .i64 a] 3 0 true 0)] 4 (.tuple [.agg (tkE (tokAt all i)), .bool true]) [(0, rdE c (slT all (i + 1)) size (some ⟨2, 0⟩)), tkB all z] 4 := by
  unfold Eff
  have e1 : i * 4 + 4 = (i + 1) * 4 := by omega
  have e2 : all.length - i - 1 = all.length - (i + 1) := by omega
  have e3 : i + 1 ≤ all.length → (i + 1) * 4 ≤ all.length * 4 := fun h => by omega
  have ht := toks_at h
  have hc := contains1_c G a ((tokAt all i).kind : Int)
  rw [decide_eq_true hk] at hc
  refine ecalls_in 44 [.cell 4 72, .tmp 5] Tryz.func24 rfl rfl rfl (by kernel_rfl) (le_ble rfl) ?_
  repeat' (first | refine esem_seqK 137438955571 ?_ | refine esem_block ?_ | (refine stp ?_; simp only [go_sem]) | (refine drawQ (id := 4) mixed [(0, []), (1, []), (2, []), (3, []), (7, []), (8, []), (9, []), (4, []), (5, []), (6, []), (10, []), (11, []), (12, [10, 11]), (13, []), (14, []), (15, [])] (by kernel_rfl) ?_; simp only [go_sem]) | (refine Eff.at2 (hc ) [3] rfl (by first | (simp; done) | (simp; omega) | (simp [bC]; done) | omega) rfl ?_; (try simp only [go_sem])) | (refine Eff.at2 (fails_old _ c (slT all (i + 1)) (.inr ⟨_, _, rfl⟩) size (tokAt all i).at_ ) [0, 1, 2] rfl (by first | (simp; done) | (simp; omega) | (simp [bC]; done) | omega) rfl ?_; (try simp only [go_sem])) | (simp only [ht, go_sem, EV.one, List.length_cons, List.length_nil]) | (simp only [e1, e2]) | (simp (disch := omega) only [wE]) | (refine spl (fun h => ?_) (fun h => ?_) <;> first | (exfalso; omega) | ((try simp only [opRun, opSkip, stepRun, pickZ]); (try simp only [go_sem, h]))) | (refine and_om ?_ ?_; focus omega))
  all_goals first
    | (exfalso; omega)
    | exact done_ef2 [] (by simp) rfl (by simp [mA]) (by simp [bC])
theorem next2_end (G : List Gl) (all : List Tok) (c : Cmd) (i size z : Nat) (hz : z = 0 ∨ z = 4) (hal : all.length ≤ 16384) (a b : Int) (h : all.length ≤ i) : Eff G Tryz.prog 24 [.ptr (some ⟨0, 0⟩), .slice (some ⟨2, 0⟩) 2 2] [(0, rdE c (slT all i) size none), tkB all z, (2, .cells [.int .i64 a, .int .i64 b] 3 0 true 0)] 3 (.tuple [.agg [.int .i64 0, .int .i64 0, .str [], .int .i64 0], .bool false]) [(0, rdE c (slT all i) size (some ⟨3, 0⟩)), tkB all z, (3, faultC 260 size)] 4 := by
  unfold Eff
  have e1 : i * 4 + 4 = (i + 1) * 4 := by omega
  have e2 : all.length - i - 1 = all.length - (i + 1) := by omega
  have e3 : i + 1 ≤ all.length → (i + 1) * 4 ≤ all.length * 4 := fun h => by omega
  refine ecalls_in 44 [.cell 4 72, .tmp 5] Tryz.func24 rfl rfl rfl (by kernel_rfl) (le_ble rfl) ?_
  repeat' (first | refine esem_seqK 137438955571 ?_ | refine esem_block ?_ | (refine stp ?_; simp only [go_sem]) | (refine drawQ (id := 4) mixed [(0, []), (1, []), (2, []), (3, []), (7, []), (8, []), (9, []), (4, []), (5, []), (6, []), (10, []), (11, []), (12, [10, 11]), (13, []), (14, []), (15, [])] (by kernel_rfl) ?_; simp only [go_sem]) | (fail) | (refine Eff.at2 (fails_new _ c (slT all i) (.inr ⟨_, _, rfl⟩) size size ) [0, 1] rfl (by first | (simp; done) | (simp; omega) | (simp [bC]; done) | omega) rfl ?_; (try simp only [go_sem])) | (simp only [e1, go_sem, EV.one, List.length_cons, List.length_nil]) | (simp only [e1, e2]) | (simp (disch := omega) only [wE]) | (refine spl (fun h => ?_) (fun h => ?_) <;> first | (exfalso; omega) | ((try simp only [opRun, opSkip, stepRun, pickZ]); (try simp only [go_sem, h]))) | (refine and_om ?_ ?_; focus omega))
  all_goals first
    | (exfalso; omega)
    | exact done_ef2 [4] (by simp) rfl (by simp [mA]) (by simp [bC])
theorem next2_no (G : List Gl) (all : List Tok) (c : Cmd) (i size z : Nat) (hz : z = 0 ∨ z = 4) (hal : all.length ≤ 16384) (a b : Int) (h : i < all.length) (hk : ¬ (((tokAt all i).kind : Int) = a ∨ ((tokAt all i).kind : Int) = b)) : Eff G Tryz.prog 24 [.ptr (some ⟨0, 0⟩), .slice (some ⟨2, 0⟩) 2 2] [(0, rdE c (slT all i) size none), tkB all z, (2, .cells [.int .i64 a, .int .i64 b] 3 0 true 0)] 3 (.tuple [.agg (tkE (tokAt all i)), .bool false]) [(0, rdE c (slT all (i + 1)) size (some ⟨3, 0⟩)), tkB all z, (3, faultC 260 (tokAt all i).at_)] 4 := by
  unfold Eff
  have e1 : i * 4 + 4 = (i + 1) * 4 := by omega
  have e2 : all.length - i - 1 = all.length - (i + 1) := by omega
  have e3 : i + 1 ≤ all.length → (i + 1) * 4 ≤ all.length * 4 := fun h => by omega
  have ht := toks_at h
  have hc := contains2_c G a b ((tokAt all i).kind : Int)
  rw [decide_eq_false hk] at hc
  refine ecalls_in 44 [.cell 4 72, .tmp 5] Tryz.func24 rfl rfl rfl (by kernel_rfl) (le_ble rfl) ?_
  repeat' (first | refine esem_seqK 137438955571 ?_ | refine esem_block ?_ | (refine stp ?_; simp only [go_sem]) | (refine drawQ (id := 4) mixed [(0, []), (1, []), (2, []), (3, []), (7, []), (8, []), (9, []), (4, []), (5, []), (6, []), (10, []), (11, []), (12, [10, 11]), (13, []), (14, []), (15, [])] (by kernel_rfl) ?_; simp only [go_sem]) | (refine Eff.at2 (hc ) [2] rfl (by first | (simp; done) | (simp; omega) | (simp [bC]; done) | omega) rfl ?_; (try simp only [go_sem])) | (refine Eff.at2 (fails_new _ c (slT all (i + 1)) (.inr ⟨_, _, rfl⟩) size (tokAt all i).at_ ) [0, 1] rfl (by first | (simp; done) | (simp; omega) | (simp [bC]; done) | omega) rfl ?_; (try simp only [go_sem])) | (simp only [ht, go_sem, EV.one, List.length_cons, List.length_nil]) | (simp only [e1, e2]) | (simp (disch := omega) only [wE]) | (refine spl (fun h => ?_) (fun h => ?_) <;> first | (exfalso; omega) | ((try simp only [opRun, opSkip, stepRun, pickZ]); (try simp only [go_sem, h]))) | (refine and_om ?_ ?_; focus omega))
  all_goals first
    | (exfalso; omega)
    | exact done_ef2 [20] (by simp) rfl (by simp [mA]) (by simp [bC])
theorem next2_ok (G : List Gl) (all : List Tok) (c : Cmd) (i size z : Nat) (hz : z = 0 ∨ z = 4) (hal : all.length ≤ 16384) (a b : Int) (h : i < all.length) (hk : ((tokAt all i).kind : Int) = a ∨ ((tokAt all i).kind : Int) = b) : Eff G Tryz.prog 24 [.ptr (some ⟨0, 0⟩), .slice (some ⟨2, 0⟩) 2 2] [(0, rdE c (slT all i) size none), tkB all z, (2, .cells [.int .i64 a, .int .i64 b] 3 0 true 0)] 3 (.tuple [.agg (tkE (tokAt all i)), .bool true]) [(0, rdE c (slT all (i + 1)) size none), tkB all z] 3 := by
  unfold Eff
  have e1 : i * 4 + 4 = (i + 1) * 4 := by omega
  have e2 : all.length - i - 1 = all.length - (i + 1) := by omega
  have e3 : i + 1 ≤ all.length → (i + 1) * 4 ≤ all.length * 4 := fun h => by omega
  have ht := toks_at h
  have hc := contains2_c G a b ((tokAt all i).kind : Int)
  rw [decide_eq_true hk] at hc
  refine ecalls_in 44 [.cell 4 72, .tmp 5] Tryz.func24 rfl rfl rfl (by kernel_rfl) (le_ble rfl) ?_
  repeat' (first | refine esem_seqK 137438955571 ?_ | refine esem_block ?_ | (refine stp ?_; simp only [go_sem]) | (refine drawQ (id := 4) mixed [(0, []), (1, []), (2, []), (3, []), (7, []), (8, []), (9, []), (4, []), (5, []), (6, []), (10, []), (11, []), (12, [10, 11]), (13, []), (14, []), (15, [])] (by kernel_rfl) ?_; simp only [go_sem]) | (refine Eff.at2 (hc ) [2] rfl (by first | (simp; done) | (simp; omega) | (simp [bC]; done) | omega) rfl ?_; (try simp only [go_sem])) | (refine Eff.at2 (fails_new _ c (slT all (i + 1)) (.inr ⟨_, _, rfl⟩) size (tokAt all i).at_ ) [0, 1] rfl (by first | (simp; done) | (simp; omega) | (simp [bC]; done) | omega) rfl ?_; (try simp only [go_sem])) | (simp only [ht, go_sem, EV.one, List.length_cons, List.length_nil]) | (simp only [e1, e2]) | (simp (disch := omega) only [wE]) | (refine spl (fun h => ?_) (fun h => ?_) <;> first | (exfalso; omega) | ((try simp only [opRun, opSkip, stepRun, pickZ]); (try simp only [go_sem, h]))) | (refine and_om ?_ ?_; focus omega))
  all_goals first
    | (exfalso; omega)
    | exact done_ef2 [] (by simp) rfl (by simp [mA]) (by simp [bC])
theorem next2_end_b (G : List Gl) (all : List Tok) (c : Cmd) (i size z : Nat) (hz : z = 0 ∨ z = 4) (hal : all.length ≤ 16384) (a b : Int) (h : all.length ≤ i) : Eff G Tryz.prog 24 [.ptr (some ⟨0, 0⟩), .slice (some ⟨3, 0⟩) 2 2] [(0, rdE c (slT all i) size (some ⟨2, 0⟩)), tkB all z, (3, .cells [.int .i64 a, .int .i64 b] 3 0 true 0)] 4 (.tuple [.agg [.int .i64 0, .int .i64 0, .str [], .int .i64 0], .bool false]) [(0, rdE c (slT all i) size (some ⟨2, 0⟩)), tkB all z] 4 := by
  unfold Eff
  have e1 : i * 4 + 4 = (i + 1) * 4 := by omega
  have e2 : all.length - i - 1 = all.length - (i + 1) := by omega
  have e3 : i + 1 ≤ all.length → (i + 1) * 4 ≤ all.length * 4 := fun h => by omega
  refine ecalls_in 44 [.cell 4 72, .tmp 5] Tryz.func24 rfl rfl rfl (by kernel_rfl) (le_ble rfl) ?_
  repeat' (first | refine esem_seqK 137438955571 ?_ | refine esem_block ?_ | (refine stp ?_; simp only [go_sem]) | (refine drawQ (id := 4) mixed [(0, []), (1, []), (2, []), (3, []), (7, []), (8, []), (9, []), (4, []), (5, []), (6, []), (10, []), (11, []), (12, [10, 11]), (13, []), (14, []), (15, [])] (by kernel_rfl) ?_; simp only [go_sem]) | (fail) | (refine Eff.at2 (fails_old _ c (slT all i) (.inr ⟨_, _, rfl⟩) size size ) [0, 1, 2] rfl (by first | (simp; done) | (simp; omega) | (simp [bC]; done) | omega) rfl ?_; (try simp only [go_sem])) | (simp only [e1, go_sem, EV.one, List.length_cons, List.length_nil]) | (simp only [e1, e2]) | (simp (disch := omega) only [wE]) | (refine spl (fun h => ?_) (fun h => ?_) <;> first | (exfalso; omega) | ((try simp only [opRun, opSkip, stepRun, pickZ]); (try simp only [go_sem, h]))) | (refine and_om ?_ ?_; focus omega))
  all_goals first
    | (exfalso; omega)
    | exact done_ef2 [] (by simp) rfl (by simp [mA]) (by simp [bC])
theorem next2_no_b (G : List Gl) (all : List Tok) (c : Cmd) (i size z : Nat) (hz : z = 0 ∨ z = 4) (hal : all.length ≤ 16384) (a b : Int) (h : i < all.length) (hk : ¬ (((tokAt all i).kind : Int) = a ∨ ((tokAt all i).kind : Int) = b)) : Eff G Tryz.prog 24 [.ptr (some ⟨0, 0⟩), .slice (some ⟨3, 0⟩) 2 2] [(0, rdE c (slT all i) size (some ⟨2, 0⟩)), tkB all z, (3, .cells [.int .i64 a, .int .i64 b] 3 0 true 0)] 4 (.tuple [.agg (tkE (tokAt all i)), .bool false]) [(0, rdE c (slT all (i + 1)) size (some ⟨2, 0⟩)), tkB all z] 4 := by
  unfold Eff
  have e1 : i * 4 + 4 = (i + 1) * 4 := by omega
  have e2 : all.length - i - 1 = all.length - (i + 1) := by omega
  have e3 : i + 1 ≤ all.length → (i + 1) * 4 ≤ all.length * 4 := fun h => by omega
  have ht := toks_at h
  have hc := contains2_c G a b ((tokAt all i).kind : Int)
  rw [decide_eq_false hk] at hc
  refine ecalls_in 44 [.cell 4 72, .tmp 5] Tryz.func24 rfl rfl rfl (by kernel_rfl) (le_ble rfl) ?_
  repeat' (first | refine esem_seqK 137438955571 ?_ | refine esem_block ?_ | (refine stp ?_; simp only [go_sem]) | (refine drawQ (id := 4) mixed [(0, []), (1, []), (2, []), (3, []), (7, []), (8, []), (9, []), (4, []), (5, []), (6, []), (10, []), (11, []), (12, [10, 11]), (13, []), (14, []), (15, [])] (by kernel_rfl) ?_; simp only [go_sem]) | (refine Eff.at2 (hc ) [3] rfl (by first | (simp; done) | (simp; omega) | (simp [bC]; done) | omega) rfl ?_; (try simp only [go_sem])) | (refine Eff.at2 (fails_old _ c (slT all (i + 1)) (.inr ⟨_, _, rfl⟩) size (tokAt all i).at_ ) [0, 1, 2] rfl (by first | (simp; done) | (simp; omega) | (simp [bC]; done) | omega) rfl ?_; (try simp only [go_sem])) | (simp only [ht, go_sem, EV.one, List.length_cons, List.length_nil]) | (simp only [e1, e2]) | (simp (disch := omega) only [wE]) | (refine spl (fun h => ?_) (fun h => ?_) <;> first | (exfalso; omega) | ((try simp only [opRun, opSkip, stepRun, pickZ]); (try simp only [go_sem, h]))) | (refine and_om ?_ ?_; focus omega))
  all_goals first
    | (exfalso; omega)
    | exact done_ef2 [] (by simp) rfl (by simp [mA]) (by simp [bC])
theorem next2_ok_b (G : List Gl) (all : List Tok) (c : Cmd) (i size z : Nat) (hz : z = 0 ∨ z = 4) (hal : all.length ≤ 16384) (a b : Int) (h : i < all.length) (hk : ((tokAt all i).kind : Int) = a ∨ ((tokAt all i).kind : Int) = b) : Eff G Tryz.prog 24 [.ptr (some ⟨0, 0⟩), .slice (some ⟨3, 0⟩) 2 2] [(0, rdE c (slT all i) size (some ⟨2, 0⟩)), tkB all z, (3, .cells [.int .i64 a, .int .i64 b] 3 0 true 0)] 4 (.tuple [.agg (tkE (tokAt all i)), .bool true]) [(0, rdE c (slT all (i + 1)) size (some ⟨2, 0⟩)), tkB all z] 4 := by
  unfold Eff
  have e1 : i * 4 + 4 = (i + 1) * 4 := by omega
  have e2 : all.length - i - 1 = all.length - (i + 1) := by omega
  have e3 : i + 1 ≤ all.length → (i + 1) * 4 ≤ all.length * 4 := fun h => by omega
  have ht := toks_at h
  have hc := contains2_c G a b ((tokAt all i).kind : Int)
  rw [decide_eq_true hk] at hc
  refine ecalls_in 44 [.cell 4 72, .tmp 5] Tryz.func24 rfl rfl rfl (by kernel_rfl) (le_ble rfl) ?_
  repeat' (first | refine esem_seqK 137438955571 ?_ | refine esem_block ?_ | (refine stp ?_; simp only [go_sem]) | (refine drawQ (id := 4) mixed [(0, []), (1, []), (2, []), (3, []), (7, []), (8, []), (9, []), (4, []), (5, []), (6, []), (10, []), (11, []), (12, [10, 11]), (13, []), (14, []), (15, [])] (by kernel_rfl) ?_; simp only [go_sem]) | (refine Eff.at2 (hc ) [3] rfl (by first | (simp; done) | (simp; omega) | (simp [bC]; done) | omega) rfl ?_; (try simp only [go_sem])) | (refine Eff.at2 (fails_old _ c (slT all (i + 1)) (.inr ⟨_, _, rfl⟩) size (tokAt all i).at_ ) [0, 1, 2] rfl (by first | (simp; done) | (simp; omega) | (simp [bC]; done) | omega) rfl ?_; (try simp only [go_sem])) | (simp only [ht, go_sem, EV.one, List.length_cons, List.length_nil]) | (simp only [e1, e2]) | (simp (disch := omega) only [wE]) | (refine spl (fun h => ?_) (fun h => ?_) <;> first | (exfalso; omega) | ((try simp only [opRun, opSkip, stepRun, pickZ]); (try simp only [go_sem, h]))) | (refine and_om ?_ ?_; focus omega))
  all_goals first
    | (exfalso; omega)
    | exact done_ef2 [] (by simp) rfl (by simp [mA]) (by simp [bC])
end Go.Proofs.YtnjbdcdjcfhooaaGreatDoor
namespace Go.Proofs.YtnjbdcdjcfhooaaGreatDoor
open Go.E
set_option linter.all false
set_option maxRecDepth 20000
set_option maxHeartbeats 8000000
theorem doc_end (G : List Gl) (all : List Tok) (c : Cmd) (i size z : Nat) (hz : z = 0 ∨ z = 4) (hal : all.length ≤ 16384) (h : all.length ≤ i) : Eff G Tryz.prog 60 [.ptr (some ⟨0, 0⟩)] [(0, rdE c (slT all i) size none), tkB all z] 2 (.tuple []) [(0, rdE c (slT all i) size (some ⟨2, 0⟩)), tkB all z, (2, faultC 260 size)] 3 := by
  unfold Eff
  refine ecalls_in 17 [] Tryz.func60 rfl rfl rfl (by kernel_rfl) (le_ble rfl) ?_
  repeat' (first | refine esem_seqK 1037 ?_ | refine esem_block ?_ | (refine stp ?_; simp only [go_sem]) | (refine Eff.at2 (next2_end _ all c i size z hz hal 1 3 h ) [0, 1, 2] rfl (by first | (simp; done) | (simp; omega) | (simp [bC]; done) | omega) rfl ?_; (try simp only [go_sem])) | (simp (disch := omega) only [wE]) | (refine spl (fun h => ?_) (fun h => ?_) <;> first | (exfalso; omega) | ((try simp only [opRun, opSkip, stepRun, pickZ]); (try simp only [go_sem, h]))) | (refine and_om ?_ ?_; focus omega))
  all_goals exact done_ef2 [3] (by simp) rfl (by simp [mA]) (by simp [bC])
theorem doc_no (G : List Gl) (all : List Tok) (c : Cmd) (i size z : Nat) (hz : z = 0 ∨ z = 4) (hal : all.length ≤ 16384) (h : i < all.length) (hk : ¬ (((tokAt all i).kind : Int) = 1 ∨ ((tokAt all i).kind : Int) = 3)) : Eff G Tryz.prog 60 [.ptr (some ⟨0, 0⟩)] [(0, rdE c (slT all i) size none), tkB all z] 2 (.tuple []) [(0, rdE c (slT all (i + 1)) size (some ⟨2, 0⟩)), tkB all z, (2, faultC 260 (tokAt all i).at_)] 3 := by
  unfold Eff
  refine ecalls_in 17 [] Tryz.func60 rfl rfl rfl (by kernel_rfl) (le_ble rfl) ?_
  repeat' (first | refine esem_seqK 1037 ?_ | refine esem_block ?_ | (refine stp ?_; simp only [go_sem]) | (refine Eff.at2 (next2_no _ all c i size z hz hal 1 3 h hk ) [0, 1, 2] rfl (by first | (simp; done) | (simp; omega) | (simp [bC]; done) | omega) rfl ?_; (try simp only [go_sem])) | (simp (disch := omega) only [wE]) | (refine spl (fun h => ?_) (fun h => ?_) <;> first | (exfalso; omega) | ((try simp only [opRun, opSkip, stepRun, pickZ]); (try simp only [go_sem, h]))) | (refine and_om ?_ ?_; focus omega))
  all_goals exact done_ef2 [3] (by simp) rfl (by simp [mA]) (by simp [bC])
theorem doc_ok (G : List Gl) (all : List Tok) (c : Cmd) (i size z : Nat) (hz : z = 0 ∨ z = 4) (hal : all.length ≤ 16384) (h : i < all.length) (hk : ((tokAt all i).kind : Int) = 1 ∨ ((tokAt all i).kind : Int) = 3) : Eff G Tryz.prog 60 [.ptr (some ⟨0, 0⟩)] [(0, rdE c (slT all i) size none), tkB all z] 2 (.tuple []) [(0, rdE {c with doc := (tokAt all i).text} (slT all (i + 1)) size none), tkB all z] 2 := by
  unfold Eff
  refine ecalls_in 17 [] Tryz.func60 rfl rfl rfl (by kernel_rfl) (le_ble rfl) ?_
  repeat' (first | refine esem_seqK 1037 ?_ | refine esem_block ?_ | (refine stp ?_; simp only [go_sem]) | (refine Eff.at2 (next2_ok _ all c i size z hz hal 1 3 h hk ) [0, 1, 2] rfl (by first | (simp; done) | (simp; omega) | (simp [bC]; done) | omega) rfl ?_; (try simp only [go_sem])) | (simp (disch := omega) only [wE]) | (refine spl (fun h => ?_) (fun h => ?_) <;> first | (exfalso; omega) | ((try simp only [opRun, opSkip, stepRun, pickZ]); (try simp only [go_sem, h]))) | (refine and_om ?_ ?_; focus omega))
  all_goals exact done_ef2 [] (by simp) rfl (by simp [mA]) (by simp [bC])
theorem doc_end_b (G : List Gl) (all : List Tok) (c : Cmd) (i size z : Nat) (hz : z = 0 ∨ z = 4) (hal : all.length ≤ 16384) (h : all.length ≤ i) : Eff G Tryz.prog 60 [.ptr (some ⟨0, 0⟩)] [(0, rdE c (slT all i) size (some ⟨2, 0⟩)), tkB all z] 3 (.tuple []) [(0, rdE c (slT all i) size (some ⟨2, 0⟩)), tkB all z] 3 := by
  unfold Eff
  refine ecalls_in 17 [] Tryz.func60 rfl rfl rfl (by kernel_rfl) (le_ble rfl) ?_
  repeat' (first | refine esem_seqK 1037 ?_ | refine esem_block ?_ | (refine stp ?_; simp only [go_sem]) | (refine Eff.at2 (next2_end_b _ all c i size z hz hal 1 3 h ) [0, 1, 2, 3] rfl (by first | (simp; done) | (simp; omega) | (simp [bC]; done) | omega) rfl ?_; (try simp only [go_sem])) | (simp (disch := omega) only [wE]) | (refine spl (fun h => ?_) (fun h => ?_) <;> first | (exfalso; omega) | ((try simp only [opRun, opSkip, stepRun, pickZ]); (try simp only [go_sem, h]))) | (refine and_om ?_ ?_; focus omega))
  all_goals exact done_ef2 [] (by simp) rfl (by simp [mA]) (by simp [bC])
theorem doc_no_b (G : List Gl) (all : List Tok) (c : Cmd) (i size z : Nat) (hz : z = 0 ∨ z = 4) (hal : all.length ≤ 16384) (h : i < all.length) (hk : ¬ (((tokAt all i).kind : Int) = 1 ∨ ((tokAt all i).kind : Int) = 3)) : Eff G Tryz.prog 60 [.ptr (some ⟨0, 0⟩)] [(0, rdE c (slT all i) size (some ⟨2, 0⟩)), tkB all z] 3 (.tuple []) [(0, rdE c (slT all (i + 1)) size (some ⟨2, 0⟩)), tkB all z] 3 := by
  unfold Eff
  refine ecalls_in 17 [] Tryz.func60 rfl rfl rfl (by kernel_rfl) (le_ble rfl) ?_
  repeat' (first | refine esem_seqK 1037 ?_ | refine esem_block ?_ | (refine stp ?_; simp only [go_sem]) | (refine Eff.at2 (next2_no_b _ all c i size z hz hal 1 3 h hk ) [0, 1, 2, 3] rfl (by first | (simp; done) | (simp; omega) | (simp [bC]; done) | omega) rfl ?_; (try simp only [go_sem])) | (simp (disch := omega) only [wE]) | (refine spl (fun h => ?_) (fun h => ?_) <;> first | (exfalso; omega) | ((try simp only [opRun, opSkip, stepRun, pickZ]); (try simp only [go_sem, h]))) | (refine and_om ?_ ?_; focus omega))
  all_goals exact done_ef2 [] (by simp) rfl (by simp [mA]) (by simp [bC])
theorem doc_ok_b (G : List Gl) (all : List Tok) (c : Cmd) (i size z : Nat) (hz : z = 0 ∨ z = 4) (hal : all.length ≤ 16384) (h : i < all.length) (hk : ((tokAt all i).kind : Int) = 1 ∨ ((tokAt all i).kind : Int) = 3) : Eff G Tryz.prog 60 [.ptr (some ⟨0, 0⟩)] [(0, rdE c (slT all i) size (some ⟨2, 0⟩)), tkB all z] 3 (.tuple []) [(0, rdE {c with doc := (tokAt all i).text} (slT all (i + 1)) size (some ⟨2, 0⟩)), tkB all z] 3 := by
  unfold Eff
  refine ecalls_in 17 [] Tryz.func60 rfl rfl rfl (by kernel_rfl) (le_ble rfl) ?_
  repeat' (first | refine esem_seqK 1037 ?_ | refine esem_block ?_ | (refine stp ?_; simp only [go_sem]) | (refine Eff.at2 (next2_ok_b _ all c i size z hz hal 1 3 h hk ) [0, 1, 2, 3] rfl (by first | (simp; done) | (simp; omega) | (simp [bC]; done) | omega) rfl ?_; (try simp only [go_sem])) | (simp (disch := omega) only [wE]) | (refine spl (fun h => ?_) (fun h => ?_) <;> first | (exfalso; omega) | ((try simp only [opRun, opSkip, stepRun, pickZ]); (try simp only [go_sem, h]))) | (refine and_om ?_ ?_; focus omega))
  all_goals exact done_ef2 [] (by simp) rfl (by simp [mA]) (by simp [bC])
theorem other_end (G : List Gl) (all : List Tok) (c : Cmd) (i size z : Nat) (hz : z = 0 ∨ z = 4) (hal : all.length ≤ 16384) (h : all.length ≤ i) : Eff G Tryz.prog 61 [.ptr (some ⟨0, 0⟩)] [(0, rdE c (slT all i) size none), tkB all z] 2 (.tuple []) [(0, rdE c (slT all i) size (some ⟨2, 0⟩)), tkB all z, (2, faultC 260 size)] 3 := by
  unfold Eff
  refine ecalls_in 17 [] Tryz.func61 rfl rfl rfl (by kernel_rfl) (le_ble rfl) ?_
  repeat' (first | refine esem_seqK 1037 ?_ | refine esem_block ?_ | (refine stp ?_; simp only [go_sem]) | (refine Eff.at2 (next2_end _ all c i size z hz hal 1 3 h ) [0, 1, 2] rfl (by first | (simp; done) | (simp; omega) | (simp [bC]; done) | omega) rfl ?_; (try simp only [go_sem])) | (simp (disch := omega) only [wE]) | (refine spl (fun h => ?_) (fun h => ?_) <;> first | (exfalso; omega) | ((try simp only [opRun, opSkip, stepRun, pickZ]); (try simp only [go_sem, h]))) | (refine and_om ?_ ?_; focus omega))
  all_goals exact done_ef2 [3] (by simp) rfl (by simp [mA]) (by simp [bC])
theorem other_no (G : List Gl) (all : List Tok) (c : Cmd) (i size z : Nat) (hz : z = 0 ∨ z = 4) (hal : all.length ≤ 16384) (h : i < all.length) (hk : ¬ (((tokAt all i).kind : Int) = 1 ∨ ((tokAt all i).kind : Int) = 3)) : Eff G Tryz.prog 61 [.ptr (some ⟨0, 0⟩)] [(0, rdE c (slT all i) size none), tkB all z] 2 (.tuple []) [(0, rdE c (slT all (i + 1)) size (some ⟨2, 0⟩)), tkB all z, (2, faultC 260 (tokAt all i).at_)] 3 := by
  unfold Eff
  refine ecalls_in 17 [] Tryz.func61 rfl rfl rfl (by kernel_rfl) (le_ble rfl) ?_
  repeat' (first | refine esem_seqK 1037 ?_ | refine esem_block ?_ | (refine stp ?_; simp only [go_sem]) | (refine Eff.at2 (next2_no _ all c i size z hz hal 1 3 h hk ) [0, 1, 2] rfl (by first | (simp; done) | (simp; omega) | (simp [bC]; done) | omega) rfl ?_; (try simp only [go_sem])) | (simp (disch := omega) only [wE]) | (refine spl (fun h => ?_) (fun h => ?_) <;> first | (exfalso; omega) | ((try simp only [opRun, opSkip, stepRun, pickZ]); (try simp only [go_sem, h]))) | (refine and_om ?_ ?_; focus omega))
  all_goals exact done_ef2 [3] (by simp) rfl (by simp [mA]) (by simp [bC])
theorem other_ok (G : List Gl) (all : List Tok) (c : Cmd) (i size z : Nat) (hz : z = 0 ∨ z = 4) (hal : all.length ≤ 16384) (h : i < all.length) (hk : ((tokAt all i).kind : Int) = 1 ∨ ((tokAt all i).kind : Int) = 3) : Eff G Tryz.prog 61 [.ptr (some ⟨0, 0⟩)] [(0, rdE c (slT all i) size none), tkB all z] 2 (.tuple []) [(0, rdE {c with text := (tokAt all i).text} (slT all (i + 1)) size none), tkB all z] 2 := by
  unfold Eff
  refine ecalls_in 17 [] Tryz.func61 rfl rfl rfl (by kernel_rfl) (le_ble rfl) ?_
  repeat' (first | refine esem_seqK 1037 ?_ | refine esem_block ?_ | (refine stp ?_; simp only [go_sem]) | (refine Eff.at2 (next2_ok _ all c i size z hz hal 1 3 h hk ) [0, 1, 2] rfl (by first | (simp; done) | (simp; omega) | (simp [bC]; done) | omega) rfl ?_; (try simp only [go_sem])) | (simp (disch := omega) only [wE]) | (refine spl (fun h => ?_) (fun h => ?_) <;> first | (exfalso; omega) | ((try simp only [opRun, opSkip, stepRun, pickZ]); (try simp only [go_sem, h]))) | (refine and_om ?_ ?_; focus omega))
  all_goals exact done_ef2 [] (by simp) rfl (by simp [mA]) (by simp [bC])
theorem other_end_b (G : List Gl) (all : List Tok) (c : Cmd) (i size z : Nat) (hz : z = 0 ∨ z = 4) (hal : all.length ≤ 16384) (h : all.length ≤ i) : Eff G Tryz.prog 61 [.ptr (some ⟨0, 0⟩)] [(0, rdE c (slT all i) size (some ⟨2, 0⟩)), tkB all z] 3 (.tuple []) [(0, rdE c (slT all i) size (some ⟨2, 0⟩)), tkB all z] 3 := by
  unfold Eff
  refine ecalls_in 17 [] Tryz.func61 rfl rfl rfl (by kernel_rfl) (le_ble rfl) ?_
  repeat' (first | refine esem_seqK 1037 ?_ | refine esem_block ?_ | (refine stp ?_; simp only [go_sem]) | (refine Eff.at2 (next2_end_b _ all c i size z hz hal 1 3 h ) [0, 1, 2, 3] rfl (by first | (simp; done) | (simp; omega) | (simp [bC]; done) | omega) rfl ?_; (try simp only [go_sem])) | (simp (disch := omega) only [wE]) | (refine spl (fun h => ?_) (fun h => ?_) <;> first | (exfalso; omega) | ((try simp only [opRun, opSkip, stepRun, pickZ]); (try simp only [go_sem, h]))) | (refine and_om ?_ ?_; focus omega))
  all_goals exact done_ef2 [] (by simp) rfl (by simp [mA]) (by simp [bC])
theorem other_no_b (G : List Gl) (all : List Tok) (c : Cmd) (i size z : Nat) (hz : z = 0 ∨ z = 4) (hal : all.length ≤ 16384) (h : i < all.length) (hk : ¬ (((tokAt all i).kind : Int) = 1 ∨ ((tokAt all i).kind : Int) = 3)) : Eff G Tryz.prog 61 [.ptr (some ⟨0, 0⟩)] [(0, rdE c (slT all i) size (some ⟨2, 0⟩)), tkB all z] 3 (.tuple []) [(0, rdE c (slT all (i + 1)) size (some ⟨2, 0⟩)), tkB all z] 3 := by
  unfold Eff
  refine ecalls_in 17 [] Tryz.func61 rfl rfl rfl (by kernel_rfl) (le_ble rfl) ?_
  repeat' (first | refine esem_seqK 1037 ?_ | refine esem_block ?_ | (refine stp ?_; simp only [go_sem]) | (refine Eff.at2 (next2_no_b _ all c i size z hz hal 1 3 h hk ) [0, 1, 2, 3] rfl (by first | (simp; done) | (simp; omega) | (simp [bC]; done) | omega) rfl ?_; (try simp only [go_sem])) | (simp (disch := omega) only [wE]) | (refine spl (fun h => ?_) (fun h => ?_) <;> first | (exfalso; omega) | ((try simp only [opRun, opSkip, stepRun, pickZ]); (try simp only [go_sem, h]))) | (refine and_om ?_ ?_; focus omega))
  all_goals exact done_ef2 [] (by simp) rfl (by simp [mA]) (by simp [bC])
theorem other_ok_b (G : List Gl) (all : List Tok) (c : Cmd) (i size z : Nat) (hz : z = 0 ∨ z = 4) (hal : all.length ≤ 16384) (h : i < all.length) (hk : ((tokAt all i).kind : Int) = 1 ∨ ((tokAt all i).kind : Int) = 3) : Eff G Tryz.prog 61 [.ptr (some ⟨0, 0⟩)] [(0, rdE c (slT all i) size (some ⟨2, 0⟩)), tkB all z] 3 (.tuple []) [(0, rdE {c with text := (tokAt all i).text} (slT all (i + 1)) size (some ⟨2, 0⟩)), tkB all z] 3 := by
  unfold Eff
  refine ecalls_in 17 [] Tryz.func61 rfl rfl rfl (by kernel_rfl) (le_ble rfl) ?_
  repeat' (first | refine esem_seqK 1037 ?_ | refine esem_block ?_ | (refine stp ?_; simp only [go_sem]) | (refine Eff.at2 (next2_ok_b _ all c i size z hz hal 1 3 h hk ) [0, 1, 2, 3] rfl (by first | (simp; done) | (simp; omega) | (simp [bC]; done) | omega) rfl ?_; (try simp only [go_sem])) | (simp (disch := omega) only [wE]) | (refine spl (fun h => ?_) (fun h => ?_) <;> first | (exfalso; omega) | ((try simp only [opRun, opSkip, stepRun, pickZ]); (try simp only [go_sem, h]))) | (refine and_om ?_ ?_; focus omega))
  all_goals exact done_ef2 [] (by simp) rfl (by simp [mA]) (by simp [bC])
theorem text_end (G : List Gl) (all : List Tok) (c : Cmd) (i size z : Nat) (hz : z = 0 ∨ z = 4) (hal : all.length ≤ 16384) (h : all.length ≤ i) : Eff G Tryz.prog 63 [.ptr (some ⟨0, 0⟩)] [(0, rdE c (slT all i) size none), tkB all z] 2 (.tuple []) [(0, rdE c (slT all i) size (some ⟨2, 0⟩)), tkB all z, (2, faultC 260 size)] 3 := by
  unfold Eff
  refine ecalls_in 17 [] Tryz.func63 rfl rfl rfl (by kernel_rfl) (le_ble rfl) ?_
  repeat' (first | refine esem_seqK 1037 ?_ | refine esem_block ?_ | (refine stp ?_; simp only [go_sem]) | (refine Eff.at2 (next1_end _ all c i size z hz hal 3 h ) [0, 1, 2] rfl (by first | (simp; done) | (simp; omega) | (simp [bC]; done) | omega) rfl ?_; (try simp only [go_sem])) | (simp (disch := omega) only [wE]) | (refine spl (fun h => ?_) (fun h => ?_) <;> first | (exfalso; omega) | ((try simp only [opRun, opSkip, stepRun, pickZ]); (try simp only [go_sem, h]))) | (refine and_om ?_ ?_; focus omega))
  all_goals exact done_ef2 [3] (by simp) rfl (by simp [mA]) (by simp [bC])
theorem text_no (G : List Gl) (all : List Tok) (c : Cmd) (i size z : Nat) (hz : z = 0 ∨ z = 4) (hal : all.length ≤ 16384) (h : i < all.length) (hk : ¬ (((tokAt all i).kind : Int) = 3)) : Eff G Tryz.prog 63 [.ptr (some ⟨0, 0⟩)] [(0, rdE c (slT all i) size none), tkB all z] 2 (.tuple []) [(0, rdE c (slT all (i + 1)) size (some ⟨2, 0⟩)), tkB all z, (2, faultC 260 (tokAt all i).at_)] 3 := by
  unfold Eff
  refine ecalls_in 17 [] Tryz.func63 rfl rfl rfl (by kernel_rfl) (le_ble rfl) ?_
  repeat' (first | refine esem_seqK 1037 ?_ | refine esem_block ?_ | (refine stp ?_; simp only [go_sem]) | (refine Eff.at2 (next1_no _ all c i size z hz hal 3 h hk ) [0, 1, 2] rfl (by first | (simp; done) | (simp; omega) | (simp [bC]; done) | omega) rfl ?_; (try simp only [go_sem])) | (simp (disch := omega) only [wE]) | (refine spl (fun h => ?_) (fun h => ?_) <;> first | (exfalso; omega) | ((try simp only [opRun, opSkip, stepRun, pickZ]); (try simp only [go_sem, h]))) | (refine and_om ?_ ?_; focus omega))
  all_goals exact done_ef2 [3] (by simp) rfl (by simp [mA]) (by simp [bC])
theorem text_ok (G : List Gl) (all : List Tok) (c : Cmd) (i size z : Nat) (hz : z = 0 ∨ z = 4) (hal : all.length ≤ 16384) (h : i < all.length) (hk : ((tokAt all i).kind : Int) = 3) : Eff G Tryz.prog 63 [.ptr (some ⟨0, 0⟩)] [(0, rdE c (slT all i) size none), tkB all z] 2 (.tuple []) [(0, rdE {c with text := (tokAt all i).text} (slT all (i + 1)) size none), tkB all z] 2 := by
  unfold Eff
  refine ecalls_in 17 [] Tryz.func63 rfl rfl rfl (by kernel_rfl) (le_ble rfl) ?_
  repeat' (first | refine esem_seqK 1037 ?_ | refine esem_block ?_ | (refine stp ?_; simp only [go_sem]) | (refine Eff.at2 (next1_ok _ all c i size z hz hal 3 h hk ) [0, 1, 2] rfl (by first | (simp; done) | (simp; omega) | (simp [bC]; done) | omega) rfl ?_; (try simp only [go_sem])) | (simp (disch := omega) only [wE]) | (refine spl (fun h => ?_) (fun h => ?_) <;> first | (exfalso; omega) | ((try simp only [opRun, opSkip, stepRun, pickZ]); (try simp only [go_sem, h]))) | (refine and_om ?_ ?_; focus omega))
  all_goals exact done_ef2 [] (by simp) rfl (by simp [mA]) (by simp [bC])
theorem text_end_b (G : List Gl) (all : List Tok) (c : Cmd) (i size z : Nat) (hz : z = 0 ∨ z = 4) (hal : all.length ≤ 16384) (h : all.length ≤ i) : Eff G Tryz.prog 63 [.ptr (some ⟨0, 0⟩)] [(0, rdE c (slT all i) size (some ⟨2, 0⟩)), tkB all z] 3 (.tuple []) [(0, rdE c (slT all i) size (some ⟨2, 0⟩)), tkB all z] 3 := by
  unfold Eff
  refine ecalls_in 17 [] Tryz.func63 rfl rfl rfl (by kernel_rfl) (le_ble rfl) ?_
  repeat' (first | refine esem_seqK 1037 ?_ | refine esem_block ?_ | (refine stp ?_; simp only [go_sem]) | (refine Eff.at2 (next1_end_b _ all c i size z hz hal 3 h ) [0, 1, 2, 3] rfl (by first | (simp; done) | (simp; omega) | (simp [bC]; done) | omega) rfl ?_; (try simp only [go_sem])) | (simp (disch := omega) only [wE]) | (refine spl (fun h => ?_) (fun h => ?_) <;> first | (exfalso; omega) | ((try simp only [opRun, opSkip, stepRun, pickZ]); (try simp only [go_sem, h]))) | (refine and_om ?_ ?_; focus omega))
  all_goals exact done_ef2 [] (by simp) rfl (by simp [mA]) (by simp [bC])
theorem text_no_b (G : List Gl) (all : List Tok) (c : Cmd) (i size z : Nat) (hz : z = 0 ∨ z = 4) (hal : all.length ≤ 16384) (h : i < all.length) (hk : ¬ (((tokAt all i).kind : Int) = 3)) : Eff G Tryz.prog 63 [.ptr (some ⟨0, 0⟩)] [(0, rdE c (slT all i) size (some ⟨2, 0⟩)), tkB all z] 3 (.tuple []) [(0, rdE c (slT all (i + 1)) size (some ⟨2, 0⟩)), tkB all z] 3 := by
  unfold Eff
  refine ecalls_in 17 [] Tryz.func63 rfl rfl rfl (by kernel_rfl) (le_ble rfl) ?_
  repeat' (first | refine esem_seqK 1037 ?_ | refine esem_block ?_ | (refine stp ?_; simp only [go_sem]) | (refine Eff.at2 (next1_no_b _ all c i size z hz hal 3 h hk ) [0, 1, 2, 3] rfl (by first | (simp; done) | (simp; omega) | (simp [bC]; done) | omega) rfl ?_; (try simp only [go_sem])) | (simp (disch := omega) only [wE]) | (refine spl (fun h => ?_) (fun h => ?_) <;> first | (exfalso; omega) | ((try simp only [opRun, opSkip, stepRun, pickZ]); (try simp only [go_sem, h]))) | (refine and_om ?_ ?_; focus omega))
  all_goals exact done_ef2 [] (by simp) rfl (by simp [mA]) (by simp [bC])
theorem text_ok_b (G : List Gl) (all : List Tok) (c : Cmd) (i size z : Nat) (hz : z = 0 ∨ z = 4) (hal : all.length ≤ 16384) (h : i < all.length) (hk : ((tokAt all i).kind : Int) = 3) : Eff G Tryz.prog 63 [.ptr (some ⟨0, 0⟩)] [(0, rdE c (slT all i) size (some ⟨2, 0⟩)), tkB all z] 3 (.tuple []) [(0, rdE {c with text := (tokAt all i).text} (slT all (i + 1)) size (some ⟨2, 0⟩)), tkB all z] 3 := by
  unfold Eff
  refine ecalls_in 17 [] Tryz.func63 rfl rfl rfl (by kernel_rfl) (le_ble rfl) ?_
  repeat' (first | refine esem_seqK 1037 ?_ | refine esem_block ?_ | (refine stp ?_; simp only [go_sem]) | (refine Eff.at2 (next1_ok_b _ all c i size z hz hal 3 h hk ) [0, 1, 2, 3] rfl (by first | (simp; done) | (simp; omega) | (simp [bC]; done) | omega) rfl ?_; (try simp only [go_sem])) | (simp (disch := omega) only [wE]) | (refine spl (fun h => ?_) (fun h => ?_) <;> first | (exfalso; omega) | ((try simp only [opRun, opSkip, stepRun, pickZ]); (try simp only [go_sem, h]))) | (refine and_om ?_ ?_; focus omega))
  all_goals exact done_ef2 [] (by simp) rfl (by simp [mA]) (by simp [bC])
theorem from_end (G : List Gl) (all : List Tok) (c : Cmd) (i size z : Nat) (hz : z = 0 ∨ z = 4) (hal : all.length ≤ 16384) (h : all.length ≤ i) : Eff G Tryz.prog 62 [.ptr (some ⟨0, 0⟩)] [(0, rdE c (slT all i) size none), tkB all z] 2 (.tuple []) [(0, rdE c (slT all i) size (some ⟨2, 0⟩)), tkB all z, (2, faultC 260 size)] 3 := by
  unfold Eff
  refine ecalls_in 17 [] Tryz.func62 rfl rfl rfl (by kernel_rfl) (le_ble rfl) ?_
  repeat' (first | refine esem_seqK 1037 ?_ | refine esem_block ?_ | (refine stp ?_; simp only [go_sem]) | (refine Eff.at2 (next1_end _ all c i size z hz hal 2 h ) [0, 1, 2] rfl (by first | (simp; done) | (simp; omega) | (simp [bC]; done) | omega) rfl ?_; (try simp only [go_sem])) | (simp (disch := omega) only [wE]) | (refine spl (fun h => ?_) (fun h => ?_) <;> first | (exfalso; omega) | ((try simp only [opRun, opSkip, stepRun, pickZ]); (try simp only [go_sem, h]))) | (refine and_om ?_ ?_; focus omega))
  all_goals exact done_ef2 [3] (by simp) rfl (by simp [mA]) (by simp [bC])
theorem from_no (G : List Gl) (all : List Tok) (c : Cmd) (i size z : Nat) (hz : z = 0 ∨ z = 4) (hal : all.length ≤ 16384) (h : i < all.length) (hk : ¬ (((tokAt all i).kind : Int) = 2)) : Eff G Tryz.prog 62 [.ptr (some ⟨0, 0⟩)] [(0, rdE c (slT all i) size none), tkB all z] 2 (.tuple []) [(0, rdE c (slT all (i + 1)) size (some ⟨2, 0⟩)), tkB all z, (2, faultC 260 (tokAt all i).at_)] 3 := by
  unfold Eff
  refine ecalls_in 17 [] Tryz.func62 rfl rfl rfl (by kernel_rfl) (le_ble rfl) ?_
  repeat' (first | refine esem_seqK 1037 ?_ | refine esem_block ?_ | (refine stp ?_; simp only [go_sem]) | (refine Eff.at2 (next1_no _ all c i size z hz hal 2 h hk ) [0, 1, 2] rfl (by first | (simp; done) | (simp; omega) | (simp [bC]; done) | omega) rfl ?_; (try simp only [go_sem])) | (simp (disch := omega) only [wE]) | (refine spl (fun h => ?_) (fun h => ?_) <;> first | (exfalso; omega) | ((try simp only [opRun, opSkip, stepRun, pickZ]); (try simp only [go_sem, h]))) | (refine and_om ?_ ?_; focus omega))
  all_goals exact done_ef2 [3] (by simp) rfl (by simp [mA]) (by simp [bC])
theorem from_ok (G : List Gl) (all : List Tok) (c : Cmd) (i size z : Nat) (hz : z = 0 ∨ z = 4) (hal : all.length ≤ 16384) (h : i < all.length) (hk : ((tokAt all i).kind : Int) = 2) : Eff G Tryz.prog 62 [.ptr (some ⟨0, 0⟩)] [(0, rdE c (slT all i) size none), tkB all z] 2 (.tuple []) [(0, rdE {c with frm := (tokAt all i).num} (slT all (i + 1)) size none), tkB all z] 2 := by
  unfold Eff
  refine ecalls_in 17 [] Tryz.func62 rfl rfl rfl (by kernel_rfl) (le_ble rfl) ?_
  repeat' (first | refine esem_seqK 1037 ?_ | refine esem_block ?_ | (refine stp ?_; simp only [go_sem]) | (refine Eff.at2 (next1_ok _ all c i size z hz hal 2 h hk ) [0, 1, 2] rfl (by first | (simp; done) | (simp; omega) | (simp [bC]; done) | omega) rfl ?_; (try simp only [go_sem])) | (simp (disch := omega) only [wE]) | (refine spl (fun h => ?_) (fun h => ?_) <;> first | (exfalso; omega) | ((try simp only [opRun, opSkip, stepRun, pickZ]); (try simp only [go_sem, h]))) | (refine and_om ?_ ?_; focus omega))
  all_goals exact done_ef2 [] (by simp) rfl (by simp [mA]) (by simp [bC])
theorem from_end_b (G : List Gl) (all : List Tok) (c : Cmd) (i size z : Nat) (hz : z = 0 ∨ z = 4) (hal : all.length ≤ 16384) (h : all.length ≤ i) : Eff G Tryz.prog 62 [.ptr (some ⟨0, 0⟩)] [(0, rdE c (slT all i) size (some ⟨2, 0⟩)), tkB all z] 3 (.tuple []) [(0, rdE c (slT all i) size (some ⟨2, 0⟩)), tkB all z] 3 := by
  unfold Eff
  refine ecalls_in 17 [] Tryz.func62 rfl rfl rfl (by kernel_rfl) (le_ble rfl) ?_
  repeat' (first | refine esem_seqK 1037 ?_ | refine esem_block ?_ | (refine stp ?_; simp only [go_sem]) | (refine Eff.at2 (next1_end_b _ all c i size z hz hal 2 h ) [0, 1, 2, 3] rfl (by first | (simp; done) | (simp; omega) | (simp [bC]; done) | omega) rfl ?_; (try simp only [go_sem])) | (simp (disch := omega) only [wE]) | (refine spl (fun h => ?_) (fun h => ?_) <;> first | (exfalso; omega) | ((try simp only [opRun, opSkip, stepRun, pickZ]); (try simp only [go_sem, h]))) | (refine and_om ?_ ?_; focus omega))
  all_goals exact done_ef2 [] (by simp) rfl (by simp [mA]) (by simp [bC])
theorem from_no_b (G : List Gl) (all : List Tok) (c : Cmd) (i size z : Nat) (hz : z = 0 ∨ z = 4) (hal : all.length ≤ 16384) (h : i < all.length) (hk : ¬ (((tokAt all i).kind : Int) = 2)) : Eff G Tryz.prog 62 [.ptr (some ⟨0, 0⟩)] [(0, rdE c (slT all i) size (some ⟨2, 0⟩)), tkB all z] 3 (.tuple []) [(0, rdE c (slT all (i + 1)) size (some ⟨2, 0⟩)), tkB all z] 3 := by
  unfold Eff
  refine ecalls_in 17 [] Tryz.func62 rfl rfl rfl (by kernel_rfl) (le_ble rfl) ?_
  repeat' (first | refine esem_seqK 1037 ?_ | refine esem_block ?_ | (refine stp ?_; simp only [go_sem]) | (refine Eff.at2 (next1_no_b _ all c i size z hz hal 2 h hk ) [0, 1, 2, 3] rfl (by first | (simp; done) | (simp; omega) | (simp [bC]; done) | omega) rfl ?_; (try simp only [go_sem])) | (simp (disch := omega) only [wE]) | (refine spl (fun h => ?_) (fun h => ?_) <;> first | (exfalso; omega) | ((try simp only [opRun, opSkip, stepRun, pickZ]); (try simp only [go_sem, h]))) | (refine and_om ?_ ?_; focus omega))
  all_goals exact done_ef2 [] (by simp) rfl (by simp [mA]) (by simp [bC])
theorem from_ok_b (G : List Gl) (all : List Tok) (c : Cmd) (i size z : Nat) (hz : z = 0 ∨ z = 4) (hal : all.length ≤ 16384) (h : i < all.length) (hk : ((tokAt all i).kind : Int) = 2) : Eff G Tryz.prog 62 [.ptr (some ⟨0, 0⟩)] [(0, rdE c (slT all i) size (some ⟨2, 0⟩)), tkB all z] 3 (.tuple []) [(0, rdE {c with frm := (tokAt all i).num} (slT all (i + 1)) size (some ⟨2, 0⟩)), tkB all z] 3 := by
  unfold Eff
  refine ecalls_in 17 [] Tryz.func62 rfl rfl rfl (by kernel_rfl) (le_ble rfl) ?_
  repeat' (first | refine esem_seqK 1037 ?_ | refine esem_block ?_ | (refine stp ?_; simp only [go_sem]) | (refine Eff.at2 (next1_ok_b _ all c i size z hz hal 2 h hk ) [0, 1, 2, 3] rfl (by first | (simp; done) | (simp; omega) | (simp [bC]; done) | omega) rfl ?_; (try simp only [go_sem])) | (simp (disch := omega) only [wE]) | (refine spl (fun h => ?_) (fun h => ?_) <;> first | (exfalso; omega) | ((try simp only [opRun, opSkip, stepRun, pickZ]); (try simp only [go_sem, h]))) | (refine and_om ?_ ?_; focus omega))
  all_goals exact done_ef2 [] (by simp) rfl (by simp [mA]) (by simp [bC])
theorem to_end (G : List Gl) (all : List Tok) (c : Cmd) (i size z : Nat) (hz : z = 0 ∨ z = 4) (hal : all.length ≤ 16384) (h : all.length ≤ i) : Eff G Tryz.prog 64 [.ptr (some ⟨0, 0⟩)] [(0, rdE c (slT all i) size none), tkB all z] 2 (.tuple []) [(0, rdE c (slT all i) size (some ⟨2, 0⟩)), tkB all z, (2, faultC 260 size)] 3 := by
  unfold Eff
  refine ecalls_in 17 [] Tryz.func64 rfl rfl rfl (by kernel_rfl) (le_ble rfl) ?_
  repeat' (first | refine esem_seqK 1037 ?_ | refine esem_block ?_ | (refine stp ?_; simp only [go_sem]) | (refine Eff.at2 (next1_end _ all c i size z hz hal 2 h ) [0, 1, 2] rfl (by first | (simp; done) | (simp; omega) | (simp [bC]; done) | omega) rfl ?_; (try simp only [go_sem])) | (simp (disch := omega) only [wE]) | (refine spl (fun h => ?_) (fun h => ?_) <;> first | (exfalso; omega) | ((try simp only [opRun, opSkip, stepRun, pickZ]); (try simp only [go_sem, h]))) | (refine and_om ?_ ?_; focus omega))
  all_goals exact done_ef2 [3] (by simp) rfl (by simp [mA]) (by simp [bC])
theorem to_no (G : List Gl) (all : List Tok) (c : Cmd) (i size z : Nat) (hz : z = 0 ∨ z = 4) (hal : all.length ≤ 16384) (h : i < all.length) (hk : ¬ (((tokAt all i).kind : Int) = 2)) : Eff G Tryz.prog 64 [.ptr (some ⟨0, 0⟩)] [(0, rdE c (slT all i) size none), tkB all z] 2 (.tuple []) [(0, rdE c (slT all (i + 1)) size (some ⟨2, 0⟩)), tkB all z, (2, faultC 260 (tokAt all i).at_)] 3 := by
  unfold Eff
  refine ecalls_in 17 [] Tryz.func64 rfl rfl rfl (by kernel_rfl) (le_ble rfl) ?_
  repeat' (first | refine esem_seqK 1037 ?_ | refine esem_block ?_ | (refine stp ?_; simp only [go_sem]) | (refine Eff.at2 (next1_no _ all c i size z hz hal 2 h hk ) [0, 1, 2] rfl (by first | (simp; done) | (simp; omega) | (simp [bC]; done) | omega) rfl ?_; (try simp only [go_sem])) | (simp (disch := omega) only [wE]) | (refine spl (fun h => ?_) (fun h => ?_) <;> first | (exfalso; omega) | ((try simp only [opRun, opSkip, stepRun, pickZ]); (try simp only [go_sem, h]))) | (refine and_om ?_ ?_; focus omega))
  all_goals exact done_ef2 [3] (by simp) rfl (by simp [mA]) (by simp [bC])
theorem to_ok (G : List Gl) (all : List Tok) (c : Cmd) (i size z : Nat) (hz : z = 0 ∨ z = 4) (hal : all.length ≤ 16384) (h : i < all.length) (hk : ((tokAt all i).kind : Int) = 2) : Eff G Tryz.prog 64 [.ptr (some ⟨0, 0⟩)] [(0, rdE c (slT all i) size none), tkB all z] 2 (.tuple []) [(0, rdE {c with to := (tokAt all i).num} (slT all (i + 1)) size none), tkB all z] 2 := by
  unfold Eff
  refine ecalls_in 17 [] Tryz.func64 rfl rfl rfl (by kernel_rfl) (le_ble rfl) ?_
  repeat' (first | refine esem_seqK 1037 ?_ | refine esem_block ?_ | (refine stp ?_; simp only [go_sem]) | (refine Eff.at2 (next1_ok _ all c i size z hz hal 2 h hk ) [0, 1, 2] rfl (by first | (simp; done) | (simp; omega) | (simp [bC]; done) | omega) rfl ?_; (try simp only [go_sem])) | (simp (disch := omega) only [wE]) | (refine spl (fun h => ?_) (fun h => ?_) <;> first | (exfalso; omega) | ((try simp only [opRun, opSkip, stepRun, pickZ]); (try simp only [go_sem, h]))) | (refine and_om ?_ ?_; focus omega))
  all_goals exact done_ef2 [] (by simp) rfl (by simp [mA]) (by simp [bC])
theorem to_end_b (G : List Gl) (all : List Tok) (c : Cmd) (i size z : Nat) (hz : z = 0 ∨ z = 4) (hal : all.length ≤ 16384) (h : all.length ≤ i) : Eff G Tryz.prog 64 [.ptr (some ⟨0, 0⟩)] [(0, rdE c (slT all i) size (some ⟨2, 0⟩)), tkB all z] 3 (.tuple []) [(0, rdE c (slT all i) size (some ⟨2, 0⟩)), tkB all z] 3 := by
  unfold Eff
  refine ecalls_in 17 [] Tryz.func64 rfl rfl rfl (by kernel_rfl) (le_ble rfl) ?_
  repeat' (first | refine esem_seqK 1037 ?_ | refine esem_block ?_ | (refine stp ?_; simp only [go_sem]) | (refine Eff.at2 (next1_end_b _ all c i size z hz hal 2 h ) [0, 1, 2, 3] rfl (by first | (simp; done) | (simp; omega) | (simp [bC]; done) | omega) rfl ?_; (try simp only [go_sem])) | (simp (disch := omega) only [wE]) | (refine spl (fun h => ?_) (fun h => ?_) <;> first | (exfalso; omega) | ((try simp only [opRun, opSkip, stepRun, pickZ]); (try simp only [go_sem, h]))) | (refine and_om ?_ ?_; focus omega))
  all_goals exact done_ef2 [] (by simp) rfl (by simp [mA]) (by simp [bC])
theorem to_no_b (G : List Gl) (all : List Tok) (c : Cmd) (i size z : Nat) (hz : z = 0 ∨ z = 4) (hal : all.length ≤ 16384) (h : i < all.length) (hk : ¬ (((tokAt all i).kind : Int) = 2)) : Eff G Tryz.prog 64 [.ptr (some ⟨0, 0⟩)] [(0, rdE c (slT all i) size (some ⟨2, 0⟩)), tkB all z] 3 (.tuple []) [(0, rdE c (slT all (i + 1)) size (some ⟨2, 0⟩)), tkB all z] 3 := by
  unfold Eff
  refine ecalls_in 17 [] Tryz.func64 rfl rfl rfl (by kernel_rfl) (le_ble rfl) ?_
  repeat' (first | refine esem_seqK 1037 ?_ | refine esem_block ?_ | (refine stp ?_; simp only [go_sem]) | (refine Eff.at2 (next1_no_b _ all c i size z hz hal 2 h hk ) [0, 1, 2, 3] rfl (by first | (simp; done) | (simp; omega) | (simp [bC]; done) | omega) rfl ?_; (try simp only [go_sem])) | (simp (disch := omega) only [wE]) | (refine spl (fun h => ?_) (fun h => ?_) <;> first | (exfalso; omega) | ((try simp only [opRun, opSkip, stepRun, pickZ]); (try simp only [go_sem, h]))) | (refine and_om ?_ ?_; focus omega))
  all_goals exact done_ef2 [] (by simp) rfl (by simp [mA]) (by simp [bC])
theorem to_ok_b (G : List Gl) (all : List Tok) (c : Cmd) (i size z : Nat) (hz : z = 0 ∨ z = 4) (hal : all.length ≤ 16384) (h : i < all.length) (hk : ((tokAt all i).kind : Int) = 2) : Eff G Tryz.prog 64 [.ptr (some ⟨0, 0⟩)] [(0, rdE c (slT all i) size (some ⟨2, 0⟩)), tkB all z] 3 (.tuple []) [(0, rdE {c with to := (tokAt all i).num} (slT all (i + 1)) size (some ⟨2, 0⟩)), tkB all z] 3 := by
  unfold Eff
  refine ecalls_in 17 [] Tryz.func64 rfl rfl rfl (by kernel_rfl) (le_ble rfl) ?_
  repeat' (first | refine esem_seqK 1037 ?_ | refine esem_block ?_ | (refine stp ?_; simp only [go_sem]) | (refine Eff.at2 (next1_ok_b _ all c i size z hz hal 2 h hk ) [0, 1, 2, 3] rfl (by first | (simp; done) | (simp; omega) | (simp [bC]; done) | omega) rfl ?_; (try simp only [go_sem])) | (simp (disch := omega) only [wE]) | (refine spl (fun h => ?_) (fun h => ?_) <;> first | (exfalso; omega) | ((try simp only [opRun, opSkip, stepRun, pickZ]); (try simp only [go_sem, h]))) | (refine and_om ?_ ?_; focus omega))
  all_goals exact done_ef2 [] (by simp) rfl (by simp [mA]) (by simp [bC])
theorem id_end (G : List Gl) (all : List Tok) (c : Cmd) (i size z : Nat) (hz : z = 0 ∨ z = 4) (hal : all.length ≤ 16384) (h : all.length ≤ i) : Eff G Tryz.prog 65 [.ptr (some ⟨0, 0⟩)] [(0, rdE c (slT all i) size none), tkB all z] 2 (.tuple []) [(0, rdE {c with id := 0} (slT all i) size (some ⟨2, 0⟩)), tkB all z, (2, faultC 260 size)] 3 := by
  unfold Eff
  refine ecalls_in 27 [] Tryz.func65 rfl rfl rfl (by kernel_rfl) (le_ble rfl) ?_
  repeat' (first | refine esem_seqK 32781 ?_ | refine esem_block ?_ | (refine stp ?_; simp only [go_sem]) | (refine Eff.at2 (next1_end _ all c i size z hz hal 2 h ) [0, 1, 2] rfl (by first | (simp; done) | (simp; omega) | (simp [bC]; done) | omega) rfl ?_; (try simp only [go_sem])) | (simp (disch := omega) only [wE]) | (refine spl (fun h => ?_) (fun h => ?_) <;> first | (exfalso; omega) | ((try simp only [opRun, opSkip, stepRun, pickZ]); (try simp only [go_sem, h]))) | (refine and_om ?_ ?_; focus omega))
  all_goals exact done_ef2 [3] (by simp) rfl (by simp [mA]) (by simp [bC])
theorem id_no (G : List Gl) (all : List Tok) (c : Cmd) (i size z : Nat) (hz : z = 0 ∨ z = 4) (hal : all.length ≤ 16384) (h : i < all.length) (hk : ¬ (((tokAt all i).kind : Int) = 2)) : Eff G Tryz.prog 65 [.ptr (some ⟨0, 0⟩)] [(0, rdE c (slT all i) size none), tkB all z] 2 (.tuple []) [(0, rdE {c with id := IntKind.u32.wrap (tokAt all i).num} (slT all (i + 1)) size (some ⟨2, 0⟩)), tkB all z, (2, faultC 260 (tokAt all i).at_)] 3 := by
  unfold Eff
  refine ecalls_in 27 [] Tryz.func65 rfl rfl rfl (by kernel_rfl) (le_ble rfl) ?_
  repeat' (first | refine esem_seqK 32781 ?_ | refine esem_block ?_ | (refine stp ?_; simp only [go_sem]) | (refine Eff.at2 (next1_no _ all c i size z hz hal 2 h hk ) [0, 1, 2] rfl (by first | (simp; done) | (simp; omega) | (simp [bC]; done) | omega) rfl ?_; (try simp only [go_sem])) | (simp (disch := omega) only [wE]) | (refine spl (fun h => ?_) (fun h => ?_) <;> first | (exfalso; omega) | ((try simp only [opRun, opSkip, stepRun, pickZ]); (try simp only [go_sem, h]))) | (refine and_om ?_ ?_; focus omega))
  all_goals exact done_ef2 [3] (by simp) rfl (by simp [mA]) (by simp [bC])
theorem id_ok (G : List Gl) (all : List Tok) (c : Cmd) (i size z : Nat) (hz : z = 0 ∨ z = 4) (hal : all.length ≤ 16384) (h : i < all.length) (hk : ((tokAt all i).kind : Int) = 2) (hb : (tokAt all i).num ≤ 4294967295) : Eff G Tryz.prog 65 [.ptr (some ⟨0, 0⟩)] [(0, rdE c (slT all i) size none), tkB all z] 2 (.tuple []) [(0, rdE {c with id := (tokAt all i).num} (slT all (i + 1)) size none), tkB all z] 2 := by
  unfold Eff
  refine ecalls_in 27 [] Tryz.func65 rfl rfl rfl (by kernel_rfl) (le_ble rfl) ?_
  repeat' (first | refine esem_seqK 32781 ?_ | refine esem_block ?_ | (refine stp ?_; simp only [go_sem]) | (refine Eff.at2 (next1_ok _ all c i size z hz hal 2 h hk ) [0, 1, 2] rfl (by first | (simp; done) | (simp; omega) | (simp [bC]; done) | omega) rfl ?_; (try simp only [go_sem])) | (simp (disch := omega) only [wE]) | (refine spl (fun h => ?_) (fun h => ?_) <;> first | (exfalso; omega) | ((try simp only [opRun, opSkip, stepRun, pickZ]); (try simp only [go_sem, h]))) | (refine and_om ?_ ?_; focus omega))
  all_goals exact done_ef2 [] (by simp) rfl (by simp [mA]) (by simp [bC])
theorem id_big (G : List Gl) (all : List Tok) (c : Cmd) (i size z : Nat) (hz : z = 0 ∨ z = 4) (hal : all.length ≤ 16384) (h : i < all.length) (hk : ((tokAt all i).kind : Int) = 2) (hb : 4294967295 < (tokAt all i).num) : Eff G Tryz.prog 65 [.ptr (some ⟨0, 0⟩)] [(0, rdE c (slT all i) size none), tkB all z] 2 (.tuple []) [(0, rdE c (slT all (i + 1)) size (some ⟨2, 0⟩)), tkB all z, (2, faultC 260 (tokAt all i).at_)] 3 := by
  unfold Eff
  refine ecalls_in 27 [] Tryz.func65 rfl rfl rfl (by kernel_rfl) (le_ble rfl) ?_
  repeat' (first | refine esem_seqK 32781 ?_ | refine esem_block ?_ | (refine stp ?_; simp only [go_sem]) | (refine Eff.at2 (next1_ok _ all c i size z hz hal 2 h hk ) [0, 1, 2] rfl (by first | (simp; done) | (simp; omega) | (simp [bC]; done) | omega) rfl ?_; (try simp only [go_sem])) | (refine Eff.at2 (fails_new _ c (slT all (i + 1)) (.inr ⟨_, _, rfl⟩) size (tokAt all i).at_ ) [0, 1] rfl (by first | (simp; done) | (simp; omega) | (simp [bC]; done) | omega) rfl ?_; (try simp only [go_sem])) | (simp (disch := omega) only [wE]) | (refine spl (fun h => ?_) (fun h => ?_) <;> first | (exfalso; omega) | ((try simp only [opRun, opSkip, stepRun, pickZ]); (try simp only [go_sem, h]))) | (refine and_om ?_ ?_; focus omega))
  all_goals exact done_ef2 [4] (by simp) rfl (by simp [mA]) (by simp [bC])
theorem id_end_b (G : List Gl) (all : List Tok) (c : Cmd) (i size z : Nat) (hz : z = 0 ∨ z = 4) (hal : all.length ≤ 16384) (h : all.length ≤ i) : Eff G Tryz.prog 65 [.ptr (some ⟨0, 0⟩)] [(0, rdE c (slT all i) size (some ⟨2, 0⟩)), tkB all z] 3 (.tuple []) [(0, rdE {c with id := 0} (slT all i) size (some ⟨2, 0⟩)), tkB all z] 3 := by
  unfold Eff
  refine ecalls_in 27 [] Tryz.func65 rfl rfl rfl (by kernel_rfl) (le_ble rfl) ?_
  repeat' (first | refine esem_seqK 32781 ?_ | refine esem_block ?_ | (refine stp ?_; simp only [go_sem]) | (refine Eff.at2 (next1_end_b _ all c i size z hz hal 2 h ) [0, 1, 2, 3] rfl (by first | (simp; done) | (simp; omega) | (simp [bC]; done) | omega) rfl ?_; (try simp only [go_sem])) | (simp (disch := omega) only [wE]) | (refine spl (fun h => ?_) (fun h => ?_) <;> first | (exfalso; omega) | ((try simp only [opRun, opSkip, stepRun, pickZ]); (try simp only [go_sem, h]))) | (refine and_om ?_ ?_; focus omega))
  all_goals exact done_ef2 [] (by simp) rfl (by simp [mA]) (by simp [bC])
theorem id_no_b (G : List Gl) (all : List Tok) (c : Cmd) (i size z : Nat) (hz : z = 0 ∨ z = 4) (hal : all.length ≤ 16384) (h : i < all.length) (hk : ¬ (((tokAt all i).kind : Int) = 2)) : Eff G Tryz.prog 65 [.ptr (some ⟨0, 0⟩)] [(0, rdE c (slT all i) size (some ⟨2, 0⟩)), tkB all z] 3 (.tuple []) [(0, rdE {c with id := IntKind.u32.wrap (tokAt all i).num} (slT all (i + 1)) size (some ⟨2, 0⟩)), tkB all z] 3 := by
  unfold Eff
  refine ecalls_in 27 [] Tryz.func65 rfl rfl rfl (by kernel_rfl) (le_ble rfl) ?_
  repeat' (first | refine esem_seqK 32781 ?_ | refine esem_block ?_ | (refine stp ?_; simp only [go_sem]) | (refine Eff.at2 (next1_no_b _ all c i size z hz hal 2 h hk ) [0, 1, 2, 3] rfl (by first | (simp; done) | (simp; omega) | (simp [bC]; done) | omega) rfl ?_; (try simp only [go_sem])) | (simp (disch := omega) only [wE]) | (refine spl (fun h => ?_) (fun h => ?_) <;> first | (exfalso; omega) | ((try simp only [opRun, opSkip, stepRun, pickZ]); (try simp only [go_sem, h]))) | (refine and_om ?_ ?_; focus omega))
  all_goals exact done_ef2 [] (by simp) rfl (by simp [mA]) (by simp [bC])
theorem id_ok_b (G : List Gl) (all : List Tok) (c : Cmd) (i size z : Nat) (hz : z = 0 ∨ z = 4) (hal : all.length ≤ 16384) (h : i < all.length) (hk : ((tokAt all i).kind : Int) = 2) (hb : (tokAt all i).num ≤ 4294967295) : Eff G Tryz.prog 65 [.ptr (some ⟨0, 0⟩)] [(0, rdE c (slT all i) size (some ⟨2, 0⟩)), tkB all z] 3 (.tuple []) [(0, rdE {c with id := (tokAt all i).num} (slT all (i + 1)) size (some ⟨2, 0⟩)), tkB all z] 3 := by
  unfold Eff
  refine ecalls_in 27 [] Tryz.func65 rfl rfl rfl (by kernel_rfl) (le_ble rfl) ?_
  repeat' (first | refine esem_seqK 32781 ?_ | refine esem_block ?_ | (refine stp ?_; simp only [go_sem]) | (refine Eff.at2 (next1_ok_b _ all c i size z hz hal 2 h hk ) [0, 1, 2, 3] rfl (by first | (simp; done) | (simp; omega) | (simp [bC]; done) | omega) rfl ?_; (try simp only [go_sem])) | (simp (disch := omega) only [wE]) | (refine spl (fun h => ?_) (fun h => ?_) <;> first | (exfalso; omega) | ((try simp only [opRun, opSkip, stepRun, pickZ]); (try simp only [go_sem, h]))) | (refine and_om ?_ ?_; focus omega))
  all_goals exact done_ef2 [] (by simp) rfl (by simp [mA]) (by simp [bC])
theorem id_big_b (G : List Gl) (all : List Tok) (c : Cmd) (i size z : Nat) (hz : z = 0 ∨ z = 4) (hal : all.length ≤ 16384) (h : i < all.length) (hk : ((tokAt all i).kind : Int) = 2) (hb : 4294967295 < (tokAt all i).num) : Eff G Tryz.prog 65 [.ptr (some ⟨0, 0⟩)] [(0, rdE c (slT all i) size (some ⟨2, 0⟩)), tkB all z] 3 (.tuple []) [(0, rdE c (slT all (i + 1)) size (some ⟨2, 0⟩)), tkB all z] 3 := by
  unfold Eff
  refine ecalls_in 27 [] Tryz.func65 rfl rfl rfl (by kernel_rfl) (le_ble rfl) ?_
  repeat' (first | refine esem_seqK 32781 ?_ | refine esem_block ?_ | (refine stp ?_; simp only [go_sem]) | (refine Eff.at2 (next1_ok_b _ all c i size z hz hal 2 h hk ) [0, 1, 2, 3] rfl (by first | (simp; done) | (simp; omega) | (simp [bC]; done) | omega) rfl ?_; (try simp only [go_sem])) | (refine Eff.at2 (fails_old _ c (slT all (i + 1)) (.inr ⟨_, _, rfl⟩) size (tokAt all i).at_ ) [0, 1, 2] rfl (by first | (simp; done) | (simp; omega) | (simp [bC]; done) | omega) rfl ?_; (try simp only [go_sem])) | (simp (disch := omega) only [wE]) | (refine spl (fun h => ?_) (fun h => ?_) <;> first | (exfalso; omega) | ((try simp only [opRun, opSkip, stepRun, pickZ]); (try simp only [go_sem, h]))) | (refine and_om ?_ ?_; focus omega))
  all_goals exact done_ef2 [] (by simp) rfl (by simp [mA]) (by simp [bC])
end Go.Proofs.YtnjbdcdjcfhooaaGreatDoor
