/-
  Own work: walks and laws of the functions that the statement reaches; the statement itself stands in the last text.
-/
import Derived.Test.YtnjbdcdjcfhooaaGreatDoorHw
namespace Go.Proofs.YtnjbdcdjcfhooaaGreatDoor
open Go.E Go.ChangeShapes Go.WideShapes Go.ChangeAt Go.RowKit
set_option linter.all false
set_option maxRecDepth 20000
set_option maxHeartbeats 8000000
end Go.Proofs.YtnjbdcdjcfhooaaGreatDoor
namespace Go.Proofs.YtnjbdcdjcfhooaaGreatDoor
open Go.E Go.ChangeShapes Go.WideShapes Go.ChangeAt Go.RowKit
set_option linter.all false
set_option maxRecDepth 20000
set_option maxHeartbeats 8000000
def ArgSl (sv : EV) (b n : Nat) (c : List EV) (B : List (Nat × EO)) : Prop := (sv = .slice none 0 0 ∧ n = 0 ∧ B = []) ∨ (sv = .slice (some ⟨b, 0⟩) n n ∧ ∃ ty z wr, B = [(b, .cells c ty z wr 0)])
theorem ArgSl.one {sv : EV} {b n : Nat} {c : List EV} {B : List (Nat × EO)} (h : ArgSl sv b n c B) : sv.one = true := by
  rcases h with ⟨rfl, -, -⟩ | ⟨rfl, -⟩ <;> rfl
theorem ArgSl.bel {sv : EV} {b n : Nat} {c : List EV} {B : List (Nat × EO)} (h : ArgSl sv b n c B) {k : Nat} (hk : b < k) : sv.bel k := by
  rcases h with ⟨rfl, -, -⟩ | ⟨rfl, -⟩
  · simp [EV.bel]
  · simp [EV.bel, hk]
theorem ArgSl.bl {sv : EV} {b n : Nat} {c : List EV} {B : List (Nat × EO)} (h : ArgSl sv b n c B) {k : Nat} (hk : b < k) (hc : allBelow k c) : blBelow k B := by
  rcases h with ⟨-, -, rfl⟩ | ⟨-, ty, z, wr, rfl⟩
  · trivial
  · exact ⟨hk, hc, trivial⟩
theorem ArgSl.key {sv : EV} {b n : Nat} {c : List EV} {B : List (Nat × EO)} (h : ArgSl sv b n c B) {i : Nat} (hi : i ≠ b) : lkp B i = none := by
  rcases h with ⟨-, -, rfl⟩ | ⟨-, ty, z, wr, rfl⟩
  · rfl
  · simp [lkp, show ¬ b = i from fun e => hi e.symm]
theorem show_nil (G : List Gl) (c : Cmd) (r : Rp) (he : r.err = 0) (mk cu na : EV) (m1 : mk.one = true) (c1 : cu.one = true) (n1 : na.one = true) (hk : (c.kind = 18 ∧ mk = .slice none 0 0) ∨ (c.kind = 19 ∧ cu = .slice none 0 0) ∨ (c.kind = 20 ∧ na = .slice none 0 0)) :
    Eff G Tryz.prog 17 [.agg (cmdE c), .agg (rpE r mk cu na)] [] 3 (.str noneL) [] 3 := by
  unfold Eff noneL
  have jc := joined_0 G
  obtain ⟨k, d, id, fr, to, tx, g⟩ := c
  obtain ⟨err, num, line, col, text, found, frm, rto, st⟩ := r
  simp only at he hk
  subst he
  rcases hk with ⟨rfl, rfl⟩ | ⟨rfl, rfl⟩ | ⟨rfl, rfl⟩
  all_goals
    refine ecalls_in 132 [.tmp 4] Tryz.func17 rfl rfl rfl (by kernel_rfl) (le_ble rfl) ?_
    repeat' (first | refine esem_seqK 373922066680392647905437741317376703 ?_ | refine esem_block ?_ | (refine stp ?_; simp only [go_sem]) | (refine drawQ (id := 19) mixed [(0, []), (1, []), (4, []), (10, []), (2, []), (3, []), (5, []), (11, []), (12, []), (6, []), (7, [11]), (8, []), (9, [11]), (13, []), (14, []), (15, []), (16, []), (17, []), (18, [])] (by kernel_rfl) ?_; simp only [go_sem]) | (refine and_om ?_ ?_; focus (simp only [EV.one] at m1 c1 n1; simp [m1, c1, n1]; done)) | (refine Pure.at (jc) (by simp) (by simp) rfl ?_; (try simp only [go_sem])) | (refine esem_loopN 373922066680392647905437741317376703 1 ?_; simp only [go_sem]) | (simp (disch := omega) only [wE]) | (refine spl (fun h => ?_) (fun h => ?_) <;> first | (exfalso; omega) | ((try simp only [opRun, opSkip, stepRun, pickZ]); (try simp only [go_sem, h]))) | (refine and_om ?_ ?_; focus omega))
    all_goals exact done_ef2 [] (by simp) rfl (by simp [mA]) (by simp [bC])
end Go.Proofs.YtnjbdcdjcfhooaaGreatDoor
