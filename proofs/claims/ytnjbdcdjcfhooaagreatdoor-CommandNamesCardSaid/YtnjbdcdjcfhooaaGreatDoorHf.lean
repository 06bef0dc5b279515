/-
  Own work: walks and laws of the functions that the statement reaches; the statement itself stands in the last text.
-/
import Derived.Test.YtnjbdcdjcfhooaaGreatDoorHe
namespace Go.Proofs.YtnjbdcdjcfhooaaGreatDoor
open Go.E
set_option linter.all false
set_option maxRecDepth 20000
set_option maxHeartbeats 8000000
def gravL : List (List UInt8) := [[115, 116, 97, 121, 115], [103, 111, 101, 115]]
def motL : List (List UInt8) := [[], [108, 101, 102, 116], [114, 105, 103, 104, 116], [119, 111, 114, 100, 108, 101, 102, 116], [119, 111, 114, 100, 114, 105, 103, 104, 116], [117, 112], [100, 111, 119, 110], [115, 116, 97, 114, 116], [101, 110, 100]]
def idxS : List (List UInt8) → List UInt8 → Nat → Int
  | [], _, _ => -1
  | w :: r, s, k => if s = w then k else idxS r s (k + 1)
theorem idxS_bd : ∀ (ws : List (List UInt8)) (s : List UInt8) (k : Nat), -1 ≤ idxS ws s k ∧ idxS ws s k < k + ws.length ∧ (idxS ws s k = -1 ∨ (k : Int) ≤ idxS ws s k)
  | [], _, _ => by simp [idxS]; omega
  | w :: r, s, k => by
    have := idxS_bd r s (k + 1)
    rw [idxS]
    simp only [List.length_cons]
    split <;> omega
theorem sidxG_c (G : List Gl) (s : List UInt8) : Eff G Tryz.prog 113 [.slice (some ⟨0, 0⟩) 2 2, .str s] [(0, .cells (gravL.map EV.str) 9 0 true 0)] 1 (.int .i64 (idxS gravL s 0)) [] 1 := by
  unfold Eff
  simp only [gravL, List.map, idxS]
  refine ecalls_in 19 [.tmp 4] Tryz.func113 rfl rfl rfl (by kernel_rfl) (le_ble rfl) ?_
  repeat' (first | refine esem_seqK 66483 ?_ | refine esem_block ?_ | (refine stp ?_; simp only [go_sem]) | (refine esem_loopN 66483 4 ?_; simp only [go_sem]) | (simp (disch := omega) only [wE]) | (refine spl (fun h => ?_) (fun h => ?_) <;> first | (exfalso; omega) | ((try simp only [opRun, opSkip, stepRun, pickZ]); (try simp only [go_sem, h]))) | (refine and_om ?_ ?_; focus omega))
  all_goals first | exact done_ef2 [] (by simp) rfl (by simp [mA]) (by simp [bC]) | (simp only [*, if_true, if_false, Nat.zero_add, Nat.reduceAdd]; exact done_ef2 [] (by simp) rfl (by simp [mA]) (by simp [bC]))
theorem sidxM_c (G : List Gl) (s : List UInt8) : Eff G Tryz.prog 113 [.slice (some ⟨0, 0⟩) 9 9, .str s] [(0, .cells (motL.map EV.str) 9 0 true 0)] 1 (.int .i64 (idxS motL s 0)) [] 1 := by
  unfold Eff
  simp only [motL, List.map, idxS]
  refine ecalls_in 19 [.tmp 4] Tryz.func113 rfl rfl rfl (by kernel_rfl) (le_ble rfl) ?_
  repeat' (first | refine esem_seqK 66483 ?_ | refine esem_block ?_ | (refine stp ?_; simp only [go_sem]) | (refine esem_loopN 66483 11 ?_; simp only [go_sem]) | (simp (disch := omega) only [wE]) | (refine spl (fun h => ?_) (fun h => ?_) <;> first | (exfalso; omega) | ((try simp only [opRun, opSkip, stepRun, pickZ]); (try simp only [go_sem, h]))) | (refine and_om ?_ ?_; focus omega))
  all_goals first | exact done_ef2 [] (by simp) rfl (by simp [mA]) (by simp [bC]) | (simp only [*, if_true, if_false, Nat.zero_add, Nat.reduceAdd]; exact done_ef2 [] (by simp) rfl (by simp [mA]) (by simp [bC]))
theorem gravities_c (G : List Gl) : Eff G Tryz.prog 42 [] [] 0 (.slice (some ⟨0, 0⟩) 2 2) [(0, .cells (gravL.map EV.str) 9 0 true 0)] 1 := by
  unfold Eff
  refine ecalls_in 2 [.tmp 0] Tryz.func42 rfl rfl rfl (by kernel_rfl) (le_ble rfl) ?_
  repeat' (first | refine esem_seqK 1 ?_ | refine esem_block ?_ | (refine stp ?_; simp only [go_sem]) | (simp (disch := omega) only [wE]) | (refine spl (fun h => ?_) (fun h => ?_) <;> first | (exfalso; omega) | ((try simp only [opRun, opSkip, stepRun, pickZ]); (try simp only [go_sem, h]))) | (refine and_om ?_ ?_; focus omega))
  simp only [gravL, List.map]
  exact done_ef2 [0] (by simp) rfl (by simp [mA]) (by simp [bC])
theorem motions_c (G : List Gl) : Eff G Tryz.prog 82 [] [] 0 (.slice (some ⟨0, 0⟩) 9 9) [(0, .cells (motL.map EV.str) 9 0 true 0)] 1 := by
  unfold Eff
  refine ecalls_in 2 [.tmp 0] Tryz.func82 rfl rfl rfl (by kernel_rfl) (le_ble rfl) ?_
  repeat' (first | refine esem_seqK 1 ?_ | refine esem_block ?_ | (refine stp ?_; simp only [go_sem]) | (simp (disch := omega) only [wE]) | (refine spl (fun h => ?_) (fun h => ?_) <;> first | (exfalso; omega) | ((try simp only [opRun, opSkip, stepRun, pickZ]); (try simp only [go_sem, h]))) | (refine and_om ?_ ?_; focus omega))
  simp only [motL, List.map]
  exact done_ef2 [0] (by simp) rfl (by simp [mA]) (by simp [bC])
@[simp] theorem allBelow_strs (k : Nat) (ws : List (List UInt8)) : allBelow k (ws.map EV.str) := by
  induction ws with
  | nil => trivial
  | cons w r ih => simp [allBelow, EV.bel, ih]
@[simp] theorem renL_strs (π : Nat → Nat) (ws : List (List UInt8)) : renL π (ws.map EV.str) = ws.map EV.str := by
  induction ws with
  | nil => rfl
  | cons w r ih => simp [renL, EV.ren, ih]
theorem either_end (G : List Gl) (all : List Tok) (c : Cmd) (i size z : Nat) (hz : z = 0 ∨ z = 4) (hal : all.length ≤ 16384) (ws : List (List UInt8)) (m : Nat) (most x : Int) (hidx : Eff G Tryz.prog 113 [.slice (some ⟨0, 0⟩) m m, .str (tokAt all i).text] [(0, .cells (ws.map EV.str) 9 0 true 0)] 1 (.int .i64 x) [] 1) (hx : -1 ≤ x) (h : all.length ≤ i) : Eff G Tryz.prog 102 [.ptr (some ⟨0, 0⟩), .slice (some ⟨2, 0⟩) m m, .int .i64 most] [(0, rdE c (slT all i) size none), tkB all z, (2, .cells (ws.map EV.str) 9 0 true 0)] 3 (.int .i64 0) [(0, rdE c (slT all i) size (some ⟨3, 0⟩)), tkB all z, (3, faultC 260 size)] 4 := by
  unfold Eff
  refine ecalls_in 43 [.tmp 6] Tryz.func102 rfl rfl rfl (by kernel_rfl) (le_ble rfl) ?_
  repeat' (first | refine esem_seqK 68720525767 ?_ | refine esem_block ?_ | (refine stp ?_; simp only [go_sem]) | (refine Eff.at2 (next2_end _ all c i size z hz hal 2 1 h ) [0, 1, 3] rfl (by first | (simp; done) | (simp; omega) | (simp [bC]; done) | omega) rfl ?_; (try simp only [go_sem])) | (refine Eff.at2 (fails_old _ c (slT all i) (.inr ⟨_, _, rfl⟩) size 0 ) [0, 1, 4] rfl (by first | (simp; done) | (simp; omega) | (simp [bC]; done) | omega) rfl ?_; (try simp only [go_sem])) | (simp (disch := omega) only [wE]) | (refine spl (fun h => ?_) (fun h => ?_) <;> first | (exfalso; omega) | ((try simp only [opRun, opSkip, stepRun, pickZ]); (try simp only [go_sem, h]))) | (refine and_om ?_ ?_; focus omega))
  all_goals first
    | (exfalso; omega)
    | exact done_ef2 [4] (by simp) rfl (by simp [mA]) (by simp [bC])
theorem either_no (G : List Gl) (all : List Tok) (c : Cmd) (i size z : Nat) (hz : z = 0 ∨ z = 4) (hal : all.length ≤ 16384) (ws : List (List UInt8)) (m : Nat) (most x : Int) (hidx : Eff G Tryz.prog 113 [.slice (some ⟨0, 0⟩) m m, .str (tokAt all i).text] [(0, .cells (ws.map EV.str) 9 0 true 0)] 1 (.int .i64 x) [] 1) (hx : -1 ≤ x) (h : i < all.length) (hk : ¬ (((tokAt all i).kind : Int) = 2 ∨ ((tokAt all i).kind : Int) = 1)) : Eff G Tryz.prog 102 [.ptr (some ⟨0, 0⟩), .slice (some ⟨2, 0⟩) m m, .int .i64 most] [(0, rdE c (slT all i) size none), tkB all z, (2, .cells (ws.map EV.str) 9 0 true 0)] 3 (.int .i64 0) [(0, rdE c (slT all (i + 1)) size (some ⟨3, 0⟩)), tkB all z, (3, faultC 260 (tokAt all i).at_)] 4 := by
  unfold Eff
  refine ecalls_in 43 [.tmp 6] Tryz.func102 rfl rfl rfl (by kernel_rfl) (le_ble rfl) ?_
  repeat' (first | refine esem_seqK 68720525767 ?_ | refine esem_block ?_ | (refine stp ?_; simp only [go_sem]) | (refine Eff.at2 (next2_no _ all c i size z hz hal 2 1 h hk ) [0, 1, 3] rfl (by first | (simp; done) | (simp; omega) | (simp [bC]; done) | omega) rfl ?_; (try simp only [go_sem])) | (refine Eff.at2 (fails_old _ c (slT all (i + 1)) (.inr ⟨_, _, rfl⟩) size (tokAt all i).at_ ) [0, 1, 4] rfl (by first | (simp; done) | (simp; omega) | (simp [bC]; done) | omega) rfl ?_; (try simp only [go_sem])) | (simp (disch := omega) only [wE]) | (refine spl (fun h => ?_) (fun h => ?_) <;> first | (exfalso; omega) | ((try simp only [opRun, opSkip, stepRun, pickZ]); (try simp only [go_sem, h]))) | (refine and_om ?_ ?_; focus omega))
  all_goals first
    | (exfalso; omega)
    | exact done_ef2 [4] (by simp) rfl (by simp [mA]) (by simp [bC])
theorem either_numok (G : List Gl) (all : List Tok) (c : Cmd) (i size z : Nat) (hz : z = 0 ∨ z = 4) (hal : all.length ≤ 16384) (ws : List (List UInt8)) (m : Nat) (most x : Int) (hidx : Eff G Tryz.prog 113 [.slice (some ⟨0, 0⟩) m m, .str (tokAt all i).text] [(0, .cells (ws.map EV.str) 9 0 true 0)] 1 (.int .i64 x) [] 1) (hx : -1 ≤ x) (h : i < all.length) (hk2 : ((tokAt all i).kind : Int) = 2) (hb : ((tokAt all i).num : Int) ≤ most) : Eff G Tryz.prog 102 [.ptr (some ⟨0, 0⟩), .slice (some ⟨2, 0⟩) m m, .int .i64 most] [(0, rdE c (slT all i) size none), tkB all z, (2, .cells (ws.map EV.str) 9 0 true 0)] 3 (.int .i64 (tokAt all i).num) [(0, rdE c (slT all (i + 1)) size none), tkB all z] 3 := by
  unfold Eff
  have hk : ((tokAt all i).kind : Int) = 2 ∨ ((tokAt all i).kind : Int) = 1 := .inl hk2
  refine ecalls_in 43 [.tmp 6] Tryz.func102 rfl rfl rfl (by kernel_rfl) (le_ble rfl) ?_
  repeat' (first | refine esem_seqK 68720525767 ?_ | refine esem_block ?_ | (refine stp ?_; simp only [go_sem]) | (refine Eff.at2 (next2_ok _ all c i size z hz hal 2 1 h hk ) [0, 1, 3] rfl (by first | (simp; done) | (simp; omega) | (simp [bC]; done) | omega) rfl ?_; (try simp only [go_sem])) | (simp (disch := omega) only [wE]) | (refine spl (fun h => ?_) (fun h => ?_) <;> first | (exfalso; omega) | ((try simp only [opRun, opSkip, stepRun, pickZ]); (try simp only [go_sem, h]))) | (refine and_om ?_ ?_; focus omega))
  all_goals first
    | (exfalso; omega)
    | exact done_ef2 [] (by simp) rfl (by simp [mA]) (by simp [bC])
theorem either_numbig (G : List Gl) (all : List Tok) (c : Cmd) (i size z : Nat) (hz : z = 0 ∨ z = 4) (hal : all.length ≤ 16384) (ws : List (List UInt8)) (m : Nat) (most x : Int) (hidx : Eff G Tryz.prog 113 [.slice (some ⟨0, 0⟩) m m, .str (tokAt all i).text] [(0, .cells (ws.map EV.str) 9 0 true 0)] 1 (.int .i64 x) [] 1) (hx : -1 ≤ x) (h : i < all.length) (hk2 : ((tokAt all i).kind : Int) = 2) (hb : most < ((tokAt all i).num : Int)) : Eff G Tryz.prog 102 [.ptr (some ⟨0, 0⟩), .slice (some ⟨2, 0⟩) m m, .int .i64 most] [(0, rdE c (slT all i) size none), tkB all z, (2, .cells (ws.map EV.str) 9 0 true 0)] 3 (.int .i64 0) [(0, rdE c (slT all (i + 1)) size (some ⟨3, 0⟩)), tkB all z, (3, faultC 260 (tokAt all i).at_)] 4 := by
  unfold Eff
  have hk : ((tokAt all i).kind : Int) = 2 ∨ ((tokAt all i).kind : Int) = 1 := .inl hk2
  refine ecalls_in 43 [.tmp 6] Tryz.func102 rfl rfl rfl (by kernel_rfl) (le_ble rfl) ?_
  repeat' (first | refine esem_seqK 68720525767 ?_ | refine esem_block ?_ | (refine stp ?_; simp only [go_sem]) | (refine Eff.at2 (next2_ok _ all c i size z hz hal 2 1 h hk ) [0, 1, 3] rfl (by first | (simp; done) | (simp; omega) | (simp [bC]; done) | omega) rfl ?_; (try simp only [go_sem])) | (refine Eff.at2 (fails_new _ c (slT all (i + 1)) (.inr ⟨_, _, rfl⟩) size (tokAt all i).at_ ) [0, 1] rfl (by first | (simp; done) | (simp; omega) | (simp [bC]; done) | omega) rfl ?_; (try simp only [go_sem])) | (simp (disch := omega) only [wE]) | (refine spl (fun h => ?_) (fun h => ?_) <;> first | (exfalso; omega) | ((try simp only [opRun, opSkip, stepRun, pickZ]); (try simp only [go_sem, h]))) | (refine and_om ?_ ?_; focus omega))
  all_goals first
    | (exfalso; omega)
    | exact done_ef2 [5] (by simp) rfl (by simp [mA]) (by simp [bC])
theorem either_wordok (G : List Gl) (all : List Tok) (c : Cmd) (i size z : Nat) (hz : z = 0 ∨ z = 4) (hal : all.length ≤ 16384) (ws : List (List UInt8)) (m : Nat) (most x : Int) (hidx : Eff G Tryz.prog 113 [.slice (some ⟨0, 0⟩) m m, .str (tokAt all i).text] [(0, .cells (ws.map EV.str) 9 0 true 0)] 1 (.int .i64 x) [] 1) (hx : -1 ≤ x) (h : i < all.length) (hk1 : ((tokAt all i).kind : Int) = 1) (hb : 0 ≤ x ∧ x ≤ most) : Eff G Tryz.prog 102 [.ptr (some ⟨0, 0⟩), .slice (some ⟨2, 0⟩) m m, .int .i64 most] [(0, rdE c (slT all i) size none), tkB all z, (2, .cells (ws.map EV.str) 9 0 true 0)] 3 (.int .i64 x) [(0, rdE c (slT all (i + 1)) size none), tkB all z] 3 := by
  unfold Eff
  have hk : ((tokAt all i).kind : Int) = 2 ∨ ((tokAt all i).kind : Int) = 1 := .inr hk1
  have hd : decide (0 ≤ x) = true := decide_eq_true hb.1
  refine ecalls_in 43 [.tmp 6] Tryz.func102 rfl rfl rfl (by kernel_rfl) (le_ble rfl) ?_
  repeat' (first | refine esem_seqK 68720525767 ?_ | refine esem_block ?_ | (refine stp ?_; simp only [go_sem]) | (refine Eff.at2 (next2_ok _ all c i size z hz hal 2 1 h hk ) [0, 1, 3] rfl (by first | (simp; done) | (simp; omega) | (simp [bC]; done) | omega) rfl ?_; (try simp only [go_sem])) | (refine Eff.at2 (hidx ) [2] rfl (by first | (simp; done) | (simp; omega) | (simp [bC]; done) | omega) rfl ?_; (try simp only [go_sem])) | (simp only [hd, go_sem, Bool.not_true, Bool.not_false]) | (simp (disch := omega) only [wE]) | (refine spl (fun h => ?_) (fun h => ?_) <;> first | (exfalso; omega) | ((try simp only [opRun, opSkip, stepRun, pickZ]); (try simp only [go_sem, h]))) | (refine and_om ?_ ?_; focus omega))
  all_goals first
    | (exfalso; omega)
    | exact done_ef2 [] (by simp) rfl (by simp [mA]) (by simp [bC])
theorem either_wordneg (G : List Gl) (all : List Tok) (c : Cmd) (i size z : Nat) (hz : z = 0 ∨ z = 4) (hal : all.length ≤ 16384) (ws : List (List UInt8)) (m : Nat) (most x : Int) (hidx : Eff G Tryz.prog 113 [.slice (some ⟨0, 0⟩) m m, .str (tokAt all i).text] [(0, .cells (ws.map EV.str) 9 0 true 0)] 1 (.int .i64 x) [] 1) (hx : -1 ≤ x) (h : i < all.length) (hk1 : ((tokAt all i).kind : Int) = 1) (hb : x < 0) : Eff G Tryz.prog 102 [.ptr (some ⟨0, 0⟩), .slice (some ⟨2, 0⟩) m m, .int .i64 most] [(0, rdE c (slT all i) size none), tkB all z, (2, .cells (ws.map EV.str) 9 0 true 0)] 3 (.int .i64 0) [(0, rdE c (slT all (i + 1)) size (some ⟨3, 0⟩)), tkB all z, (3, faultC 260 (tokAt all i).at_)] 4 := by
  unfold Eff
  have hk : ((tokAt all i).kind : Int) = 2 ∨ ((tokAt all i).kind : Int) = 1 := .inr hk1
  have hd : decide (0 ≤ x) = false := decide_eq_false (by omega)
  refine ecalls_in 43 [.tmp 6] Tryz.func102 rfl rfl rfl (by kernel_rfl) (le_ble rfl) ?_
  repeat' (first | refine esem_seqK 68720525767 ?_ | refine esem_block ?_ | (refine stp ?_; simp only [go_sem]) | (refine Eff.at2 (next2_ok _ all c i size z hz hal 2 1 h hk ) [0, 1, 3] rfl (by first | (simp; done) | (simp; omega) | (simp [bC]; done) | omega) rfl ?_; (try simp only [go_sem])) | (refine Eff.at2 (hidx ) [2] rfl (by first | (simp; done) | (simp; omega) | (simp [bC]; done) | omega) rfl ?_; (try simp only [go_sem])) | (simp only [hd, go_sem, Bool.not_true, Bool.not_false]) | (refine Eff.at2 (fails_new _ c (slT all (i + 1)) (.inr ⟨_, _, rfl⟩) size (tokAt all i).at_ ) [0, 1] rfl (by first | (simp; done) | (simp; omega) | (simp [bC]; done) | omega) rfl ?_; (try simp only [go_sem])) | (simp (disch := omega) only [wE]) | (refine spl (fun h => ?_) (fun h => ?_) <;> first | (exfalso; omega) | ((try simp only [opRun, opSkip, stepRun, pickZ]); (try simp only [go_sem, h]))) | (refine and_om ?_ ?_; focus omega))
  all_goals first
    | (exfalso; omega)
    | exact done_ef2 [5] (by simp) rfl (by simp [mA]) (by simp [bC])
theorem either_end_b (G : List Gl) (all : List Tok) (c : Cmd) (i size z : Nat) (hz : z = 0 ∨ z = 4) (hal : all.length ≤ 16384) (ws : List (List UInt8)) (m : Nat) (most x : Int) (hidx : Eff G Tryz.prog 113 [.slice (some ⟨0, 0⟩) m m, .str (tokAt all i).text] [(0, .cells (ws.map EV.str) 9 0 true 0)] 1 (.int .i64 x) [] 1) (hx : -1 ≤ x) (h : all.length ≤ i) : Eff G Tryz.prog 102 [.ptr (some ⟨0, 0⟩), .slice (some ⟨3, 0⟩) m m, .int .i64 most] [(0, rdE c (slT all i) size (some ⟨2, 0⟩)), tkB all z, (3, .cells (ws.map EV.str) 9 0 true 0)] 4 (.int .i64 0) [(0, rdE c (slT all i) size (some ⟨2, 0⟩)), tkB all z] 4 := by
  unfold Eff
  refine ecalls_in 43 [.tmp 6] Tryz.func102 rfl rfl rfl (by kernel_rfl) (le_ble rfl) ?_
  repeat' (first | refine esem_seqK 68720525767 ?_ | refine esem_block ?_ | (refine stp ?_; simp only [go_sem]) | (refine Eff.at2 (next2_end_b _ all c i size z hz hal 2 1 h ) [0, 1, 2, 4] rfl (by first | (simp; done) | (simp; omega) | (simp [bC]; done) | omega) rfl ?_; (try simp only [go_sem])) | (refine Eff.at2 (fails_old _ c (slT all i) (.inr ⟨_, _, rfl⟩) size 0 ) [0, 1, 2] rfl (by first | (simp; done) | (simp; omega) | (simp [bC]; done) | omega) rfl ?_; (try simp only [go_sem])) | (simp (disch := omega) only [wE]) | (refine spl (fun h => ?_) (fun h => ?_) <;> first | (exfalso; omega) | ((try simp only [opRun, opSkip, stepRun, pickZ]); (try simp only [go_sem, h]))) | (refine and_om ?_ ?_; focus omega))
  all_goals first
    | (exfalso; omega)
    | exact done_ef2 [] (by simp) rfl (by simp [mA]) (by simp [bC])
theorem either_no_b (G : List Gl) (all : List Tok) (c : Cmd) (i size z : Nat) (hz : z = 0 ∨ z = 4) (hal : all.length ≤ 16384) (ws : List (List UInt8)) (m : Nat) (most x : Int) (hidx : Eff G Tryz.prog 113 [.slice (some ⟨0, 0⟩) m m, .str (tokAt all i).text] [(0, .cells (ws.map EV.str) 9 0 true 0)] 1 (.int .i64 x) [] 1) (hx : -1 ≤ x) (h : i < all.length) (hk : ¬ (((tokAt all i).kind : Int) = 2 ∨ ((tokAt all i).kind : Int) = 1)) : Eff G Tryz.prog 102 [.ptr (some ⟨0, 0⟩), .slice (some ⟨3, 0⟩) m m, .int .i64 most] [(0, rdE c (slT all i) size (some ⟨2, 0⟩)), tkB all z, (3, .cells (ws.map EV.str) 9 0 true 0)] 4 (.int .i64 0) [(0, rdE c (slT all (i + 1)) size (some ⟨2, 0⟩)), tkB all z] 4 := by
  unfold Eff
  refine ecalls_in 43 [.tmp 6] Tryz.func102 rfl rfl rfl (by kernel_rfl) (le_ble rfl) ?_
  repeat' (first | refine esem_seqK 68720525767 ?_ | refine esem_block ?_ | (refine stp ?_; simp only [go_sem]) | (refine Eff.at2 (next2_no_b _ all c i size z hz hal 2 1 h hk ) [0, 1, 2, 4] rfl (by first | (simp; done) | (simp; omega) | (simp [bC]; done) | omega) rfl ?_; (try simp only [go_sem])) | (refine Eff.at2 (fails_old _ c (slT all (i + 1)) (.inr ⟨_, _, rfl⟩) size (tokAt all i).at_ ) [0, 1, 2] rfl (by first | (simp; done) | (simp; omega) | (simp [bC]; done) | omega) rfl ?_; (try simp only [go_sem])) | (simp (disch := omega) only [wE]) | (refine spl (fun h => ?_) (fun h => ?_) <;> first | (exfalso; omega) | ((try simp only [opRun, opSkip, stepRun, pickZ]); (try simp only [go_sem, h]))) | (refine and_om ?_ ?_; focus omega))
  all_goals first
    | (exfalso; omega)
    | exact done_ef2 [] (by simp) rfl (by simp [mA]) (by simp [bC])
theorem either_numok_b (G : List Gl) (all : List Tok) (c : Cmd) (i size z : Nat) (hz : z = 0 ∨ z = 4) (hal : all.length ≤ 16384) (ws : List (List UInt8)) (m : Nat) (most x : Int) (hidx : Eff G Tryz.prog 113 [.slice (some ⟨0, 0⟩) m m, .str (tokAt all i).text] [(0, .cells (ws.map EV.str) 9 0 true 0)] 1 (.int .i64 x) [] 1) (hx : -1 ≤ x) (h : i < all.length) (hk2 : ((tokAt all i).kind : Int) = 2) (hb : ((tokAt all i).num : Int) ≤ most) : Eff G Tryz.prog 102 [.ptr (some ⟨0, 0⟩), .slice (some ⟨3, 0⟩) m m, .int .i64 most] [(0, rdE c (slT all i) size (some ⟨2, 0⟩)), tkB all z, (3, .cells (ws.map EV.str) 9 0 true 0)] 4 (.int .i64 (tokAt all i).num) [(0, rdE c (slT all (i + 1)) size (some ⟨2, 0⟩)), tkB all z] 4 := by
  unfold Eff
  have hk : ((tokAt all i).kind : Int) = 2 ∨ ((tokAt all i).kind : Int) = 1 := .inl hk2
  refine ecalls_in 43 [.tmp 6] Tryz.func102 rfl rfl rfl (by kernel_rfl) (le_ble rfl) ?_
  repeat' (first | refine esem_seqK 68720525767 ?_ | refine esem_block ?_ | (refine stp ?_; simp only [go_sem]) | (refine Eff.at2 (next2_ok_b _ all c i size z hz hal 2 1 h hk ) [0, 1, 2, 4] rfl (by first | (simp; done) | (simp; omega) | (simp [bC]; done) | omega) rfl ?_; (try simp only [go_sem])) | (simp (disch := omega) only [wE]) | (refine spl (fun h => ?_) (fun h => ?_) <;> first | (exfalso; omega) | ((try simp only [opRun, opSkip, stepRun, pickZ]); (try simp only [go_sem, h]))) | (refine and_om ?_ ?_; focus omega))
  all_goals first
    | (exfalso; omega)
    | exact done_ef2 [] (by simp) rfl (by simp [mA]) (by simp [bC])
theorem either_numbig_b (G : List Gl) (all : List Tok) (c : Cmd) (i size z : Nat) (hz : z = 0 ∨ z = 4) (hal : all.length ≤ 16384) (ws : List (List UInt8)) (m : Nat) (most x : Int) (hidx : Eff G Tryz.prog 113 [.slice (some ⟨0, 0⟩) m m, .str (tokAt all i).text] [(0, .cells (ws.map EV.str) 9 0 true 0)] 1 (.int .i64 x) [] 1) (hx : -1 ≤ x) (h : i < all.length) (hk2 : ((tokAt all i).kind : Int) = 2) (hb : most < ((tokAt all i).num : Int)) : Eff G Tryz.prog 102 [.ptr (some ⟨0, 0⟩), .slice (some ⟨3, 0⟩) m m, .int .i64 most] [(0, rdE c (slT all i) size (some ⟨2, 0⟩)), tkB all z, (3, .cells (ws.map EV.str) 9 0 true 0)] 4 (.int .i64 0) [(0, rdE c (slT all (i + 1)) size (some ⟨2, 0⟩)), tkB all z] 4 := by
  unfold Eff
  have hk : ((tokAt all i).kind : Int) = 2 ∨ ((tokAt all i).kind : Int) = 1 := .inl hk2
  refine ecalls_in 43 [.tmp 6] Tryz.func102 rfl rfl rfl (by kernel_rfl) (le_ble rfl) ?_
  repeat' (first | refine esem_seqK 68720525767 ?_ | refine esem_block ?_ | (refine stp ?_; simp only [go_sem]) | (refine Eff.at2 (next2_ok_b _ all c i size z hz hal 2 1 h hk ) [0, 1, 2, 4] rfl (by first | (simp; done) | (simp; omega) | (simp [bC]; done) | omega) rfl ?_; (try simp only [go_sem])) | (refine Eff.at2 (fails_old _ c (slT all (i + 1)) (.inr ⟨_, _, rfl⟩) size (tokAt all i).at_ ) [0, 1, 2] rfl (by first | (simp; done) | (simp; omega) | (simp [bC]; done) | omega) rfl ?_; (try simp only [go_sem])) | (simp (disch := omega) only [wE]) | (refine spl (fun h => ?_) (fun h => ?_) <;> first | (exfalso; omega) | ((try simp only [opRun, opSkip, stepRun, pickZ]); (try simp only [go_sem, h]))) | (refine and_om ?_ ?_; focus omega))
  all_goals first
    | (exfalso; omega)
    | exact done_ef2 [] (by simp) rfl (by simp [mA]) (by simp [bC])
theorem either_wordok_b (G : List Gl) (all : List Tok) (c : Cmd) (i size z : Nat) (hz : z = 0 ∨ z = 4) (hal : all.length ≤ 16384) (ws : List (List UInt8)) (m : Nat) (most x : Int) (hidx : Eff G Tryz.prog 113 [.slice (some ⟨0, 0⟩) m m, .str (tokAt all i).text] [(0, .cells (ws.map EV.str) 9 0 true 0)] 1 (.int .i64 x) [] 1) (hx : -1 ≤ x) (h : i < all.length) (hk1 : ((tokAt all i).kind : Int) = 1) (hb : 0 ≤ x ∧ x ≤ most) : Eff G Tryz.prog 102 [.ptr (some ⟨0, 0⟩), .slice (some ⟨3, 0⟩) m m, .int .i64 most] [(0, rdE c (slT all i) size (some ⟨2, 0⟩)), tkB all z, (3, .cells (ws.map EV.str) 9 0 true 0)] 4 (.int .i64 x) [(0, rdE c (slT all (i + 1)) size (some ⟨2, 0⟩)), tkB all z] 4 := by
  unfold Eff
  have hk : ((tokAt all i).kind : Int) = 2 ∨ ((tokAt all i).kind : Int) = 1 := .inr hk1
  have hd : decide (0 ≤ x) = true := decide_eq_true hb.1
  refine ecalls_in 43 [.tmp 6] Tryz.func102 rfl rfl rfl (by kernel_rfl) (le_ble rfl) ?_
  repeat' (first | refine esem_seqK 68720525767 ?_ | refine esem_block ?_ | (refine stp ?_; simp only [go_sem]) | (refine Eff.at2 (next2_ok_b _ all c i size z hz hal 2 1 h hk ) [0, 1, 2, 4] rfl (by first | (simp; done) | (simp; omega) | (simp [bC]; done) | omega) rfl ?_; (try simp only [go_sem])) | (refine Eff.at2 (hidx ) [3] rfl (by first | (simp; done) | (simp; omega) | (simp [bC]; done) | omega) rfl ?_; (try simp only [go_sem])) | (simp only [hd, go_sem, Bool.not_true, Bool.not_false]) | (simp (disch := omega) only [wE]) | (refine spl (fun h => ?_) (fun h => ?_) <;> first | (exfalso; omega) | ((try simp only [opRun, opSkip, stepRun, pickZ]); (try simp only [go_sem, h]))) | (refine and_om ?_ ?_; focus omega))
  all_goals first
    | (exfalso; omega)
    | exact done_ef2 [] (by simp) rfl (by simp [mA]) (by simp [bC])
theorem either_wordneg_b (G : List Gl) (all : List Tok) (c : Cmd) (i size z : Nat) (hz : z = 0 ∨ z = 4) (hal : all.length ≤ 16384) (ws : List (List UInt8)) (m : Nat) (most x : Int) (hidx : Eff G Tryz.prog 113 [.slice (some ⟨0, 0⟩) m m, .str (tokAt all i).text] [(0, .cells (ws.map EV.str) 9 0 true 0)] 1 (.int .i64 x) [] 1) (hx : -1 ≤ x) (h : i < all.length) (hk1 : ((tokAt all i).kind : Int) = 1) (hb : x < 0) : Eff G Tryz.prog 102 [.ptr (some ⟨0, 0⟩), .slice (some ⟨3, 0⟩) m m, .int .i64 most] [(0, rdE c (slT all i) size (some ⟨2, 0⟩)), tkB all z, (3, .cells (ws.map EV.str) 9 0 true 0)] 4 (.int .i64 0) [(0, rdE c (slT all (i + 1)) size (some ⟨2, 0⟩)), tkB all z] 4 := by
  unfold Eff
  have hk : ((tokAt all i).kind : Int) = 2 ∨ ((tokAt all i).kind : Int) = 1 := .inr hk1
  have hd : decide (0 ≤ x) = false := decide_eq_false (by omega)
  refine ecalls_in 43 [.tmp 6] Tryz.func102 rfl rfl rfl (by kernel_rfl) (le_ble rfl) ?_
  repeat' (first | refine esem_seqK 68720525767 ?_ | refine esem_block ?_ | (refine stp ?_; simp only [go_sem]) | (refine Eff.at2 (next2_ok_b _ all c i size z hz hal 2 1 h hk ) [0, 1, 2, 4] rfl (by first | (simp; done) | (simp; omega) | (simp [bC]; done) | omega) rfl ?_; (try simp only [go_sem])) | (refine Eff.at2 (hidx ) [3] rfl (by first | (simp; done) | (simp; omega) | (simp [bC]; done) | omega) rfl ?_; (try simp only [go_sem])) | (simp only [hd, go_sem, Bool.not_true, Bool.not_false]) | (refine Eff.at2 (fails_old _ c (slT all (i + 1)) (.inr ⟨_, _, rfl⟩) size (tokAt all i).at_ ) [0, 1, 2] rfl (by first | (simp; done) | (simp; omega) | (simp [bC]; done) | omega) rfl ?_; (try simp only [go_sem])) | (simp (disch := omega) only [wE]) | (refine spl (fun h => ?_) (fun h => ?_) <;> first | (exfalso; omega) | ((try simp only [opRun, opSkip, stepRun, pickZ]); (try simp only [go_sem, h]))) | (refine and_om ?_ ?_; focus omega))
  all_goals first
    | (exfalso; omega)
    | exact done_ef2 [] (by simp) rfl (by simp [mA]) (by simp [bC])
end Go.Proofs.YtnjbdcdjcfhooaaGreatDoor
namespace Go.Proofs.YtnjbdcdjcfhooaaGreatDoor
open Go.E
set_option linter.all false
set_option maxRecDepth 20000
set_option maxHeartbeats 8000000
theorem gravity_end (G : List Gl) (all : List Tok) (c : Cmd) (i size z : Nat) (hz : z = 0 ∨ z = 4) (hal : all.length ≤ 16384) (h : all.length ≤ i) : Eff G Tryz.prog 66 [.ptr (some ⟨0, 0⟩)] [(0, rdE c (slT all i) size none), tkB all z] 2 (.tuple []) [(0, rdE {c with grav := 0} (slT all i) size (some ⟨2, 0⟩)), tkB all z, (2, faultC 260 size)] 3 := by
  unfold Eff
  have hx := idxS_bd gravL (tokAt all i).text 0
  have hxl : (gravL).length = 2 := rfl
  rw [hxl] at hx
  refine ecalls_in 10 [] Tryz.func66 rfl rfl rfl (by kernel_rfl) (le_ble rfl) ?_
  repeat' (first | refine esem_seqK 1 ?_ | refine esem_block ?_ | (refine stp ?_; simp only [go_sem]) | (refine Eff.at2 (gravities_c _ ) [] rfl (by first | (simp; done) | (simp; omega) | (simp [bC]; done) | omega) rfl ?_; (try simp only [go_sem])) | (refine Eff.at2 (either_end _ all c i size z hz hal gravL 2 255 (idxS gravL (tokAt all i).text 0) (sidxG_c G _) hx.1 h ) [0, 1, 2] rfl (by first | (simp; done) | (simp; omega) | (simp [bC]; done) | omega) rfl ?_; (try simp only [go_sem])) | (simp (disch := omega) only [wE]) | (refine spl (fun h => ?_) (fun h => ?_) <;> first | (exfalso; omega) | ((try simp only [opRun, opSkip, stepRun, pickZ]); (try simp only [go_sem, h]))) | (refine and_om ?_ ?_; focus omega))
  all_goals exact done_ef2 [3] (by simp) rfl (by simp [mA]) (by simp [bC])
theorem gravity_no (G : List Gl) (all : List Tok) (c : Cmd) (i size z : Nat) (hz : z = 0 ∨ z = 4) (hal : all.length ≤ 16384) (h : i < all.length) (hk : ¬ (((tokAt all i).kind : Int) = 2 ∨ ((tokAt all i).kind : Int) = 1)) : Eff G Tryz.prog 66 [.ptr (some ⟨0, 0⟩)] [(0, rdE c (slT all i) size none), tkB all z] 2 (.tuple []) [(0, rdE {c with grav := 0} (slT all (i + 1)) size (some ⟨2, 0⟩)), tkB all z, (2, faultC 260 (tokAt all i).at_)] 3 := by
  unfold Eff
  have hx := idxS_bd gravL (tokAt all i).text 0
  have hxl : (gravL).length = 2 := rfl
  rw [hxl] at hx
  refine ecalls_in 10 [] Tryz.func66 rfl rfl rfl (by kernel_rfl) (le_ble rfl) ?_
  repeat' (first | refine esem_seqK 1 ?_ | refine esem_block ?_ | (refine stp ?_; simp only [go_sem]) | (refine Eff.at2 (gravities_c _ ) [] rfl (by first | (simp; done) | (simp; omega) | (simp [bC]; done) | omega) rfl ?_; (try simp only [go_sem])) | (refine Eff.at2 (either_no _ all c i size z hz hal gravL 2 255 (idxS gravL (tokAt all i).text 0) (sidxG_c G _) hx.1 h hk ) [0, 1, 2] rfl (by first | (simp; done) | (simp; omega) | (simp [bC]; done) | omega) rfl ?_; (try simp only [go_sem])) | (simp (disch := omega) only [wE]) | (refine spl (fun h => ?_) (fun h => ?_) <;> first | (exfalso; omega) | ((try simp only [opRun, opSkip, stepRun, pickZ]); (try simp only [go_sem, h]))) | (refine and_om ?_ ?_; focus omega))
  all_goals exact done_ef2 [3] (by simp) rfl (by simp [mA]) (by simp [bC])
theorem gravity_numok (G : List Gl) (all : List Tok) (c : Cmd) (i size z : Nat) (hz : z = 0 ∨ z = 4) (hal : all.length ≤ 16384) (h : i < all.length) (hk2 : ((tokAt all i).kind : Int) = 2) (hb : ((tokAt all i).num : Int) ≤ 255) : Eff G Tryz.prog 66 [.ptr (some ⟨0, 0⟩)] [(0, rdE c (slT all i) size none), tkB all z] 2 (.tuple []) [(0, rdE {c with grav := (tokAt all i).num} (slT all (i + 1)) size none), tkB all z] 2 := by
  unfold Eff
  have hx := idxS_bd gravL (tokAt all i).text 0
  have hxl : (gravL).length = 2 := rfl
  rw [hxl] at hx
  refine ecalls_in 10 [] Tryz.func66 rfl rfl rfl (by kernel_rfl) (le_ble rfl) ?_
  repeat' (first | refine esem_seqK 1 ?_ | refine esem_block ?_ | (refine stp ?_; simp only [go_sem]) | (refine Eff.at2 (gravities_c _ ) [] rfl (by first | (simp; done) | (simp; omega) | (simp [bC]; done) | omega) rfl ?_; (try simp only [go_sem])) | (refine Eff.at2 (either_numok _ all c i size z hz hal gravL 2 255 (idxS gravL (tokAt all i).text 0) (sidxG_c G _) hx.1 h hk2 hb ) [0, 1, 2] rfl (by first | (simp; done) | (simp; omega) | (simp [bC]; done) | omega) rfl ?_; (try simp only [go_sem])) | (simp (disch := omega) only [wE]) | (refine spl (fun h => ?_) (fun h => ?_) <;> first | (exfalso; omega) | ((try simp only [opRun, opSkip, stepRun, pickZ]); (try simp only [go_sem, h]))) | (refine and_om ?_ ?_; focus omega))
  all_goals exact done_ef2 [] (by simp) rfl (by simp [mA]) (by simp [bC])
theorem gravity_numbig (G : List Gl) (all : List Tok) (c : Cmd) (i size z : Nat) (hz : z = 0 ∨ z = 4) (hal : all.length ≤ 16384) (h : i < all.length) (hk2 : ((tokAt all i).kind : Int) = 2) (hb : 255 < ((tokAt all i).num : Int)) : Eff G Tryz.prog 66 [.ptr (some ⟨0, 0⟩)] [(0, rdE c (slT all i) size none), tkB all z] 2 (.tuple []) [(0, rdE {c with grav := 0} (slT all (i + 1)) size (some ⟨2, 0⟩)), tkB all z, (2, faultC 260 (tokAt all i).at_)] 3 := by
  unfold Eff
  have hx := idxS_bd gravL (tokAt all i).text 0
  have hxl : (gravL).length = 2 := rfl
  rw [hxl] at hx
  refine ecalls_in 10 [] Tryz.func66 rfl rfl rfl (by kernel_rfl) (le_ble rfl) ?_
  repeat' (first | refine esem_seqK 1 ?_ | refine esem_block ?_ | (refine stp ?_; simp only [go_sem]) | (refine Eff.at2 (gravities_c _ ) [] rfl (by first | (simp; done) | (simp; omega) | (simp [bC]; done) | omega) rfl ?_; (try simp only [go_sem])) | (refine Eff.at2 (either_numbig _ all c i size z hz hal gravL 2 255 (idxS gravL (tokAt all i).text 0) (sidxG_c G _) hx.1 h hk2 hb ) [0, 1, 2] rfl (by first | (simp; done) | (simp; omega) | (simp [bC]; done) | omega) rfl ?_; (try simp only [go_sem])) | (simp (disch := omega) only [wE]) | (refine spl (fun h => ?_) (fun h => ?_) <;> first | (exfalso; omega) | ((try simp only [opRun, opSkip, stepRun, pickZ]); (try simp only [go_sem, h]))) | (refine and_om ?_ ?_; focus omega))
  all_goals exact done_ef2 [3] (by simp) rfl (by simp [mA]) (by simp [bC])
theorem gravity_wordok (G : List Gl) (all : List Tok) (c : Cmd) (i size z : Nat) (hz : z = 0 ∨ z = 4) (hal : all.length ≤ 16384) (h : i < all.length) (hk1 : ((tokAt all i).kind : Int) = 1) (hb : 0 ≤ idxS gravL (tokAt all i).text 0) : Eff G Tryz.prog 66 [.ptr (some ⟨0, 0⟩)] [(0, rdE c (slT all i) size none), tkB all z] 2 (.tuple []) [(0, rdE {c with grav := idxS gravL (tokAt all i).text 0} (slT all (i + 1)) size none), tkB all z] 2 := by
  unfold Eff
  have hx := idxS_bd gravL (tokAt all i).text 0
  have hxl : (gravL).length = 2 := rfl
  rw [hxl] at hx
  refine ecalls_in 10 [] Tryz.func66 rfl rfl rfl (by kernel_rfl) (le_ble rfl) ?_
  repeat' (first | refine esem_seqK 1 ?_ | refine esem_block ?_ | (refine stp ?_; simp only [go_sem]) | (refine Eff.at2 (gravities_c _ ) [] rfl (by first | (simp; done) | (simp; omega) | (simp [bC]; done) | omega) rfl ?_; (try simp only [go_sem])) | (refine Eff.at2 (either_wordok _ all c i size z hz hal gravL 2 255 (idxS gravL (tokAt all i).text 0) (sidxG_c G _) hx.1 h hk1 ⟨hb, by omega⟩ ) [0, 1, 2] rfl (by first | (simp; done) | (simp; omega) | (simp [bC]; done) | omega) rfl ?_; (try simp only [go_sem])) | (simp (disch := omega) only [wE]) | (refine spl (fun h => ?_) (fun h => ?_) <;> first | (exfalso; omega) | ((try simp only [opRun, opSkip, stepRun, pickZ]); (try simp only [go_sem, h]))) | (refine and_om ?_ ?_; focus omega))
  all_goals exact done_ef2 [] (by simp) rfl (by simp [mA]) (by simp [bC])
theorem gravity_wordneg (G : List Gl) (all : List Tok) (c : Cmd) (i size z : Nat) (hz : z = 0 ∨ z = 4) (hal : all.length ≤ 16384) (h : i < all.length) (hk1 : ((tokAt all i).kind : Int) = 1) (hb : idxS gravL (tokAt all i).text 0 < 0) : Eff G Tryz.prog 66 [.ptr (some ⟨0, 0⟩)] [(0, rdE c (slT all i) size none), tkB all z] 2 (.tuple []) [(0, rdE {c with grav := 0} (slT all (i + 1)) size (some ⟨2, 0⟩)), tkB all z, (2, faultC 260 (tokAt all i).at_)] 3 := by
  unfold Eff
  have hx := idxS_bd gravL (tokAt all i).text 0
  have hxl : (gravL).length = 2 := rfl
  rw [hxl] at hx
  refine ecalls_in 10 [] Tryz.func66 rfl rfl rfl (by kernel_rfl) (le_ble rfl) ?_
  repeat' (first | refine esem_seqK 1 ?_ | refine esem_block ?_ | (refine stp ?_; simp only [go_sem]) | (refine Eff.at2 (gravities_c _ ) [] rfl (by first | (simp; done) | (simp; omega) | (simp [bC]; done) | omega) rfl ?_; (try simp only [go_sem])) | (refine Eff.at2 (either_wordneg _ all c i size z hz hal gravL 2 255 (idxS gravL (tokAt all i).text 0) (sidxG_c G _) hx.1 h hk1 hb ) [0, 1, 2] rfl (by first | (simp; done) | (simp; omega) | (simp [bC]; done) | omega) rfl ?_; (try simp only [go_sem])) | (simp (disch := omega) only [wE]) | (refine spl (fun h => ?_) (fun h => ?_) <;> first | (exfalso; omega) | ((try simp only [opRun, opSkip, stepRun, pickZ]); (try simp only [go_sem, h]))) | (refine and_om ?_ ?_; focus omega))
  all_goals exact done_ef2 [3] (by simp) rfl (by simp [mA]) (by simp [bC])
theorem gravity_end_b (G : List Gl) (all : List Tok) (c : Cmd) (i size z : Nat) (hz : z = 0 ∨ z = 4) (hal : all.length ≤ 16384) (h : all.length ≤ i) : Eff G Tryz.prog 66 [.ptr (some ⟨0, 0⟩)] [(0, rdE c (slT all i) size (some ⟨2, 0⟩)), tkB all z] 3 (.tuple []) [(0, rdE {c with grav := 0} (slT all i) size (some ⟨2, 0⟩)), tkB all z] 3 := by
  unfold Eff
  have hx := idxS_bd gravL (tokAt all i).text 0
  have hxl : (gravL).length = 2 := rfl
  rw [hxl] at hx
  refine ecalls_in 10 [] Tryz.func66 rfl rfl rfl (by kernel_rfl) (le_ble rfl) ?_
  repeat' (first | refine esem_seqK 1 ?_ | refine esem_block ?_ | (refine stp ?_; simp only [go_sem]) | (refine Eff.at2 (gravities_c _ ) [] rfl (by first | (simp; done) | (simp; omega) | (simp [bC]; done) | omega) rfl ?_; (try simp only [go_sem])) | (refine Eff.at2 (either_end_b _ all c i size z hz hal gravL 2 255 (idxS gravL (tokAt all i).text 0) (sidxG_c G _) hx.1 h ) [0, 1, 2, 3] rfl (by first | (simp; done) | (simp; omega) | (simp [bC]; done) | omega) rfl ?_; (try simp only [go_sem])) | (simp (disch := omega) only [wE]) | (refine spl (fun h => ?_) (fun h => ?_) <;> first | (exfalso; omega) | ((try simp only [opRun, opSkip, stepRun, pickZ]); (try simp only [go_sem, h]))) | (refine and_om ?_ ?_; focus omega))
  all_goals exact done_ef2 [] (by simp) rfl (by simp [mA]) (by simp [bC])
theorem gravity_no_b (G : List Gl) (all : List Tok) (c : Cmd) (i size z : Nat) (hz : z = 0 ∨ z = 4) (hal : all.length ≤ 16384) (h : i < all.length) (hk : ¬ (((tokAt all i).kind : Int) = 2 ∨ ((tokAt all i).kind : Int) = 1)) : Eff G Tryz.prog 66 [.ptr (some ⟨0, 0⟩)] [(0, rdE c (slT all i) size (some ⟨2, 0⟩)), tkB all z] 3 (.tuple []) [(0, rdE {c with grav := 0} (slT all (i + 1)) size (some ⟨2, 0⟩)), tkB all z] 3 := by
  unfold Eff
  have hx := idxS_bd gravL (tokAt all i).text 0
  have hxl : (gravL).length = 2 := rfl
  rw [hxl] at hx
  refine ecalls_in 10 [] Tryz.func66 rfl rfl rfl (by kernel_rfl) (le_ble rfl) ?_
  repeat' (first | refine esem_seqK 1 ?_ | refine esem_block ?_ | (refine stp ?_; simp only [go_sem]) | (refine Eff.at2 (gravities_c _ ) [] rfl (by first | (simp; done) | (simp; omega) | (simp [bC]; done) | omega) rfl ?_; (try simp only [go_sem])) | (refine Eff.at2 (either_no_b _ all c i size z hz hal gravL 2 255 (idxS gravL (tokAt all i).text 0) (sidxG_c G _) hx.1 h hk ) [0, 1, 2, 3] rfl (by first | (simp; done) | (simp; omega) | (simp [bC]; done) | omega) rfl ?_; (try simp only [go_sem])) | (simp (disch := omega) only [wE]) | (refine spl (fun h => ?_) (fun h => ?_) <;> first | (exfalso; omega) | ((try simp only [opRun, opSkip, stepRun, pickZ]); (try simp only [go_sem, h]))) | (refine and_om ?_ ?_; focus omega))
  all_goals exact done_ef2 [] (by simp) rfl (by simp [mA]) (by simp [bC])
theorem gravity_numok_b (G : List Gl) (all : List Tok) (c : Cmd) (i size z : Nat) (hz : z = 0 ∨ z = 4) (hal : all.length ≤ 16384) (h : i < all.length) (hk2 : ((tokAt all i).kind : Int) = 2) (hb : ((tokAt all i).num : Int) ≤ 255) : Eff G Tryz.prog 66 [.ptr (some ⟨0, 0⟩)] [(0, rdE c (slT all i) size (some ⟨2, 0⟩)), tkB all z] 3 (.tuple []) [(0, rdE {c with grav := (tokAt all i).num} (slT all (i + 1)) size (some ⟨2, 0⟩)), tkB all z] 3 := by
  unfold Eff
  have hx := idxS_bd gravL (tokAt all i).text 0
  have hxl : (gravL).length = 2 := rfl
  rw [hxl] at hx
  refine ecalls_in 10 [] Tryz.func66 rfl rfl rfl (by kernel_rfl) (le_ble rfl) ?_
  repeat' (first | refine esem_seqK 1 ?_ | refine esem_block ?_ | (refine stp ?_; simp only [go_sem]) | (refine Eff.at2 (gravities_c _ ) [] rfl (by first | (simp; done) | (simp; omega) | (simp [bC]; done) | omega) rfl ?_; (try simp only [go_sem])) | (refine Eff.at2 (either_numok_b _ all c i size z hz hal gravL 2 255 (idxS gravL (tokAt all i).text 0) (sidxG_c G _) hx.1 h hk2 hb ) [0, 1, 2, 3] rfl (by first | (simp; done) | (simp; omega) | (simp [bC]; done) | omega) rfl ?_; (try simp only [go_sem])) | (simp (disch := omega) only [wE]) | (refine spl (fun h => ?_) (fun h => ?_) <;> first | (exfalso; omega) | ((try simp only [opRun, opSkip, stepRun, pickZ]); (try simp only [go_sem, h]))) | (refine and_om ?_ ?_; focus omega))
  all_goals exact done_ef2 [] (by simp) rfl (by simp [mA]) (by simp [bC])
theorem gravity_numbig_b (G : List Gl) (all : List Tok) (c : Cmd) (i size z : Nat) (hz : z = 0 ∨ z = 4) (hal : all.length ≤ 16384) (h : i < all.length) (hk2 : ((tokAt all i).kind : Int) = 2) (hb : 255 < ((tokAt all i).num : Int)) : Eff G Tryz.prog 66 [.ptr (some ⟨0, 0⟩)] [(0, rdE c (slT all i) size (some ⟨2, 0⟩)), tkB all z] 3 (.tuple []) [(0, rdE {c with grav := 0} (slT all (i + 1)) size (some ⟨2, 0⟩)), tkB all z] 3 := by
  unfold Eff
  have hx := idxS_bd gravL (tokAt all i).text 0
  have hxl : (gravL).length = 2 := rfl
  rw [hxl] at hx
  refine ecalls_in 10 [] Tryz.func66 rfl rfl rfl (by kernel_rfl) (le_ble rfl) ?_
  repeat' (first | refine esem_seqK 1 ?_ | refine esem_block ?_ | (refine stp ?_; simp only [go_sem]) | (refine Eff.at2 (gravities_c _ ) [] rfl (by first | (simp; done) | (simp; omega) | (simp [bC]; done) | omega) rfl ?_; (try simp only [go_sem])) | (refine Eff.at2 (either_numbig_b _ all c i size z hz hal gravL 2 255 (idxS gravL (tokAt all i).text 0) (sidxG_c G _) hx.1 h hk2 hb ) [0, 1, 2, 3] rfl (by first | (simp; done) | (simp; omega) | (simp [bC]; done) | omega) rfl ?_; (try simp only [go_sem])) | (simp (disch := omega) only [wE]) | (refine spl (fun h => ?_) (fun h => ?_) <;> first | (exfalso; omega) | ((try simp only [opRun, opSkip, stepRun, pickZ]); (try simp only [go_sem, h]))) | (refine and_om ?_ ?_; focus omega))
  all_goals exact done_ef2 [] (by simp) rfl (by simp [mA]) (by simp [bC])
theorem gravity_wordok_b (G : List Gl) (all : List Tok) (c : Cmd) (i size z : Nat) (hz : z = 0 ∨ z = 4) (hal : all.length ≤ 16384) (h : i < all.length) (hk1 : ((tokAt all i).kind : Int) = 1) (hb : 0 ≤ idxS gravL (tokAt all i).text 0) : Eff G Tryz.prog 66 [.ptr (some ⟨0, 0⟩)] [(0, rdE c (slT all i) size (some ⟨2, 0⟩)), tkB all z] 3 (.tuple []) [(0, rdE {c with grav := idxS gravL (tokAt all i).text 0} (slT all (i + 1)) size (some ⟨2, 0⟩)), tkB all z] 3 := by
  unfold Eff
  have hx := idxS_bd gravL (tokAt all i).text 0
  have hxl : (gravL).length = 2 := rfl
  rw [hxl] at hx
  refine ecalls_in 10 [] Tryz.func66 rfl rfl rfl (by kernel_rfl) (le_ble rfl) ?_
  repeat' (first | refine esem_seqK 1 ?_ | refine esem_block ?_ | (refine stp ?_; simp only [go_sem]) | (refine Eff.at2 (gravities_c _ ) [] rfl (by first | (simp; done) | (simp; omega) | (simp [bC]; done) | omega) rfl ?_; (try simp only [go_sem])) | (refine Eff.at2 (either_wordok_b _ all c i size z hz hal gravL 2 255 (idxS gravL (tokAt all i).text 0) (sidxG_c G _) hx.1 h hk1 ⟨hb, by omega⟩ ) [0, 1, 2, 3] rfl (by first | (simp; done) | (simp; omega) | (simp [bC]; done) | omega) rfl ?_; (try simp only [go_sem])) | (simp (disch := omega) only [wE]) | (refine spl (fun h => ?_) (fun h => ?_) <;> first | (exfalso; omega) | ((try simp only [opRun, opSkip, stepRun, pickZ]); (try simp only [go_sem, h]))) | (refine and_om ?_ ?_; focus omega))
  all_goals exact done_ef2 [] (by simp) rfl (by simp [mA]) (by simp [bC])
theorem gravity_wordneg_b (G : List Gl) (all : List Tok) (c : Cmd) (i size z : Nat) (hz : z = 0 ∨ z = 4) (hal : all.length ≤ 16384) (h : i < all.length) (hk1 : ((tokAt all i).kind : Int) = 1) (hb : idxS gravL (tokAt all i).text 0 < 0) : Eff G Tryz.prog 66 [.ptr (some ⟨0, 0⟩)] [(0, rdE c (slT all i) size (some ⟨2, 0⟩)), tkB all z] 3 (.tuple []) [(0, rdE {c with grav := 0} (slT all (i + 1)) size (some ⟨2, 0⟩)), tkB all z] 3 := by
  unfold Eff
  have hx := idxS_bd gravL (tokAt all i).text 0
  have hxl : (gravL).length = 2 := rfl
  rw [hxl] at hx
  refine ecalls_in 10 [] Tryz.func66 rfl rfl rfl (by kernel_rfl) (le_ble rfl) ?_
  repeat' (first | refine esem_seqK 1 ?_ | refine esem_block ?_ | (refine stp ?_; simp only [go_sem]) | (refine Eff.at2 (gravities_c _ ) [] rfl (by first | (simp; done) | (simp; omega) | (simp [bC]; done) | omega) rfl ?_; (try simp only [go_sem])) | (refine Eff.at2 (either_wordneg_b _ all c i size z hz hal gravL 2 255 (idxS gravL (tokAt all i).text 0) (sidxG_c G _) hx.1 h hk1 hb ) [0, 1, 2, 3] rfl (by first | (simp; done) | (simp; omega) | (simp [bC]; done) | omega) rfl ?_; (try simp only [go_sem])) | (simp (disch := omega) only [wE]) | (refine spl (fun h => ?_) (fun h => ?_) <;> first | (exfalso; omega) | ((try simp only [opRun, opSkip, stepRun, pickZ]); (try simp only [go_sem, h]))) | (refine and_om ?_ ?_; focus omega))
  all_goals exact done_ef2 [] (by simp) rfl (by simp [mA]) (by simp [bC])
theorem motion_end (G : List Gl) (all : List Tok) (c : Cmd) (i size z : Nat) (hz : z = 0 ∨ z = 4) (hal : all.length ≤ 16384) (h : all.length ≤ i) : Eff G Tryz.prog 67 [.ptr (some ⟨0, 0⟩)] [(0, rdE c (slT all i) size none), tkB all z] 2 (.tuple []) [(0, rdE {c with frm := 0} (slT all i) size (some ⟨2, 0⟩)), tkB all z, (2, faultC 260 size)] 3 := by
  unfold Eff
  have hx := idxS_bd motL (tokAt all i).text 0
  have hxl : (motL).length = 9 := rfl
  rw [hxl] at hx
  refine ecalls_in 9 [] Tryz.func67 rfl rfl rfl (by kernel_rfl) (le_ble rfl) ?_
  repeat' (first | refine esem_seqK 1 ?_ | refine esem_block ?_ | (refine stp ?_; simp only [go_sem]) | (refine Eff.at2 (motions_c _ ) [] rfl (by first | (simp; done) | (simp; omega) | (simp [bC]; done) | omega) rfl ?_; (try simp only [go_sem])) | (refine Eff.at2 (either_end _ all c i size z hz hal motL 9 9223372036854775807 (idxS motL (tokAt all i).text 0) (sidxM_c G _) hx.1 h ) [0, 1, 2] rfl (by first | (simp; done) | (simp; omega) | (simp [bC]; done) | omega) rfl ?_; (try simp only [go_sem])) | (simp (disch := omega) only [wE]) | (refine spl (fun h => ?_) (fun h => ?_) <;> first | (exfalso; omega) | ((try simp only [opRun, opSkip, stepRun, pickZ]); (try simp only [go_sem, h]))) | (refine and_om ?_ ?_; focus omega))
  all_goals exact done_ef2 [3] (by simp) rfl (by simp [mA]) (by simp [bC])
theorem motion_no (G : List Gl) (all : List Tok) (c : Cmd) (i size z : Nat) (hz : z = 0 ∨ z = 4) (hal : all.length ≤ 16384) (h : i < all.length) (hk : ¬ (((tokAt all i).kind : Int) = 2 ∨ ((tokAt all i).kind : Int) = 1)) : Eff G Tryz.prog 67 [.ptr (some ⟨0, 0⟩)] [(0, rdE c (slT all i) size none), tkB all z] 2 (.tuple []) [(0, rdE {c with frm := 0} (slT all (i + 1)) size (some ⟨2, 0⟩)), tkB all z, (2, faultC 260 (tokAt all i).at_)] 3 := by
  unfold Eff
  have hx := idxS_bd motL (tokAt all i).text 0
  have hxl : (motL).length = 9 := rfl
  rw [hxl] at hx
  refine ecalls_in 9 [] Tryz.func67 rfl rfl rfl (by kernel_rfl) (le_ble rfl) ?_
  repeat' (first | refine esem_seqK 1 ?_ | refine esem_block ?_ | (refine stp ?_; simp only [go_sem]) | (refine Eff.at2 (motions_c _ ) [] rfl (by first | (simp; done) | (simp; omega) | (simp [bC]; done) | omega) rfl ?_; (try simp only [go_sem])) | (refine Eff.at2 (either_no _ all c i size z hz hal motL 9 9223372036854775807 (idxS motL (tokAt all i).text 0) (sidxM_c G _) hx.1 h hk ) [0, 1, 2] rfl (by first | (simp; done) | (simp; omega) | (simp [bC]; done) | omega) rfl ?_; (try simp only [go_sem])) | (simp (disch := omega) only [wE]) | (refine spl (fun h => ?_) (fun h => ?_) <;> first | (exfalso; omega) | ((try simp only [opRun, opSkip, stepRun, pickZ]); (try simp only [go_sem, h]))) | (refine and_om ?_ ?_; focus omega))
  all_goals exact done_ef2 [3] (by simp) rfl (by simp [mA]) (by simp [bC])
theorem motion_numok (G : List Gl) (all : List Tok) (c : Cmd) (i size z : Nat) (hz : z = 0 ∨ z = 4) (hal : all.length ≤ 16384) (h : i < all.length) (hk2 : ((tokAt all i).kind : Int) = 2) (hb : ((tokAt all i).num : Int) ≤ 9223372036854775807) : Eff G Tryz.prog 67 [.ptr (some ⟨0, 0⟩)] [(0, rdE c (slT all i) size none), tkB all z] 2 (.tuple []) [(0, rdE {c with frm := (tokAt all i).num} (slT all (i + 1)) size none), tkB all z] 2 := by
  unfold Eff
  have hx := idxS_bd motL (tokAt all i).text 0
  have hxl : (motL).length = 9 := rfl
  rw [hxl] at hx
  refine ecalls_in 9 [] Tryz.func67 rfl rfl rfl (by kernel_rfl) (le_ble rfl) ?_
  repeat' (first | refine esem_seqK 1 ?_ | refine esem_block ?_ | (refine stp ?_; simp only [go_sem]) | (refine Eff.at2 (motions_c _ ) [] rfl (by first | (simp; done) | (simp; omega) | (simp [bC]; done) | omega) rfl ?_; (try simp only [go_sem])) | (refine Eff.at2 (either_numok _ all c i size z hz hal motL 9 9223372036854775807 (idxS motL (tokAt all i).text 0) (sidxM_c G _) hx.1 h hk2 hb ) [0, 1, 2] rfl (by first | (simp; done) | (simp; omega) | (simp [bC]; done) | omega) rfl ?_; (try simp only [go_sem])) | (simp (disch := omega) only [wE]) | (refine spl (fun h => ?_) (fun h => ?_) <;> first | (exfalso; omega) | ((try simp only [opRun, opSkip, stepRun, pickZ]); (try simp only [go_sem, h]))) | (refine and_om ?_ ?_; focus omega))
  all_goals exact done_ef2 [] (by simp) rfl (by simp [mA]) (by simp [bC])
theorem motion_numbig (G : List Gl) (all : List Tok) (c : Cmd) (i size z : Nat) (hz : z = 0 ∨ z = 4) (hal : all.length ≤ 16384) (h : i < all.length) (hk2 : ((tokAt all i).kind : Int) = 2) (hb : 9223372036854775807 < ((tokAt all i).num : Int)) : Eff G Tryz.prog 67 [.ptr (some ⟨0, 0⟩)] [(0, rdE c (slT all i) size none), tkB all z] 2 (.tuple []) [(0, rdE {c with frm := 0} (slT all (i + 1)) size (some ⟨2, 0⟩)), tkB all z, (2, faultC 260 (tokAt all i).at_)] 3 := by
  unfold Eff
  have hx := idxS_bd motL (tokAt all i).text 0
  have hxl : (motL).length = 9 := rfl
  rw [hxl] at hx
  refine ecalls_in 9 [] Tryz.func67 rfl rfl rfl (by kernel_rfl) (le_ble rfl) ?_
  repeat' (first | refine esem_seqK 1 ?_ | refine esem_block ?_ | (refine stp ?_; simp only [go_sem]) | (refine Eff.at2 (motions_c _ ) [] rfl (by first | (simp; done) | (simp; omega) | (simp [bC]; done) | omega) rfl ?_; (try simp only [go_sem])) | (refine Eff.at2 (either_numbig _ all c i size z hz hal motL 9 9223372036854775807 (idxS motL (tokAt all i).text 0) (sidxM_c G _) hx.1 h hk2 hb ) [0, 1, 2] rfl (by first | (simp; done) | (simp; omega) | (simp [bC]; done) | omega) rfl ?_; (try simp only [go_sem])) | (simp (disch := omega) only [wE]) | (refine spl (fun h => ?_) (fun h => ?_) <;> first | (exfalso; omega) | ((try simp only [opRun, opSkip, stepRun, pickZ]); (try simp only [go_sem, h]))) | (refine and_om ?_ ?_; focus omega))
  all_goals exact done_ef2 [3] (by simp) rfl (by simp [mA]) (by simp [bC])
theorem motion_wordok (G : List Gl) (all : List Tok) (c : Cmd) (i size z : Nat) (hz : z = 0 ∨ z = 4) (hal : all.length ≤ 16384) (h : i < all.length) (hk1 : ((tokAt all i).kind : Int) = 1) (hb : 0 ≤ idxS motL (tokAt all i).text 0) : Eff G Tryz.prog 67 [.ptr (some ⟨0, 0⟩)] [(0, rdE c (slT all i) size none), tkB all z] 2 (.tuple []) [(0, rdE {c with frm := idxS motL (tokAt all i).text 0} (slT all (i + 1)) size none), tkB all z] 2 := by
  unfold Eff
  have hx := idxS_bd motL (tokAt all i).text 0
  have hxl : (motL).length = 9 := rfl
  rw [hxl] at hx
  refine ecalls_in 9 [] Tryz.func67 rfl rfl rfl (by kernel_rfl) (le_ble rfl) ?_
  repeat' (first | refine esem_seqK 1 ?_ | refine esem_block ?_ | (refine stp ?_; simp only [go_sem]) | (refine Eff.at2 (motions_c _ ) [] rfl (by first | (simp; done) | (simp; omega) | (simp [bC]; done) | omega) rfl ?_; (try simp only [go_sem])) | (refine Eff.at2 (either_wordok _ all c i size z hz hal motL 9 9223372036854775807 (idxS motL (tokAt all i).text 0) (sidxM_c G _) hx.1 h hk1 ⟨hb, by omega⟩ ) [0, 1, 2] rfl (by first | (simp; done) | (simp; omega) | (simp [bC]; done) | omega) rfl ?_; (try simp only [go_sem])) | (simp (disch := omega) only [wE]) | (refine spl (fun h => ?_) (fun h => ?_) <;> first | (exfalso; omega) | ((try simp only [opRun, opSkip, stepRun, pickZ]); (try simp only [go_sem, h]))) | (refine and_om ?_ ?_; focus omega))
  all_goals exact done_ef2 [] (by simp) rfl (by simp [mA]) (by simp [bC])
theorem motion_wordneg (G : List Gl) (all : List Tok) (c : Cmd) (i size z : Nat) (hz : z = 0 ∨ z = 4) (hal : all.length ≤ 16384) (h : i < all.length) (hk1 : ((tokAt all i).kind : Int) = 1) (hb : idxS motL (tokAt all i).text 0 < 0) : Eff G Tryz.prog 67 [.ptr (some ⟨0, 0⟩)] [(0, rdE c (slT all i) size none), tkB all z] 2 (.tuple []) [(0, rdE {c with frm := 0} (slT all (i + 1)) size (some ⟨2, 0⟩)), tkB all z, (2, faultC 260 (tokAt all i).at_)] 3 := by
  unfold Eff
  have hx := idxS_bd motL (tokAt all i).text 0
  have hxl : (motL).length = 9 := rfl
  rw [hxl] at hx
  refine ecalls_in 9 [] Tryz.func67 rfl rfl rfl (by kernel_rfl) (le_ble rfl) ?_
  repeat' (first | refine esem_seqK 1 ?_ | refine esem_block ?_ | (refine stp ?_; simp only [go_sem]) | (refine Eff.at2 (motions_c _ ) [] rfl (by first | (simp; done) | (simp; omega) | (simp [bC]; done) | omega) rfl ?_; (try simp only [go_sem])) | (refine Eff.at2 (either_wordneg _ all c i size z hz hal motL 9 9223372036854775807 (idxS motL (tokAt all i).text 0) (sidxM_c G _) hx.1 h hk1 hb ) [0, 1, 2] rfl (by first | (simp; done) | (simp; omega) | (simp [bC]; done) | omega) rfl ?_; (try simp only [go_sem])) | (simp (disch := omega) only [wE]) | (refine spl (fun h => ?_) (fun h => ?_) <;> first | (exfalso; omega) | ((try simp only [opRun, opSkip, stepRun, pickZ]); (try simp only [go_sem, h]))) | (refine and_om ?_ ?_; focus omega))
  all_goals exact done_ef2 [3] (by simp) rfl (by simp [mA]) (by simp [bC])
theorem motion_end_b (G : List Gl) (all : List Tok) (c : Cmd) (i size z : Nat) (hz : z = 0 ∨ z = 4) (hal : all.length ≤ 16384) (h : all.length ≤ i) : Eff G Tryz.prog 67 [.ptr (some ⟨0, 0⟩)] [(0, rdE c (slT all i) size (some ⟨2, 0⟩)), tkB all z] 3 (.tuple []) [(0, rdE {c with frm := 0} (slT all i) size (some ⟨2, 0⟩)), tkB all z] 3 := by
  unfold Eff
  have hx := idxS_bd motL (tokAt all i).text 0
  have hxl : (motL).length = 9 := rfl
  rw [hxl] at hx
  refine ecalls_in 9 [] Tryz.func67 rfl rfl rfl (by kernel_rfl) (le_ble rfl) ?_
  repeat' (first | refine esem_seqK 1 ?_ | refine esem_block ?_ | (refine stp ?_; simp only [go_sem]) | (refine Eff.at2 (motions_c _ ) [] rfl (by first | (simp; done) | (simp; omega) | (simp [bC]; done) | omega) rfl ?_; (try simp only [go_sem])) | (refine Eff.at2 (either_end_b _ all c i size z hz hal motL 9 9223372036854775807 (idxS motL (tokAt all i).text 0) (sidxM_c G _) hx.1 h ) [0, 1, 2, 3] rfl (by first | (simp; done) | (simp; omega) | (simp [bC]; done) | omega) rfl ?_; (try simp only [go_sem])) | (simp (disch := omega) only [wE]) | (refine spl (fun h => ?_) (fun h => ?_) <;> first | (exfalso; omega) | ((try simp only [opRun, opSkip, stepRun, pickZ]); (try simp only [go_sem, h]))) | (refine and_om ?_ ?_; focus omega))
  all_goals exact done_ef2 [] (by simp) rfl (by simp [mA]) (by simp [bC])
theorem motion_no_b (G : List Gl) (all : List Tok) (c : Cmd) (i size z : Nat) (hz : z = 0 ∨ z = 4) (hal : all.length ≤ 16384) (h : i < all.length) (hk : ¬ (((tokAt all i).kind : Int) = 2 ∨ ((tokAt all i).kind : Int) = 1)) : Eff G Tryz.prog 67 [.ptr (some ⟨0, 0⟩)] [(0, rdE c (slT all i) size (some ⟨2, 0⟩)), tkB all z] 3 (.tuple []) [(0, rdE {c with frm := 0} (slT all (i + 1)) size (some ⟨2, 0⟩)), tkB all z] 3 := by
  unfold Eff
  have hx := idxS_bd motL (tokAt all i).text 0
  have hxl : (motL).length = 9 := rfl
  rw [hxl] at hx
  refine ecalls_in 9 [] Tryz.func67 rfl rfl rfl (by kernel_rfl) (le_ble rfl) ?_
  repeat' (first | refine esem_seqK 1 ?_ | refine esem_block ?_ | (refine stp ?_; simp only [go_sem]) | (refine Eff.at2 (motions_c _ ) [] rfl (by first | (simp; done) | (simp; omega) | (simp [bC]; done) | omega) rfl ?_; (try simp only [go_sem])) | (refine Eff.at2 (either_no_b _ all c i size z hz hal motL 9 9223372036854775807 (idxS motL (tokAt all i).text 0) (sidxM_c G _) hx.1 h hk ) [0, 1, 2, 3] rfl (by first | (simp; done) | (simp; omega) | (simp [bC]; done) | omega) rfl ?_; (try simp only [go_sem])) | (simp (disch := omega) only [wE]) | (refine spl (fun h => ?_) (fun h => ?_) <;> first | (exfalso; omega) | ((try simp only [opRun, opSkip, stepRun, pickZ]); (try simp only [go_sem, h]))) | (refine and_om ?_ ?_; focus omega))
  all_goals exact done_ef2 [] (by simp) rfl (by simp [mA]) (by simp [bC])
theorem motion_numok_b (G : List Gl) (all : List Tok) (c : Cmd) (i size z : Nat) (hz : z = 0 ∨ z = 4) (hal : all.length ≤ 16384) (h : i < all.length) (hk2 : ((tokAt all i).kind : Int) = 2) (hb : ((tokAt all i).num : Int) ≤ 9223372036854775807) : Eff G Tryz.prog 67 [.ptr (some ⟨0, 0⟩)] [(0, rdE c (slT all i) size (some ⟨2, 0⟩)), tkB all z] 3 (.tuple []) [(0, rdE {c with frm := (tokAt all i).num} (slT all (i + 1)) size (some ⟨2, 0⟩)), tkB all z] 3 := by
  unfold Eff
  have hx := idxS_bd motL (tokAt all i).text 0
  have hxl : (motL).length = 9 := rfl
  rw [hxl] at hx
  refine ecalls_in 9 [] Tryz.func67 rfl rfl rfl (by kernel_rfl) (le_ble rfl) ?_
  repeat' (first | refine esem_seqK 1 ?_ | refine esem_block ?_ | (refine stp ?_; simp only [go_sem]) | (refine Eff.at2 (motions_c _ ) [] rfl (by first | (simp; done) | (simp; omega) | (simp [bC]; done) | omega) rfl ?_; (try simp only [go_sem])) | (refine Eff.at2 (either_numok_b _ all c i size z hz hal motL 9 9223372036854775807 (idxS motL (tokAt all i).text 0) (sidxM_c G _) hx.1 h hk2 hb ) [0, 1, 2, 3] rfl (by first | (simp; done) | (simp; omega) | (simp [bC]; done) | omega) rfl ?_; (try simp only [go_sem])) | (simp (disch := omega) only [wE]) | (refine spl (fun h => ?_) (fun h => ?_) <;> first | (exfalso; omega) | ((try simp only [opRun, opSkip, stepRun, pickZ]); (try simp only [go_sem, h]))) | (refine and_om ?_ ?_; focus omega))
  all_goals exact done_ef2 [] (by simp) rfl (by simp [mA]) (by simp [bC])
theorem motion_numbig_b (G : List Gl) (all : List Tok) (c : Cmd) (i size z : Nat) (hz : z = 0 ∨ z = 4) (hal : all.length ≤ 16384) (h : i < all.length) (hk2 : ((tokAt all i).kind : Int) = 2) (hb : 9223372036854775807 < ((tokAt all i).num : Int)) : Eff G Tryz.prog 67 [.ptr (some ⟨0, 0⟩)] [(0, rdE c (slT all i) size (some ⟨2, 0⟩)), tkB all z] 3 (.tuple []) [(0, rdE {c with frm := 0} (slT all (i + 1)) size (some ⟨2, 0⟩)), tkB all z] 3 := by
  unfold Eff
  have hx := idxS_bd motL (tokAt all i).text 0
  have hxl : (motL).length = 9 := rfl
  rw [hxl] at hx
  refine ecalls_in 9 [] Tryz.func67 rfl rfl rfl (by kernel_rfl) (le_ble rfl) ?_
  repeat' (first | refine esem_seqK 1 ?_ | refine esem_block ?_ | (refine stp ?_; simp only [go_sem]) | (refine Eff.at2 (motions_c _ ) [] rfl (by first | (simp; done) | (simp; omega) | (simp [bC]; done) | omega) rfl ?_; (try simp only [go_sem])) | (refine Eff.at2 (either_numbig_b _ all c i size z hz hal motL 9 9223372036854775807 (idxS motL (tokAt all i).text 0) (sidxM_c G _) hx.1 h hk2 hb ) [0, 1, 2, 3] rfl (by first | (simp; done) | (simp; omega) | (simp [bC]; done) | omega) rfl ?_; (try simp only [go_sem])) | (simp (disch := omega) only [wE]) | (refine spl (fun h => ?_) (fun h => ?_) <;> first | (exfalso; omega) | ((try simp only [opRun, opSkip, stepRun, pickZ]); (try simp only [go_sem, h]))) | (refine and_om ?_ ?_; focus omega))
  all_goals exact done_ef2 [] (by simp) rfl (by simp [mA]) (by simp [bC])
theorem motion_wordok_b (G : List Gl) (all : List Tok) (c : Cmd) (i size z : Nat) (hz : z = 0 ∨ z = 4) (hal : all.length ≤ 16384) (h : i < all.length) (hk1 : ((tokAt all i).kind : Int) = 1) (hb : 0 ≤ idxS motL (tokAt all i).text 0) : Eff G Tryz.prog 67 [.ptr (some ⟨0, 0⟩)] [(0, rdE c (slT all i) size (some ⟨2, 0⟩)), tkB all z] 3 (.tuple []) [(0, rdE {c with frm := idxS motL (tokAt all i).text 0} (slT all (i + 1)) size (some ⟨2, 0⟩)), tkB all z] 3 := by
  unfold Eff
  have hx := idxS_bd motL (tokAt all i).text 0
  have hxl : (motL).length = 9 := rfl
  rw [hxl] at hx
  refine ecalls_in 9 [] Tryz.func67 rfl rfl rfl (by kernel_rfl) (le_ble rfl) ?_
  repeat' (first | refine esem_seqK 1 ?_ | refine esem_block ?_ | (refine stp ?_; simp only [go_sem]) | (refine Eff.at2 (motions_c _ ) [] rfl (by first | (simp; done) | (simp; omega) | (simp [bC]; done) | omega) rfl ?_; (try simp only [go_sem])) | (refine Eff.at2 (either_wordok_b _ all c i size z hz hal motL 9 9223372036854775807 (idxS motL (tokAt all i).text 0) (sidxM_c G _) hx.1 h hk1 ⟨hb, by omega⟩ ) [0, 1, 2, 3] rfl (by first | (simp; done) | (simp; omega) | (simp [bC]; done) | omega) rfl ?_; (try simp only [go_sem])) | (simp (disch := omega) only [wE]) | (refine spl (fun h => ?_) (fun h => ?_) <;> first | (exfalso; omega) | ((try simp only [opRun, opSkip, stepRun, pickZ]); (try simp only [go_sem, h]))) | (refine and_om ?_ ?_; focus omega))
  all_goals exact done_ef2 [] (by simp) rfl (by simp [mA]) (by simp [bC])
theorem motion_wordneg_b (G : List Gl) (all : List Tok) (c : Cmd) (i size z : Nat) (hz : z = 0 ∨ z = 4) (hal : all.length ≤ 16384) (h : i < all.length) (hk1 : ((tokAt all i).kind : Int) = 1) (hb : idxS motL (tokAt all i).text 0 < 0) : Eff G Tryz.prog 67 [.ptr (some ⟨0, 0⟩)] [(0, rdE c (slT all i) size (some ⟨2, 0⟩)), tkB all z] 3 (.tuple []) [(0, rdE {c with frm := 0} (slT all (i + 1)) size (some ⟨2, 0⟩)), tkB all z] 3 := by
  unfold Eff
  have hx := idxS_bd motL (tokAt all i).text 0
  have hxl : (motL).length = 9 := rfl
  rw [hxl] at hx
  refine ecalls_in 9 [] Tryz.func67 rfl rfl rfl (by kernel_rfl) (le_ble rfl) ?_
  repeat' (first | refine esem_seqK 1 ?_ | refine esem_block ?_ | (refine stp ?_; simp only [go_sem]) | (refine Eff.at2 (motions_c _ ) [] rfl (by first | (simp; done) | (simp; omega) | (simp [bC]; done) | omega) rfl ?_; (try simp only [go_sem])) | (refine Eff.at2 (either_wordneg_b _ all c i size z hz hal motL 9 9223372036854775807 (idxS motL (tokAt all i).text 0) (sidxM_c G _) hx.1 h hk1 hb ) [0, 1, 2, 3] rfl (by first | (simp; done) | (simp; omega) | (simp [bC]; done) | omega) rfl ?_; (try simp only [go_sem])) | (simp (disch := omega) only [wE]) | (refine spl (fun h => ?_) (fun h => ?_) <;> first | (exfalso; omega) | ((try simp only [opRun, opSkip, stepRun, pickZ]); (try simp only [go_sem, h]))) | (refine and_om ?_ ?_; focus omega))
  all_goals exact done_ef2 [] (by simp) rfl (by simp [mA]) (by simp [bC])
theorem maybe_none (G : List Gl) (all : List Tok) (c : Cmd) (i size z : Nat) (hz : z = 0 ∨ z = 4) (hal : all.length ≤ 16384) (hh : all.length ≤ i) : Eff G Tryz.prog 68 [.ptr (some ⟨0, 0⟩)] [(0, rdE c (slT all i) size none), tkB all z] 2 (.tuple []) [(0, rdE c (slT all i) size none), tkB all z] 2 := by
  unfold Eff
  refine ecalls_in 10 [] Tryz.func68 rfl rfl rfl (by kernel_rfl) (le_ble rfl) ?_
  repeat' (first | refine esem_seqK 129 ?_ | refine esem_block ?_ | (refine stp ?_; simp only [go_sem]) | (fail) | (simp (disch := omega) only [wE]) | (refine spl (fun h => ?_) (fun h => ?_) <;> first | (exfalso; omega) | ((try simp only [opRun, opSkip, stepRun, pickZ]); (try simp only [go_sem, h]))) | (refine and_om ?_ ?_; focus omega))
  all_goals first
    | (exfalso; omega)
    | exact done_ef2 [] (by simp) rfl (by simp [mA]) (by simp [bC])
theorem maybe_no (G : List Gl) (all : List Tok) (c : Cmd) (i size z : Nat) (hz : z = 0 ∨ z = 4) (hal : all.length ≤ 16384) (hh : i < all.length) (hk : ¬ (((tokAt all i).kind : Int) = 1 ∨ ((tokAt all i).kind : Int) = 3)) : Eff G Tryz.prog 68 [.ptr (some ⟨0, 0⟩)] [(0, rdE c (slT all i) size none), tkB all z] 2 (.tuple []) [(0, rdE c (slT all (i + 1)) size (some ⟨2, 0⟩)), tkB all z, (2, faultC 260 (tokAt all i).at_)] 3 := by
  unfold Eff
  refine ecalls_in 10 [] Tryz.func68 rfl rfl rfl (by kernel_rfl) (le_ble rfl) ?_
  repeat' (first | refine esem_seqK 129 ?_ | refine esem_block ?_ | (refine stp ?_; simp only [go_sem]) | (refine Eff.at2 (doc_no _ all c i size z hz hal hh hk ) [0, 1] rfl (by first | (simp; done) | (simp; omega) | (simp [bC]; done) | omega) rfl ?_; (try simp only [go_sem])) | (simp (disch := omega) only [wE]) | (refine spl (fun h => ?_) (fun h => ?_) <;> first | (exfalso; omega) | ((try simp only [opRun, opSkip, stepRun, pickZ]); (try simp only [go_sem, h]))) | (refine and_om ?_ ?_; focus omega))
  all_goals first
    | (exfalso; omega)
    | exact done_ef2 [2] (by simp) rfl (by simp [mA]) (by simp [bC])
theorem maybe_ok (G : List Gl) (all : List Tok) (c : Cmd) (i size z : Nat) (hz : z = 0 ∨ z = 4) (hal : all.length ≤ 16384) (hh : i < all.length) (hk : ((tokAt all i).kind : Int) = 1 ∨ ((tokAt all i).kind : Int) = 3) : Eff G Tryz.prog 68 [.ptr (some ⟨0, 0⟩)] [(0, rdE c (slT all i) size none), tkB all z] 2 (.tuple []) [(0, rdE {c with doc := (tokAt all i).text} (slT all (i + 1)) size none), tkB all z] 2 := by
  unfold Eff
  refine ecalls_in 10 [] Tryz.func68 rfl rfl rfl (by kernel_rfl) (le_ble rfl) ?_
  repeat' (first | refine esem_seqK 129 ?_ | refine esem_block ?_ | (refine stp ?_; simp only [go_sem]) | (refine Eff.at2 (doc_ok _ all c i size z hz hal hh hk ) [0, 1] rfl (by first | (simp; done) | (simp; omega) | (simp [bC]; done) | omega) rfl ?_; (try simp only [go_sem])) | (simp (disch := omega) only [wE]) | (refine spl (fun h => ?_) (fun h => ?_) <;> first | (exfalso; omega) | ((try simp only [opRun, opSkip, stepRun, pickZ]); (try simp only [go_sem, h]))) | (refine and_om ?_ ?_; focus omega))
  all_goals first
    | (exfalso; omega)
    | exact done_ef2 [] (by simp) rfl (by simp [mA]) (by simp [bC])
theorem maybe_none_b (G : List Gl) (all : List Tok) (c : Cmd) (i size z : Nat) (hz : z = 0 ∨ z = 4) (hal : all.length ≤ 16384) (hh : all.length ≤ i) : Eff G Tryz.prog 68 [.ptr (some ⟨0, 0⟩)] [(0, rdE c (slT all i) size (some ⟨2, 0⟩)), tkB all z] 3 (.tuple []) [(0, rdE c (slT all i) size (some ⟨2, 0⟩)), tkB all z] 3 := by
  unfold Eff
  refine ecalls_in 10 [] Tryz.func68 rfl rfl rfl (by kernel_rfl) (le_ble rfl) ?_
  repeat' (first | refine esem_seqK 129 ?_ | refine esem_block ?_ | (refine stp ?_; simp only [go_sem]) | (fail) | (simp (disch := omega) only [wE]) | (refine spl (fun h => ?_) (fun h => ?_) <;> first | (exfalso; omega) | ((try simp only [opRun, opSkip, stepRun, pickZ]); (try simp only [go_sem, h]))) | (refine and_om ?_ ?_; focus omega))
  all_goals first
    | (exfalso; omega)
    | exact done_ef2 [] (by simp) rfl (by simp [mA]) (by simp [bC])
theorem maybe_no_b (G : List Gl) (all : List Tok) (c : Cmd) (i size z : Nat) (hz : z = 0 ∨ z = 4) (hal : all.length ≤ 16384) (hh : i < all.length) (hk : ¬ (((tokAt all i).kind : Int) = 1 ∨ ((tokAt all i).kind : Int) = 3)) : Eff G Tryz.prog 68 [.ptr (some ⟨0, 0⟩)] [(0, rdE c (slT all i) size (some ⟨2, 0⟩)), tkB all z] 3 (.tuple []) [(0, rdE c (slT all (i + 1)) size (some ⟨2, 0⟩)), tkB all z] 3 := by
  unfold Eff
  refine ecalls_in 10 [] Tryz.func68 rfl rfl rfl (by kernel_rfl) (le_ble rfl) ?_
  repeat' (first | refine esem_seqK 129 ?_ | refine esem_block ?_ | (refine stp ?_; simp only [go_sem]) | (refine Eff.at2 (doc_no_b _ all c i size z hz hal hh hk ) [0, 1, 2] rfl (by first | (simp; done) | (simp; omega) | (simp [bC]; done) | omega) rfl ?_; (try simp only [go_sem])) | (simp (disch := omega) only [wE]) | (refine spl (fun h => ?_) (fun h => ?_) <;> first | (exfalso; omega) | ((try simp only [opRun, opSkip, stepRun, pickZ]); (try simp only [go_sem, h]))) | (refine and_om ?_ ?_; focus omega))
  all_goals first
    | (exfalso; omega)
    | exact done_ef2 [] (by simp) rfl (by simp [mA]) (by simp [bC])
theorem maybe_ok_b (G : List Gl) (all : List Tok) (c : Cmd) (i size z : Nat) (hz : z = 0 ∨ z = 4) (hal : all.length ≤ 16384) (hh : i < all.length) (hk : ((tokAt all i).kind : Int) = 1 ∨ ((tokAt all i).kind : Int) = 3) : Eff G Tryz.prog 68 [.ptr (some ⟨0, 0⟩)] [(0, rdE c (slT all i) size (some ⟨2, 0⟩)), tkB all z] 3 (.tuple []) [(0, rdE {c with doc := (tokAt all i).text} (slT all (i + 1)) size (some ⟨2, 0⟩)), tkB all z] 3 := by
  unfold Eff
  refine ecalls_in 10 [] Tryz.func68 rfl rfl rfl (by kernel_rfl) (le_ble rfl) ?_
  repeat' (first | refine esem_seqK 129 ?_ | refine esem_block ?_ | (refine stp ?_; simp only [go_sem]) | (refine Eff.at2 (doc_ok_b _ all c i size z hz hal hh hk ) [0, 1, 2] rfl (by first | (simp; done) | (simp; omega) | (simp [bC]; done) | omega) rfl ?_; (try simp only [go_sem])) | (simp (disch := omega) only [wE]) | (refine spl (fun h => ?_) (fun h => ?_) <;> first | (exfalso; omega) | ((try simp only [opRun, opSkip, stepRun, pickZ]); (try simp only [go_sem, h]))) | (refine and_om ?_ ?_; focus omega))
  all_goals first
    | (exfalso; omega)
    | exact done_ef2 [] (by simp) rfl (by simp [mA]) (by simp [bC])
def partS (g : Nat) (all : List Tok) (size : Nat) (c : Cmd) (i : Nat) : Cmd × Nat × Option Nat :=
  if g = 68 ∧ all.length ≤ i then (c, i, none) else
  if g = 60 ∨ g = 68 then (if all.length ≤ i then (c, i, some size) else if (tokAt all i).kind = 1 ∨ (tokAt all i).kind = 3 then ({c with doc := (tokAt all i).text}, i + 1, none) else (c, i + 1, some (tokAt all i).at_)) else
  if g = 61 then (if all.length ≤ i then (c, i, some size) else if (tokAt all i).kind = 1 ∨ (tokAt all i).kind = 3 then ({c with text := (tokAt all i).text}, i + 1, none) else (c, i + 1, some (tokAt all i).at_)) else
  if g = 63 then (if all.length ≤ i then (c, i, some size) else if (tokAt all i).kind = 3 then ({c with text := (tokAt all i).text}, i + 1, none) else (c, i + 1, some (tokAt all i).at_)) else
  if g = 62 then (if all.length ≤ i then (c, i, some size) else if (tokAt all i).kind = 2 then ({c with frm := (tokAt all i).num}, i + 1, none) else (c, i + 1, some (tokAt all i).at_)) else
  if g = 64 then (if all.length ≤ i then (c, i, some size) else if (tokAt all i).kind = 2 then ({c with to := (tokAt all i).num}, i + 1, none) else (c, i + 1, some (tokAt all i).at_)) else
  if g = 65 then (if all.length ≤ i then ({c with id := 0}, i, some size) else if (tokAt all i).kind = 2 then (if (tokAt all i).num ≤ 4294967295 then ({c with id := (tokAt all i).num}, i + 1, none) else (c, i + 1, some (tokAt all i).at_)) else ({c with id := IntKind.u32.wrap (tokAt all i).num}, i + 1, some (tokAt all i).at_)) else
  if g = 66 then (if all.length ≤ i then ({c with grav := 0}, i, some size) else
    if (tokAt all i).kind = 2 then (if (tokAt all i).num ≤ 255 then ({c with grav := (tokAt all i).num}, i + 1, none) else ({c with grav := 0}, i + 1, some (tokAt all i).at_)) else
    if (tokAt all i).kind = 1 then (if 0 ≤ idxS gravL (tokAt all i).text 0 then ({c with grav := idxS gravL (tokAt all i).text 0}, i + 1, none) else ({c with grav := 0}, i + 1, some (tokAt all i).at_)) else ({c with grav := 0}, i + 1, some (tokAt all i).at_)) else
  (if all.length ≤ i then ({c with frm := 0}, i, some size) else
    if (tokAt all i).kind = 2 then (if (tokAt all i).num ≤ 9223372036854775807 then ({c with frm := (tokAt all i).num}, i + 1, none) else ({c with frm := 0}, i + 1, some (tokAt all i).at_)) else
    if (tokAt all i).kind = 1 then (if 0 ≤ idxS motL (tokAt all i).text 0 then ({c with frm := idxS motL (tokAt all i).text 0}, i + 1, none) else ({c with frm := 0}, i + 1, some (tokAt all i).at_)) else ({c with frm := 0}, i + 1, some (tokAt all i).at_))
def partL : List Nat := [60, 61, 63, 62, 64, 65, 66, 67, 68]
def partPost (r : Cmd × Nat × Option Nat) (all : List Tok) (size z : Nat) : List (Nat × EO) := match r.2.2 with
  | none => [(0, rdE r.1 (slT all r.2.1) size none), tkB all z]
  | some a => [(0, rdE r.1 (slT all r.2.1) size (some ⟨2, 0⟩)), tkB all z, (2, faultC 260 a)]
def partN (r : Cmd × Nat × Option Nat) : Nat := match r.2.2 with
  | none => 2
  | some _ => 3
theorem part_n (G : List Gl) (all : List Tok) (c : Cmd) (i size z : Nat) (hz : z = 0 ∨ z = 4) (hal : all.length ≤ 16384) (g : Nat) (hg : g ∈ partL) : Eff G Tryz.prog g [.ptr (some ⟨0, 0⟩)] [(0, rdE c (slT all i) size none), tkB all z] 2 (.tuple []) (partPost (partS g all size c i) all size z) (partN (partS g all size c i)) := by
  simp only [partL, List.mem_cons, List.not_mem_nil, or_false] at hg
  rcases hg with rfl | rfl | rfl | rfl | rfl | rfl | rfl | rfl | rfl
  all_goals
    simp only [partS, Nat.reduceEqDiff, false_and, true_and, or_true, true_or, or_false, if_true, if_false]
    repeat' split
    all_goals simp only [partPost, partN]
  all_goals first
    | (exact doc_end G all c i size z hz hal (by omega))
    | (exact doc_no G all c i size z hz hal (by omega) (by omega))
    | (exact doc_ok G all c i size z hz hal (by omega) (by omega))
    | (exact other_end G all c i size z hz hal (by omega))
    | (exact other_no G all c i size z hz hal (by omega) (by omega))
    | (exact other_ok G all c i size z hz hal (by omega) (by omega))
    | (exact text_end G all c i size z hz hal (by omega))
    | (exact text_no G all c i size z hz hal (by omega) (by omega))
    | (exact text_ok G all c i size z hz hal (by omega) (by omega))
    | (exact from_end G all c i size z hz hal (by omega))
    | (exact from_no G all c i size z hz hal (by omega) (by omega))
    | (exact from_ok G all c i size z hz hal (by omega) (by omega))
    | (exact to_end G all c i size z hz hal (by omega))
    | (exact to_no G all c i size z hz hal (by omega) (by omega))
    | (exact to_ok G all c i size z hz hal (by omega) (by omega))
    | (exact id_end G all c i size z hz hal (by omega))
    | (exact id_no G all c i size z hz hal (by omega) (by omega))
    | (exact id_ok G all c i size z hz hal (by omega) (by omega) (by omega))
    | (exact id_big G all c i size z hz hal (by omega) (by omega) (by omega))
    | (exact gravity_end G all c i size z hz hal (by omega))
    | (exact gravity_no G all c i size z hz hal (by omega) (by omega))
    | (exact gravity_numok G all c i size z hz hal (by omega) (by omega) (by omega))
    | (exact gravity_numbig G all c i size z hz hal (by omega) (by omega) (by omega))
    | (exact gravity_wordok G all c i size z hz hal (by omega) (by omega) (by omega))
    | (exact gravity_wordneg G all c i size z hz hal (by omega) (by omega) (by omega))
    | (exact motion_end G all c i size z hz hal (by omega))
    | (exact motion_no G all c i size z hz hal (by omega) (by omega))
    | (exact motion_numok G all c i size z hz hal (by omega) (by omega) (by omega))
    | (exact motion_numbig G all c i size z hz hal (by omega) (by omega) (by omega))
    | (exact motion_wordok G all c i size z hz hal (by omega) (by omega) (by omega))
    | (exact motion_wordneg G all c i size z hz hal (by omega) (by omega) (by omega))
    | (exact maybe_none G all c i size z hz hal (by omega))
    | (exact maybe_no G all c i size z hz hal (by omega) (by omega))
    | (exact maybe_ok G all c i size z hz hal (by omega) (by omega))
theorem part_b (G : List Gl) (all : List Tok) (c : Cmd) (i size z : Nat) (hz : z = 0 ∨ z = 4) (hal : all.length ≤ 16384) (g : Nat) (hg : g ∈ partL) : Eff G Tryz.prog g [.ptr (some ⟨0, 0⟩)] [(0, rdE c (slT all i) size (some ⟨2, 0⟩)), tkB all z] 3 (.tuple []) [(0, rdE (partS g all size c i).1 (slT all (partS g all size c i).2.1) size (some ⟨2, 0⟩)), tkB all z] 3 := by
  simp only [partL, List.mem_cons, List.not_mem_nil, or_false] at hg
  rcases hg with rfl | rfl | rfl | rfl | rfl | rfl | rfl | rfl | rfl
  all_goals
    simp only [partS, Nat.reduceEqDiff, false_and, true_and, or_true, true_or, or_false, if_true, if_false]
    repeat' split
    all_goals simp only [partPost, partN]
  all_goals first
    | (exact doc_end_b G all c i size z hz hal (by omega))
    | (exact doc_no_b G all c i size z hz hal (by omega) (by omega))
    | (exact doc_ok_b G all c i size z hz hal (by omega) (by omega))
    | (exact other_end_b G all c i size z hz hal (by omega))
    | (exact other_no_b G all c i size z hz hal (by omega) (by omega))
    | (exact other_ok_b G all c i size z hz hal (by omega) (by omega))
    | (exact text_end_b G all c i size z hz hal (by omega))
    | (exact text_no_b G all c i size z hz hal (by omega) (by omega))
    | (exact text_ok_b G all c i size z hz hal (by omega) (by omega))
    | (exact from_end_b G all c i size z hz hal (by omega))
    | (exact from_no_b G all c i size z hz hal (by omega) (by omega))
    | (exact from_ok_b G all c i size z hz hal (by omega) (by omega))
    | (exact to_end_b G all c i size z hz hal (by omega))
    | (exact to_no_b G all c i size z hz hal (by omega) (by omega))
    | (exact to_ok_b G all c i size z hz hal (by omega) (by omega))
    | (exact id_end_b G all c i size z hz hal (by omega))
    | (exact id_no_b G all c i size z hz hal (by omega) (by omega))
    | (exact id_ok_b G all c i size z hz hal (by omega) (by omega) (by omega))
    | (exact id_big_b G all c i size z hz hal (by omega) (by omega) (by omega))
    | (exact gravity_end_b G all c i size z hz hal (by omega))
    | (exact gravity_no_b G all c i size z hz hal (by omega) (by omega))
    | (exact gravity_numok_b G all c i size z hz hal (by omega) (by omega) (by omega))
    | (exact gravity_numbig_b G all c i size z hz hal (by omega) (by omega) (by omega))
    | (exact gravity_wordok_b G all c i size z hz hal (by omega) (by omega) (by omega))
    | (exact gravity_wordneg_b G all c i size z hz hal (by omega) (by omega) (by omega))
    | (exact motion_end_b G all c i size z hz hal (by omega))
    | (exact motion_no_b G all c i size z hz hal (by omega) (by omega))
    | (exact motion_numok_b G all c i size z hz hal (by omega) (by omega) (by omega))
    | (exact motion_numbig_b G all c i size z hz hal (by omega) (by omega) (by omega))
    | (exact motion_wordok_b G all c i size z hz hal (by omega) (by omega) (by omega))
    | (exact motion_wordneg_b G all c i size z hz hal (by omega) (by omega) (by omega))
    | (exact maybe_none_b G all c i size z hz hal (by omega))
    | (exact maybe_no_b G all c i size z hz hal (by omega) (by omega))
    | (exact maybe_ok_b G all c i size z hz hal (by omega) (by omega))
end Go.Proofs.YtnjbdcdjcfhooaaGreatDoor
