/-
  Own work: walks and laws of the functions that the statement reaches; the statement itself stands in the last text.
-/
import Derived.Test.YtnjbdcdjcfhooaaGreatDoorHy
import Derived.Test.YtnjbdcdjcfhooaaGreatDoorHo
namespace Go.Proofs.YtnjbdcdjcfhooaaGreatDoor
open Go.E Go.ChangeShapes Go.WideShapes Go.ChangeAt Go.RowKit
set_option linter.all false
set_option maxRecDepth 20000
set_option maxHeartbeats 16000000
theorem zneq : EqS Tryz.prog .neq 24 (.agg [.int .i64 0, .str [], .int .u32 0, .int .i64 0, .int .i64 0, .str [], .int .u8 0]) (.agg [.int .i64 0, .str [], .int .u32 0, .int .i64 0, .int .i64 0, .str [], .int .u8 0]) false := by
  have := (eqS_struct (xs := cmdE zCmd) (ys := cmdE zCmd) flat24 und24 ⟨rfl, rfl, rfl, rfl, rfl, trivial⟩).2
  simpa only [cmdE, zCmd, eqE, eqE.eqL, decide_true, Bool.and_true, Bool.true_and, Bool.not_true] using this
theorem weq : EqS Tryz.prog .eql 24 (.agg [.int .i64 8, .str [97], .int .u32 4294967295, .int .i64 0, .int .i64 0, .str [], .int .u8 0]) (.agg [.int .i64 8, .str [97], .int .u32 4294967295, .int .i64 0, .int .i64 0, .str [], .int .u8 0]) true := cmd_eq ⟨8, [97], 4294967295, 0, 0, [], 0⟩
theorem bad_c (G : List Gl) (t u : TypeId) (h3 : gFirst t ∈ G) (h4 : gAcc u ∈ G) (l : List UInt8) (hl : l.length ≤ 100) (code at_ : Nat) (hp : parseP l = (zCmd, code, at_)) (hc : code ≠ 0) :
    Eff G Tryz.prog 10 [.str l] [] 0 (.tuple [.agg [.int .i64 0, .str [], .int .u32 0, .int .i64 0, .int .i64 0, .str [], .int .u8 0], .iface 68 (.ptr (some ⟨0, 0⟩))]) [(0, .cells [.int .i64 code, .int .i64 at_] 95 0 true 0)] 1 := by
  have p := parse_c G t u h3 h4 l (by omega)
  rw [hp] at p
  simp only [parseV, parseB, parseN, zCmd, cmdE, if_neg hc] at p
  exact p
theorem fault_b (G : List Gl) {te : TypeId} (hGe : gErr te ∈ G) (code at_ : Nat) (h : code ≠ 0) : Eff G Tryz.prog 12 [.iface 68 (.ptr (some ⟨0, 0⟩))] [(0, .cells [.int .i64 code, .int .i64 at_] 95 0 true 0)] 1 (.tuple [.int .i64 code, .int .i64 at_, .bool true]) [] 1 := by
  have f := fault_at G hGe code at_
  rw [decide_eq_true (show (code : Int) ≠ 0 by omega)] at f
  exact f
def rZ : Rp := ⟨0, 0, 0, 0, [], false, 0, 0, ⟨0, 0, 0, 0, 0, 0, 0, 0, 0⟩⟩
def rF : Rp := ⟨0, 0, 0, 0, [], false, 1, 2, ⟨0, 0, 0, 0, 0, 0, 0, 0, 0⟩⟩
theorem tx0 : parseP [110, 101, 119, 32, 49, 50] = (zCmd, 260, 4) := by decide +kernel
theorem tx1 : parseP [109, 97, 114, 107, 32, 97, 32, 55, 32, 51, 32, 50, 53, 54] = (zCmd, 260, 11) := by decide +kernel
theorem tx2 : parseP [109, 97, 114, 107, 32, 97, 32, 52, 50, 57, 52, 57, 54, 55, 50, 57, 54, 32, 51, 32, 103, 111, 101, 115] = (zCmd, 260, 7) := by decide +kernel
theorem tx3 : parseP [100, 111, 99, 115, 32, 97] = (zCmd, 260, 5) := by decide +kernel
theorem tx4 : parseP [] = (zCmd, 260, 0) := by decide +kernel
theorem tx5 : parseP [34, 110, 101, 119, 34, 32, 97] = (zCmd, 260, 0) := by decide +kernel
theorem tx6 : parseP [105, 110, 115, 101, 114, 116, 32, 97, 32, 48] = (zCmd, 260, 10) := by decide +kernel
theorem tx7 : parseP [78, 101, 119, 32, 97] = (zCmd, 70, 0) := by decide +kernel
theorem tx8 : parseP [105, 110, 115, 101, 114, 116, 32, 97, 32, 48, 32, 34, 120] = (zCmd, 71, 13) := by decide +kernel
theorem txw : parseP [117, 110, 109, 97, 114, 107, 32, 97, 32, 52, 50, 57, 52, 57, 54, 55, 50, 57, 53] = (⟨8, [97], 4294967295, 0, 0, [], 0⟩, 0, 0) := by decide +kernel
theorem shm : showL 18 rZ [⟨7, 5, 1⟩, ⟨8, 1, 0⟩] [] [] = [55, 32, 53, 32, 103, 111, 101, 115, 44, 32, 56, 32, 49, 32, 115, 116, 97, 121, 115] := by decide +kernel
theorem shn : showL 20 rZ [] [] [[97], [98, 32, 99]] = [97, 44, 32, 34, 98, 32, 99, 34] := by decide +kernel
theorem shf : showL 21 rF [] [] [] = [110, 111, 110, 101] := by decide +kernel
theorem commandNames_law (G : List Gl) (te t u tz tp : TypeId) (v : List Value) (hGe : gErr te ∈ G) (h3 : gFirst t ∈ G) (h4 : gAcc u ∈ G) (hv : v[15]? = some (.int .u8 4)) (hG : gTz v tz ∈ G) (hp : gPow tp ∈ G) : E.Pure G Tryz.prog 8 [] (.bool true) := by
  refine pure_hid fun V hV => ?_
  have aw := awake_c G te t u tz tp v hGe h3 h4 hv hG hp
  have p0 := bad_c G t u h3 h4 _ (by decide) 260 4 tx0 (by decide)
  have f0 := fault_b G hGe 260 4 (by decide)
  have p1 := bad_c G t u h3 h4 _ (by decide) 260 11 tx1 (by decide)
  have f1 := fault_b G hGe 260 11 (by decide)
  have p2 := bad_c G t u h3 h4 _ (by decide) 260 7 tx2 (by decide)
  have f2 := fault_b G hGe 260 7 (by decide)
  have p3 := bad_c G t u h3 h4 _ (by decide) 260 5 tx3 (by decide)
  have f3 := fault_b G hGe 260 5 (by decide)
  have p4 := bad_c G t u h3 h4 _ (by decide) 260 0 tx4 (by decide)
  have f4 := fault_b G hGe 260 0 (by decide)
  have p5 := bad_c G t u h3 h4 _ (by decide) 260 0 tx5 (by decide)
  have f5 := fault_b G hGe 260 0 (by decide)
  have p6 := bad_c G t u h3 h4 _ (by decide) 260 10 tx6 (by decide)
  have f6 := fault_b G hGe 260 10 (by decide)
  have p7 := bad_c G t u h3 h4 _ (by decide) 70 0 tx7 (by decide)
  have f7 := fault_b G hGe 70 0 (by decide)
  have p8 := bad_c G t u h3 h4 _ (by decide) 71 13 tx8 (by decide)
  have f8 := fault_b G hGe 71 13 (by decide)
  have pw := parse_c G t u h3 h4 [117, 110, 109, 97, 114, 107, 32, 97, 32, 52, 50, 57, 52, 57, 54, 55, 50, 57, 53] (by decide)
  rw [txw] at pw
  simp only [parseV, parseB, parseN, cmdE, if_true] at pw
  have s1 := show_m G tp hp ⟨18, [], 0, 0, 0, [], 0⟩ rfl rZ rfl (.slice none 0 0) (.slice none 0 0) rfl rfl [⟨7, 5, 1⟩, ⟨8, 1, 0⟩] (by intro m hm; simp only [List.mem_cons, List.not_mem_nil, or_false] at hm; rcases hm with rfl | rfl <;> (unfold mkOK i64B; decide)) 2 64 0 true rfl (by decide) [] []
  rw [shm] at s1
  simp only [rZ, cmdE, rpE, mksE, mkE, List.cons_append, List.nil_append] at s1
  have s2 := show_na G t u tz tp v h3 h4 hv hG hp ⟨20, [], 0, 0, 0, [], 0⟩ rfl rZ rfl (.slice none 0 0) (.slice none 0 0) rfl rfl [] [] [[97], [98, 32, 99]] (by intro m hm; simp only [List.mem_cons, List.not_mem_nil, or_false] at hm; rcases hm with rfl | rfl <;> decide) 2 9 0 true rfl (by decide)
  rw [shn] at s2
  simp only [rZ, cmdE, rpE, strsE, List.map_cons, List.map_nil] at s2
  have s3 := show_nil G ⟨20, [], 0, 0, 0, [], 0⟩ rZ rfl (.slice none 0 0) (.slice none 0 0) (.slice none 0 0) rfl rfl rfl (.inr (.inr ⟨rfl, rfl⟩))
  simp only [rZ, cmdE, rpE, noneL] at s3
  have s4 := show_0 G t u tz tp v h3 h4 hv hG hp ⟨21, [], 0, 0, 0, [], 0⟩ rF (by refine ⟨by decide, by decide, by decide, by decide, by decide, by decide, by decide, ?_⟩; unfold stsOK i64B; decide) (.slice none 0 0) (.slice none 0 0) (.slice none 0 0) rfl rfl rfl (.inr (by decide)) [] [] []
  rw [shf] at s4
  simp only [rF, cmdE, rpE] at s4
  have zq := zneq
  have wq := weq
  refine ecalls_in 109 [.tmp 0] Tryz.func8 rfl rfl rfl (by kernel_rfl) (le_ble rfl) ?_
  repeat' (first | refine esem_seqK 1152921504608976895 ?_ | refine esem_block ?_ | (refine stp ?_; simp only [go_sem]) | (simp (disch := omega) only [wE]) | (refine spl (fun h => ?_) (fun h => ?_) <;> first | (exfalso; omega) | ((try simp only [opRun, opSkip, stepRun, pickZ]); (try simp only [go_sem, h]))) | (refine and_om ?_ ?_; focus omega))
  let B0 : List (Nat × EO) := [(2, .cells [.int .i64 4, .int .i64 11, .int .i64 7, .int .i64 5, .int .i64 0, .int .i64 0, .int .i64 10, .int .i64 0, .int .i64 13] 3 0 true 0), (1, .cells [.int .i64 260, .int .i64 260, .int .i64 260, .int .i64 260, .int .i64 260, .int .i64 260, .int .i64 260, .int .i64 70, .int .i64 71] 29 0 true 0), (0, .cells [.str [110, 101, 119, 32, 49, 50], .str [109, 97, 114, 107, 32, 97, 32, 55, 32, 51, 32, 50, 53, 54], .str [109, 97, 114, 107, 32, 97, 32, 52, 50, 57, 52, 57, 54, 55, 50, 57, 54, 32, 51, 32, 103, 111, 101, 115], .str [100, 111, 99, 115, 32, 97], .str [], .str [34, 110, 101, 119, 34, 32, 97], .str [105, 110, 115, 101, 114, 116, 32, 97, 32, 48], .str [78, 101, 119, 32, 97], .str [105, 110, 115, 101, 114, 116, 32, 97, 32, 48, 32, 34, 120]] 9 0 true 0)]
  refine esem_loopS (fun x : Nat => [(0, .bool false), (1, .slice (some ⟨0, 0⟩) 9 9), (2, .slice (some ⟨1, 0⟩) 9 9), (3, .slice (some ⟨2, 0⟩) 9 9), (4, .int .i64 x)]) (fun _ => B0) (fun _ => 3) (fun x => x ≤ 9) (fun x => 9 - x) (0 : Nat)
    (fun x hx => ⟨by simp [frBel, EV.bel, allBelow], by simp [B0, blBelow, EO.bel, EV.bel, allBelow], Nat.zero_le _⟩) (by decide) (by simp only [go_sem, weakL]; first | done | exact ⟨trivial, trivial, trivial, trivial, rfl, trivial⟩ | rfl) (by simp only [go_sem, lessL, B0]) ?_
  intro x hx
  simp only [B0]
  rcases (show x = 0 ∨ x = 1 ∨ x = 2 ∨ x = 3 ∨ x = 4 ∨ x = 5 ∨ x = 6 ∨ x = 7 ∨ x = 8 ∨ x = 9 by omega) with rfl | rfl | rfl | rfl | rfl | rfl | rfl | rfl | rfl | rfl
  · repeat' (first | refine esem_seqK 1152921504608976895 ?_ | refine esem_block ?_ | (refine stp ?_; simp only [go_sem]) | (refine Eff.at2 (p0 ) [] rfl (by first | (simp; done) | (simp; omega) | (simp [bC]; done) | omega) rfl ?_; (try simp only [go_sem])) | (refine Eff.at2 (f0 ) [3] rfl (by first | (simp; done) | (simp; omega) | (simp [bC]; done) | omega) rfl ?_; (try simp only [go_sem])) | (refine ⟨zq, ?_⟩; try simp only [go_sem]) | (simp (disch := omega) only [wE]) | (refine spl (fun h => ?_) (fun h => ?_) <;> first | (exfalso; omega) | ((try simp only [opRun, opSkip, stepRun, pickZ]); (try simp only [go_sem, h]))) | (refine and_om ?_ ?_; focus omega))
    (refine ⟨(1 : Nat), ?_, ?_, rfl, rfl, ?_, ?_⟩; rotate_left; (focus (first | omega | (simp only []; omega))); (focus (first | (simp only [go_sem, weakL]; done) | ((try simp only [go_sem, weakL]); ((repeat' apply And.intro) <;> (first | rfl | trivial | ((try simp only [EV.int.injEq, EV.str.injEq, EV.bool.injEq, EV.tuple.injEq, EV.slice.injEq, List.cons.injEq, true_and, and_true]); first | rfl | omega)))))); (focus (first | trivial | (simp only [go_sem, lessL]; done) | ((try simp only [go_sem, lessL]); ((repeat' apply And.intro) <;> (first | rfl | trivial | ((try simp only [EV.int.injEq, EV.str.injEq, EV.bool.injEq, EV.tuple.injEq, EV.slice.injEq, List.cons.injEq, true_and, and_true]); first | rfl | omega)))))); (try simp only []))
    decide
  · repeat' (first | refine esem_seqK 1152921504608976895 ?_ | refine esem_block ?_ | (refine stp ?_; simp only [go_sem]) | (refine Eff.at2 (p1 ) [] rfl (by first | (simp; done) | (simp; omega) | (simp [bC]; done) | omega) rfl ?_; (try simp only [go_sem])) | (refine Eff.at2 (f1 ) [3] rfl (by first | (simp; done) | (simp; omega) | (simp [bC]; done) | omega) rfl ?_; (try simp only [go_sem])) | (refine ⟨zq, ?_⟩; try simp only [go_sem]) | (simp (disch := omega) only [wE]) | (refine spl (fun h => ?_) (fun h => ?_) <;> first | (exfalso; omega) | ((try simp only [opRun, opSkip, stepRun, pickZ]); (try simp only [go_sem, h]))) | (refine and_om ?_ ?_; focus omega))
    (refine ⟨(2 : Nat), ?_, ?_, rfl, rfl, ?_, ?_⟩; rotate_left; (focus (first | omega | (simp only []; omega))); (focus (first | (simp only [go_sem, weakL]; done) | ((try simp only [go_sem, weakL]); ((repeat' apply And.intro) <;> (first | rfl | trivial | ((try simp only [EV.int.injEq, EV.str.injEq, EV.bool.injEq, EV.tuple.injEq, EV.slice.injEq, List.cons.injEq, true_and, and_true]); first | rfl | omega)))))); (focus (first | trivial | (simp only [go_sem, lessL]; done) | ((try simp only [go_sem, lessL]); ((repeat' apply And.intro) <;> (first | rfl | trivial | ((try simp only [EV.int.injEq, EV.str.injEq, EV.bool.injEq, EV.tuple.injEq, EV.slice.injEq, List.cons.injEq, true_and, and_true]); first | rfl | omega)))))); (try simp only []))
    decide
  · repeat' (first | refine esem_seqK 1152921504608976895 ?_ | refine esem_block ?_ | (refine stp ?_; simp only [go_sem]) | (refine Eff.at2 (p2 ) [] rfl (by first | (simp; done) | (simp; omega) | (simp [bC]; done) | omega) rfl ?_; (try simp only [go_sem])) | (refine Eff.at2 (f2 ) [3] rfl (by first | (simp; done) | (simp; omega) | (simp [bC]; done) | omega) rfl ?_; (try simp only [go_sem])) | (refine ⟨zq, ?_⟩; try simp only [go_sem]) | (simp (disch := omega) only [wE]) | (refine spl (fun h => ?_) (fun h => ?_) <;> first | (exfalso; omega) | ((try simp only [opRun, opSkip, stepRun, pickZ]); (try simp only [go_sem, h]))) | (refine and_om ?_ ?_; focus omega))
    (refine ⟨(3 : Nat), ?_, ?_, rfl, rfl, ?_, ?_⟩; rotate_left; (focus (first | omega | (simp only []; omega))); (focus (first | (simp only [go_sem, weakL]; done) | ((try simp only [go_sem, weakL]); ((repeat' apply And.intro) <;> (first | rfl | trivial | ((try simp only [EV.int.injEq, EV.str.injEq, EV.bool.injEq, EV.tuple.injEq, EV.slice.injEq, List.cons.injEq, true_and, and_true]); first | rfl | omega)))))); (focus (first | trivial | (simp only [go_sem, lessL]; done) | ((try simp only [go_sem, lessL]); ((repeat' apply And.intro) <;> (first | rfl | trivial | ((try simp only [EV.int.injEq, EV.str.injEq, EV.bool.injEq, EV.tuple.injEq, EV.slice.injEq, List.cons.injEq, true_and, and_true]); first | rfl | omega)))))); (try simp only []))
    decide
  · repeat' (first | refine esem_seqK 1152921504608976895 ?_ | refine esem_block ?_ | (refine stp ?_; simp only [go_sem]) | (refine Eff.at2 (p3 ) [] rfl (by first | (simp; done) | (simp; omega) | (simp [bC]; done) | omega) rfl ?_; (try simp only [go_sem])) | (refine Eff.at2 (f3 ) [3] rfl (by first | (simp; done) | (simp; omega) | (simp [bC]; done) | omega) rfl ?_; (try simp only [go_sem])) | (refine ⟨zq, ?_⟩; try simp only [go_sem]) | (simp (disch := omega) only [wE]) | (refine spl (fun h => ?_) (fun h => ?_) <;> first | (exfalso; omega) | ((try simp only [opRun, opSkip, stepRun, pickZ]); (try simp only [go_sem, h]))) | (refine and_om ?_ ?_; focus omega))
    (refine ⟨(4 : Nat), ?_, ?_, rfl, rfl, ?_, ?_⟩; rotate_left; (focus (first | omega | (simp only []; omega))); (focus (first | (simp only [go_sem, weakL]; done) | ((try simp only [go_sem, weakL]); ((repeat' apply And.intro) <;> (first | rfl | trivial | ((try simp only [EV.int.injEq, EV.str.injEq, EV.bool.injEq, EV.tuple.injEq, EV.slice.injEq, List.cons.injEq, true_and, and_true]); first | rfl | omega)))))); (focus (first | trivial | (simp only [go_sem, lessL]; done) | ((try simp only [go_sem, lessL]); ((repeat' apply And.intro) <;> (first | rfl | trivial | ((try simp only [EV.int.injEq, EV.str.injEq, EV.bool.injEq, EV.tuple.injEq, EV.slice.injEq, List.cons.injEq, true_and, and_true]); first | rfl | omega)))))); (try simp only []))
    decide
  · repeat' (first | refine esem_seqK 1152921504608976895 ?_ | refine esem_block ?_ | (refine stp ?_; simp only [go_sem]) | (refine Eff.at2 (p4 ) [] rfl (by first | (simp; done) | (simp; omega) | (simp [bC]; done) | omega) rfl ?_; (try simp only [go_sem])) | (refine Eff.at2 (f4 ) [3] rfl (by first | (simp; done) | (simp; omega) | (simp [bC]; done) | omega) rfl ?_; (try simp only [go_sem])) | (refine ⟨zq, ?_⟩; try simp only [go_sem]) | (simp (disch := omega) only [wE]) | (refine spl (fun h => ?_) (fun h => ?_) <;> first | (exfalso; omega) | ((try simp only [opRun, opSkip, stepRun, pickZ]); (try simp only [go_sem, h]))) | (refine and_om ?_ ?_; focus omega))
    (refine ⟨(5 : Nat), ?_, ?_, rfl, rfl, ?_, ?_⟩; rotate_left; (focus (first | omega | (simp only []; omega))); (focus (first | (simp only [go_sem, weakL]; done) | ((try simp only [go_sem, weakL]); ((repeat' apply And.intro) <;> (first | rfl | trivial | ((try simp only [EV.int.injEq, EV.str.injEq, EV.bool.injEq, EV.tuple.injEq, EV.slice.injEq, List.cons.injEq, true_and, and_true]); first | rfl | omega)))))); (focus (first | trivial | (simp only [go_sem, lessL]; done) | ((try simp only [go_sem, lessL]); ((repeat' apply And.intro) <;> (first | rfl | trivial | ((try simp only [EV.int.injEq, EV.str.injEq, EV.bool.injEq, EV.tuple.injEq, EV.slice.injEq, List.cons.injEq, true_and, and_true]); first | rfl | omega)))))); (try simp only []))
    decide
  · repeat' (first | refine esem_seqK 1152921504608976895 ?_ | refine esem_block ?_ | (refine stp ?_; simp only [go_sem]) | (refine Eff.at2 (p5 ) [] rfl (by first | (simp; done) | (simp; omega) | (simp [bC]; done) | omega) rfl ?_; (try simp only [go_sem])) | (refine Eff.at2 (f5 ) [3] rfl (by first | (simp; done) | (simp; omega) | (simp [bC]; done) | omega) rfl ?_; (try simp only [go_sem])) | (refine ⟨zq, ?_⟩; try simp only [go_sem]) | (simp (disch := omega) only [wE]) | (refine spl (fun h => ?_) (fun h => ?_) <;> first | (exfalso; omega) | ((try simp only [opRun, opSkip, stepRun, pickZ]); (try simp only [go_sem, h]))) | (refine and_om ?_ ?_; focus omega))
    (refine ⟨(6 : Nat), ?_, ?_, rfl, rfl, ?_, ?_⟩; rotate_left; (focus (first | omega | (simp only []; omega))); (focus (first | (simp only [go_sem, weakL]; done) | ((try simp only [go_sem, weakL]); ((repeat' apply And.intro) <;> (first | rfl | trivial | ((try simp only [EV.int.injEq, EV.str.injEq, EV.bool.injEq, EV.tuple.injEq, EV.slice.injEq, List.cons.injEq, true_and, and_true]); first | rfl | omega)))))); (focus (first | trivial | (simp only [go_sem, lessL]; done) | ((try simp only [go_sem, lessL]); ((repeat' apply And.intro) <;> (first | rfl | trivial | ((try simp only [EV.int.injEq, EV.str.injEq, EV.bool.injEq, EV.tuple.injEq, EV.slice.injEq, List.cons.injEq, true_and, and_true]); first | rfl | omega)))))); (try simp only []))
    decide
  · repeat' (first | refine esem_seqK 1152921504608976895 ?_ | refine esem_block ?_ | (refine stp ?_; simp only [go_sem]) | (refine Eff.at2 (p6 ) [] rfl (by first | (simp; done) | (simp; omega) | (simp [bC]; done) | omega) rfl ?_; (try simp only [go_sem])) | (refine Eff.at2 (f6 ) [3] rfl (by first | (simp; done) | (simp; omega) | (simp [bC]; done) | omega) rfl ?_; (try simp only [go_sem])) | (refine ⟨zq, ?_⟩; try simp only [go_sem]) | (simp (disch := omega) only [wE]) | (refine spl (fun h => ?_) (fun h => ?_) <;> first | (exfalso; omega) | ((try simp only [opRun, opSkip, stepRun, pickZ]); (try simp only [go_sem, h]))) | (refine and_om ?_ ?_; focus omega))
    (refine ⟨(7 : Nat), ?_, ?_, rfl, rfl, ?_, ?_⟩; rotate_left; (focus (first | omega | (simp only []; omega))); (focus (first | (simp only [go_sem, weakL]; done) | ((try simp only [go_sem, weakL]); ((repeat' apply And.intro) <;> (first | rfl | trivial | ((try simp only [EV.int.injEq, EV.str.injEq, EV.bool.injEq, EV.tuple.injEq, EV.slice.injEq, List.cons.injEq, true_and, and_true]); first | rfl | omega)))))); (focus (first | trivial | (simp only [go_sem, lessL]; done) | ((try simp only [go_sem, lessL]); ((repeat' apply And.intro) <;> (first | rfl | trivial | ((try simp only [EV.int.injEq, EV.str.injEq, EV.bool.injEq, EV.tuple.injEq, EV.slice.injEq, List.cons.injEq, true_and, and_true]); first | rfl | omega)))))); (try simp only []))
    decide
  · repeat' (first | refine esem_seqK 1152921504608976895 ?_ | refine esem_block ?_ | (refine stp ?_; simp only [go_sem]) | (refine Eff.at2 (p7 ) [] rfl (by first | (simp; done) | (simp; omega) | (simp [bC]; done) | omega) rfl ?_; (try simp only [go_sem])) | (refine Eff.at2 (f7 ) [3] rfl (by first | (simp; done) | (simp; omega) | (simp [bC]; done) | omega) rfl ?_; (try simp only [go_sem])) | (refine ⟨zq, ?_⟩; try simp only [go_sem]) | (simp (disch := omega) only [wE]) | (refine spl (fun h => ?_) (fun h => ?_) <;> first | (exfalso; omega) | ((try simp only [opRun, opSkip, stepRun, pickZ]); (try simp only [go_sem, h]))) | (refine and_om ?_ ?_; focus omega))
    (refine ⟨(8 : Nat), ?_, ?_, rfl, rfl, ?_, ?_⟩; rotate_left; (focus (first | omega | (simp only []; omega))); (focus (first | (simp only [go_sem, weakL]; done) | ((try simp only [go_sem, weakL]); ((repeat' apply And.intro) <;> (first | rfl | trivial | ((try simp only [EV.int.injEq, EV.str.injEq, EV.bool.injEq, EV.tuple.injEq, EV.slice.injEq, List.cons.injEq, true_and, and_true]); first | rfl | omega)))))); (focus (first | trivial | (simp only [go_sem, lessL]; done) | ((try simp only [go_sem, lessL]); ((repeat' apply And.intro) <;> (first | rfl | trivial | ((try simp only [EV.int.injEq, EV.str.injEq, EV.bool.injEq, EV.tuple.injEq, EV.slice.injEq, List.cons.injEq, true_and, and_true]); first | rfl | omega)))))); (try simp only []))
    decide
  · repeat' (first | refine esem_seqK 1152921504608976895 ?_ | refine esem_block ?_ | (refine stp ?_; simp only [go_sem]) | (refine Eff.at2 (p8 ) [] rfl (by first | (simp; done) | (simp; omega) | (simp [bC]; done) | omega) rfl ?_; (try simp only [go_sem])) | (refine Eff.at2 (f8 ) [3] rfl (by first | (simp; done) | (simp; omega) | (simp [bC]; done) | omega) rfl ?_; (try simp only [go_sem])) | (refine ⟨zq, ?_⟩; try simp only [go_sem]) | (simp (disch := omega) only [wE]) | (refine spl (fun h => ?_) (fun h => ?_) <;> first | (exfalso; omega) | ((try simp only [opRun, opSkip, stepRun, pickZ]); (try simp only [go_sem, h]))) | (refine and_om ?_ ?_; focus omega))
    (refine ⟨(9 : Nat), ?_, ?_, rfl, rfl, ?_, ?_⟩; rotate_left; (focus (first | omega | (simp only []; omega))); (focus (first | (simp only [go_sem, weakL]; done) | ((try simp only [go_sem, weakL]); ((repeat' apply And.intro) <;> (first | rfl | trivial | ((try simp only [EV.int.injEq, EV.str.injEq, EV.bool.injEq, EV.tuple.injEq, EV.slice.injEq, List.cons.injEq, true_and, and_true]); first | rfl | omega)))))); (focus (first | trivial | (simp only [go_sem, lessL]; done) | ((try simp only [go_sem, lessL]); ((repeat' apply And.intro) <;> (first | rfl | trivial | ((try simp only [EV.int.injEq, EV.str.injEq, EV.bool.injEq, EV.tuple.injEq, EV.slice.injEq, List.cons.injEq, true_and, and_true]); first | rfl | omega)))))); (try simp only []))
    decide
  · repeat' (first | refine esem_seqK 1152921504608976895 ?_ | refine esem_block ?_ | (refine stp ?_; simp only [go_sem]) | (refine Eff.at2 (s1 ) [3, 0, 1] rfl (by first | (simp; done) | (simp; omega) | (simp [bC]; done) | omega) rfl ?_; (try simp only [go_sem])) | (refine Eff.at2 (s2 ) [0, 1, 4] rfl (by first | (simp; done) | (simp; omega) | (simp [bC]; done) | omega) rfl ?_; (try simp only [go_sem])) | (refine Eff.at2 (s3 ) [0, 1, 2] rfl (by first | (simp; done) | (simp; omega) | (simp [bC]; done) | omega) rfl ?_; (try simp only [go_sem])) | (refine Eff.at2 (pw ) [] rfl (by first | (simp; done) | (simp; omega) | (simp [bC]; done) | omega) rfl ?_; (try simp only [go_sem])) | (refine Eff.at2 (s4 ) [0, 1, 2] rfl (by first | (simp; done) | (simp; omega) | (simp [bC]; done) | omega) rfl ?_; (try simp only [go_sem])) | (refine Pure.at (aw) (by simp) (by simp) rfl ?_; (try simp only [go_sem])) | (refine ⟨wq, ?_⟩; try simp only [go_sem]) | (simp (disch := omega) only [wE]) | (refine spl (fun h => ?_) (fun h => ?_) <;> first | (exfalso; omega) | ((try simp only [opRun, opSkip, stepRun, pickZ]); (try simp only [go_sem, h]))) | (refine and_om ?_ ?_; focus omega))
    all_goals first | ((refine done_zero (by simp [EV.bel, allBelow]) ?_; rw [hV]); done) | skip
theorem commandNames_calls   (w : World) (hL : laidMetH Tryz.prog laidL w) : Calls Tryz.prog 8 #[] w fun e w' => e = .returned (.bool true) ∧ Below w.heap.size w w' := by
  obtain ⟨te, t, u, tz, tp, hg⟩ := glob_of_laid hL
  refine ((commandNames_law [gErr te, gFirst t, gAcc u, gTz tzV tz, gPow tp] te t u tz tp tzV (by simp) (by simp) (by simp) tz15 (by simp) (by simp)  ).toCalls Tryz.func8 rfl (by kernel_rfl) VRs.nil w hg).mono ?_
  rintro e w' ⟨x, s', ρ', hr, hb, rfl, rfl⟩
  obtain ⟨v', rfl, hv⟩ := hr
  rw [VR] at hv
  exact ⟨by rw [hv], hb⟩
set_option maxRecDepth 100000 in
theorem commandNames_lifted (os : Os) (started : os.Started) (H : Type) (enc : TypeId × Value → H) :
    ReturnsInHanded {} Tryz.checked os 8 .any (fun w args => (Rows.commandNamesSpec.pre enc Tryz.prog Tryz.f8 [] false w args ∧ laidMetH Tryz.prog laidL w) ∧ sizedMet enc Tryz.prog Tryz.f8 (OpenSpec.ofChange Rows.commandNamesSpec) false w args)
      (Rows.commandNamesSpec.post enc Tryz.prog Tryz.f8 false true false false) := by
  refine returnsInHanded_of_change_and (C := Tryz.checked) (X := fun w _ => laidMetH Tryz.prog laidL w) (fun _ _ _ hh h => h.of_heap hh) own started (by kernel_rfl) Tryz.func8
    (ChangeSpec.witness_shaped (enc := enc) (C := Tryz.checked) (os := os) (X := fun w _ => laidMetH Tryz.prog laidL w) false (witW os) #[] 8 (witW_os os)
      (World.shaped_of_ZipB (by kernel_rfl) (by kernel_rfl)) (by kernel_rfl) (by kernel_rfl) (by kernel_rfl) (witW_met os _)) ?_
  intro W base args ds gs before hval0 hW _ _ hL _
  have hval : ∀ (j : Nat) t v, Tryz.f8.params[j]? = some t → args[j]? = some v → Value.okWide Tryz.prog W .any base t v := hval0
  have hW' := hW
  obtain ⟨p, q, hA0, hV, rfl, hfz, hnd⟩ := hW
  have hA : DataW.TrodAll enc Tryz.prog W 0 (fun _ => true) true Tryz.f8.params.toList args.toList ds p := hA0
  rw [Tryz.params8] at hA hval
  have hstay := hA
  obtain ⟨hargs, rfl, rfl⟩ := trodAll_nil hA
  obtain rfl : args = #[] := by cases args; simp_all
  obtain ⟨rfl, rfl⟩ := trodVars_none hV
  refine (commandNames_calls   W hL).mono fun e W' ⟨he, bel⟩ => ?_
  subst he
  exact ⟨_, rfl, _, _, _, [], _, [], hW', trodAll_mk1 (shut_bool Tryz.underlying4 _), args_stay laidOut bel hstay (by intro t ht; simp at ht), rfl, bel.frame _, fun h => by cases h⟩
theorem commandNames_over : Rows.commandNamesRow.holds Tryz.pinned (OpenSpec.ofChange Rows.commandNamesSpec) :=
  OpenClaim.holds_of_wide 8 Tryz.f8 rfl rfl rfl rfl rfl rfl rfl ⟨rfl, rfl, rfl, rfl, rfl⟩ rfl rfl rfl rfl rfl (by kernel_rfl) Tryz.func8 (by kernel_rfl)
    (of_decide_eq_true (by kernel_rfl)) (by unfold Func.isWrapper; first | (rw [if_pos (by decide +kernel)]; kernel_rfl) | (rw [if_neg (by decide +kernel)]; exact ⟨rfl, rfl⟩))
    (fun os started H enc _ => commandNames_lifted os started H enc)
theorem commandNames_card : Rows.CommandNamesCardSaid :=
  Claim7.holds_tied_plain_at .later [] [.data, .data, .data, .data, .handle, .pinned] true (true, "8a79f1cbe4cbe0b827adf0f6cc364f8cc62241dfff2f37c340b2934bee1663d3") true commandNames_over (fun _ h => by cases h) (by kernel_rfl) (fun _ h => by cases h) commandNames_row_tie rfl ⟨rfl, rfl⟩ (by kernel_rfl) rfl
    (fun f fn hf hfn => by
      obtain rfl : f = 8 := Option.some.inj ((show Tryz.prog.funcNamed "vellum/vellumlaw26.CommandNames" = some 8 by kernel_rfl).symm.trans hf) |>.symm
      obtain rfl : fn = Tryz.f8 := (Option.some.inj (Tryz.func8.symm.trans hfn)).symm
      exact ⟨by kernel_rfl, fun j t ht => by
        rw [Tryz.params8] at ht
        have hm : t ∈ [] := by simpa using Array.mem_of_getElem? ht
        have hall : ([].all fun u => !Tryz.prog.wantsStandIn u) = true := by kernel_rfl
        exact (show Tryz.prog.wantsStandIn t = false by simpa using List.all_eq_true.1 hall t hm)⟩)
    (by kernel_rfl)
end Go.Proofs.YtnjbdcdjcfhooaaGreatDoor
