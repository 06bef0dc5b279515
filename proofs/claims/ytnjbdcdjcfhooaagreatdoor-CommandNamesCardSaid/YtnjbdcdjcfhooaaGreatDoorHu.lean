/-
  Own work: walks and laws of the functions that the statement reaches; the statement itself stands in the last text.
-/
import Derived.Test.YtnjbdcdjcfhooaaGreatDoorHt
namespace Go.Proofs.YtnjbdcdjcfhooaaGreatDoor
open Go.E Go.ChangeShapes Go.WideShapes Go.ChangeAt Go.RowKit
set_option linter.all false
set_option maxRecDepth 20000
set_option maxHeartbeats 8000000
def namesS (s : List UInt8) : List UInt8 := if wordB s then s else quoteL s
structure Sts where
  docs : Int
  bytes : Int
  marks : Int
  curs : Int
  chg : Int
  pay : Int
  names : Int
  chars : Int
  lines : Int
abbrev stsE (s : Sts) : List EV := [.int .i64 s.docs, .int .i64 s.bytes, .int .i64 s.marks, .int .i64 s.curs, .int .i64 s.chg, .int .i64 s.pay, .int .i64 s.names, .int .i64 s.chars, .int .i64 s.lines]
def stsOK (s : Sts) : Prop := i64B s.docs ∧ i64B s.bytes ∧ i64B s.marks ∧ i64B s.curs ∧ i64B s.chg ∧ i64B s.pay ∧ i64B s.names ∧ i64B s.chars ∧ i64B s.lines
def stsP (s : Sts) : List (List UInt8) := [[100, 111, 99, 115] ++ ([32] ++ Lib.itoa s.docs), [98, 121, 116, 101, 115] ++ ([32] ++ Lib.itoa s.bytes), [99, 104, 97, 114, 115] ++ ([32] ++ Lib.itoa s.chars), [108, 105, 110, 101, 115] ++ ([32] ++ Lib.itoa s.lines), [109, 97, 114, 107, 115] ++ ([32] ++ Lib.itoa s.marks), [99, 117, 114, 115, 111, 114, 115] ++ ([32] ++ Lib.itoa s.curs), [99, 104, 97, 110, 103, 101, 115] ++ ([32] ++ Lib.itoa s.chg), [112, 97, 121, 108, 111, 97, 100] ++ ([32] ++ Lib.itoa s.pay), [110, 97, 109, 101, 115] ++ ([32] ++ Lib.itoa s.names)]
def statL (s : Sts) : List UInt8 := Lib.join (stsP s) [32]
end Go.Proofs.YtnjbdcdjcfhooaaGreatDoor
namespace Go.Proofs.YtnjbdcdjcfhooaaGreatDoor
open Go.E Go.ChangeShapes Go.WideShapes Go.ChangeAt Go.RowKit
set_option linter.all false
set_option maxRecDepth 20000
set_option maxHeartbeats 8000000
theorem stats_c (G : List Gl) (tp : TypeId) (hp : gPow tp ∈ G) (s : Sts) (hs : stsOK s) : E.Pure G Tryz.prog 39 [.agg (stsE s)] (.str (statL s)) := by
  refine pure_hid fun V hV => ?_
  obtain ⟨d0, d1, d2, d3, d4, d5, d6, d7, d8⟩ := s
  obtain ⟨h0, h1, h2, h3, h4, h5, h6, h7, h8⟩ := hs
  simp only [statL] at hV
  simp only at h0 h1 h2 h3 h4 h5 h6 h7 h8
  have i0 := decimal_c G tp hp d0 h0.1 h0.2
  have i1 := decimal_c G tp hp d1 h1.1 h1.2
  have i2 := decimal_c G tp hp d2 h2.1 h2.2
  have i3 := decimal_c G tp hp d3 h3.1 h3.2
  have i4 := decimal_c G tp hp d4 h4.1 h4.2
  have i5 := decimal_c G tp hp d5 h5.1 h5.2
  have i6 := decimal_c G tp hp d6 h6.1 h6.2
  have i7 := decimal_c G tp hp d7 h7.1 h7.2
  have i8 := decimal_c G tp hp d8 h8.1 h8.2
  have l0 := itoa_lenI d0 h0
  have l1 := itoa_lenI d1 h1
  have l2 := itoa_lenI d2 h2
  have l3 := itoa_lenI d3 h3
  have l4 := itoa_lenI d4 h4
  have l5 := itoa_lenI d5 h5
  have l6 := itoa_lenI d6 h6
  have l7 := itoa_lenI d7 h7
  have l8 := itoa_lenI d8 h8
  have hl := join_len 40 (stsP ⟨d0, d1, d2, d3, d4, d5, d6, d7, d8⟩) (by
    intro p hp
    simp only [stsP, List.mem_cons, List.not_mem_nil, or_false] at hp
    rcases hp with rfl | rfl | rfl | rfl | rfl | rfl | rfl | rfl | rfl <;> simp only [List.length_append, List.length_cons, List.length_nil] <;> omega)
  have hj := join_c G (stsP ⟨d0, d1, d2, d3, d4, d5, d6, d7, d8⟩) 9 0 rfl (by decide) (by decide) [32] (by simp only [stsP, List.length_cons, List.length_nil] at hl ⊢; omega)
  generalize hJ : Lib.join (stsP ⟨d0, d1, d2, d3, d4, d5, d6, d7, d8⟩) [32] = J at hj hV
  clear h0 h1 h2 h3 h4 h5 h6 h7 h8 hl hJ
  simp only [stsP, List.map_cons, List.map_nil, List.cons_append, List.nil_append] at hj
  generalize Lib.itoa d0 = A0 at i0 l0 hj
  generalize Lib.itoa d1 = A1 at i1 l1 hj
  generalize Lib.itoa d2 = A2 at i2 l2 hj
  generalize Lib.itoa d3 = A3 at i3 l3 hj
  generalize Lib.itoa d4 = A4 at i4 l4 hj
  generalize Lib.itoa d5 = A5 at i5 l5 hj
  generalize Lib.itoa d6 = A6 at i6 l6 hj
  generalize Lib.itoa d7 = A7 at i7 l7 hj
  generalize Lib.itoa d8 = A8 at i8 l8 hj
  refine ecalls_in 46 [.tmp 2] Tryz.func39 rfl rfl rfl (by kernel_rfl) (le_ble rfl) ?_
  repeat' (first | refine esem_seqK 939524159 ?_ | refine esem_block ?_ | (refine stp ?_; simp only [go_sem, List.cons_append, List.nil_append]) | (refine drawQ (id := 6) mixed [(0, []), (1, []), (2, []), (4, []), (5, []), (6, []), (3, []), (7, []), (8, [3]), (9, []), (10, []), (11, []), (12, [])] (by kernel_rfl) ?_; simp only [go_sem, List.cons_append, List.nil_append]) | (refine Pure.at (i0) (by simp) (by simp) rfl ?_; (try simp only [go_sem, List.cons_append, List.nil_append])) | (refine Pure.at (i1) (by simp) (by simp) rfl ?_; (try simp only [go_sem, List.cons_append, List.nil_append])) | (refine Pure.at (i2) (by simp) (by simp) rfl ?_; (try simp only [go_sem, List.cons_append, List.nil_append])) | (refine Pure.at (i3) (by simp) (by simp) rfl ?_; (try simp only [go_sem, List.cons_append, List.nil_append])) | (refine Pure.at (i4) (by simp) (by simp) rfl ?_; (try simp only [go_sem, List.cons_append, List.nil_append])) | (refine Pure.at (i5) (by simp) (by simp) rfl ?_; (try simp only [go_sem, List.cons_append, List.nil_append])) | (refine Pure.at (i6) (by simp) (by simp) rfl ?_; (try simp only [go_sem, List.cons_append, List.nil_append])) | (refine Pure.at (i7) (by simp) (by simp) rfl ?_; (try simp only [go_sem, List.cons_append, List.nil_append])) | (refine Pure.at (i8) (by simp) (by simp) rfl ?_; (try simp only [go_sem, List.cons_append, List.nil_append])) | (refine and_om ?_ ?_; focus (simp only [List.length_append, List.length_cons, List.length_nil]; omega)) | (refine Eff.at2 (hj ) [1] rfl (by first | (simp; done) | (simp; omega) | (simp [bC]; done) | omega) rfl ?_; (try simp only [go_sem, List.cons_append, List.nil_append])) | (refine esem_loopN 939524159 10 ?_; simp only [go_sem, List.cons_append, List.nil_append]) | (simp (disch := omega) only [wE]) | (refine spl (fun h => ?_) (fun h => ?_) <;> first | (exfalso; omega) | ((try simp only [opRun, opSkip, stepRun, pickZ]); (try simp only [go_sem, List.cons_append, List.nil_append, h]))) | (refine and_om ?_ ?_; focus omega))
  all_goals (refine done_zero (by simp [EV.bel, allBelow]) ?_; rw [hV])
end Go.Proofs.YtnjbdcdjcfhooaaGreatDoor
