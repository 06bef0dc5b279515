/-
  Own work: walks and laws of the functions that the statement reaches; the statement itself stands in the last text.
-/
import Derived.Test.YtnjbdcdjcfhooaaGreatDoorHl
namespace Go.Proofs.YtnjbdcdjcfhooaaGreatDoor
open Go.E
set_option linter.all false
set_option maxRecDepth 20000
set_option maxHeartbeats 16000000
def argE (c : Cmd) (a : UInt8) : List EV :=
  if a.toNat = 100 then tkE (nameT c.doc) else if a.toNat = 120 then tkE (nameT c.text) else if a.toNat = 113 then quE c.text else if a.toNat = 105 then nuE c.id else
  if a.toNat = 102 then nuE c.frm else if a.toNat = 116 then nuE c.to else if a.toNat = 103 then shE gravL c.grav else shE motL c.frm
def tokensE (c : Cmd) : List EV := woE (wordOf c.kind.toNat) ++ (argL c).flatMap (argE c)
theorem shE_form (ws : List (List UInt8)) (n : Int) : ∃ a s b, shE ws n = [.int .i64 a, .int .i64 0, .str s, .int .i64 b] := by
  unfold shE
  split
  · exact ⟨_, _, _, rfl⟩
  · exact ⟨_, _, _, rfl⟩
@[simp] theorem argE_bel (k : Nat) (c : Cmd) (a : UInt8) : allBelow k (argE c a) := by
  unfold argE shE
  repeat' split
  all_goals exact ⟨trivial, trivial, trivial, trivial, trivial⟩
theorem argE_ren (π : Nat → Nat) (c : Cmd) (a : UInt8) : renL π (argE c a) = argE c a := by
  unfold argE shE
  repeat' split
  all_goals rfl
@[simp] theorem tokensE_bel (k : Nat) (c : Cmd) : allBelow k (tokensE c) := by
  unfold tokensE
  have : ∀ l : List UInt8, allBelow k (l.flatMap (argE c)) := by
    intro l
    induction l with
    | nil => trivial
    | cons a r ih => rw [List.flatMap_cons]; exact (allBelow_append ..).2 ⟨argE_bel k c a, ih⟩
  exact (allBelow_append ..).2 ⟨⟨trivial, trivial, trivial, trivial, trivial⟩, this _⟩
@[simp] theorem tokensE_ren (π : Nat → Nat) (c : Cmd) : renL π (tokensE c) = tokensE c := by
  unfold tokensE
  have : ∀ l : List UInt8, renL π (l.flatMap (argE c)) = l.flatMap (argE c) := by
    intro l
    induction l with
    | nil => rfl
    | cons a r ih => rw [List.flatMap_cons, renL_append, argE_ren, ih]
  rw [renL_append, this]
  rfl
attribute [go_sem] tokensE_ren
theorem name_form (s : List UInt8) : ∃ k, nameT s = ⟨k, 0, s, 0⟩ := ⟨_, rfl⟩
theorem argL_of {c : Cmd} (h : ¬ (c.kind = 22 ∧ c.doc = [])) : argL c = argsOf c.kind.toNat := if_neg h
theorem asks_14 (G : List Gl) (t u tz tp : TypeId) (v : List Value) (h3 : gFirst t ∈ G) (h4 : gAcc u ∈ G) (hv : v[15]? = some (.int .u8 4)) (hG : gTz v tz ∈ G) (hp : gPow tp ∈ G) (c : Cmd) (hd : c.doc.length ≤ 1000000000000) (hx : c.text.length ≤ 1000000000000) (hi : 0 ≤ c.id ∧ c.id ≤ 4294967295) (hg : 0 ≤ c.grav ∧ c.grav ≤ 255) (hk : c.kind = 14) : Eff G Tryz.prog 83 [.agg (cmdE c)] [] 0 (.tuple [.slice (some ⟨0, 0⟩) ((argL c).length + 1) ((argL c).length + 1), .bool true]) [(0, .cells (tokensE c) 72 0 true 0)] 1 := by
  obtain ⟨kd, dc, id, fr, to, tx, gr⟩ := c
  simp only at hk hd hx hi hg
  subst hk
  have hnm := name_c G t u tz tp v h3 h4 hv hG hp dc hd
  obtain ⟨kn, hkn⟩ := name_form dc
  rw [hkn] at hnm
  simp only [tkE] at hnm
  have eA : argL ⟨14, dc, id, fr, to, tx, gr⟩ = [100, 102, 116] := argL_of (by simp)
  have eT : tokensE ⟨14, dc, id, fr, to, tx, gr⟩ = woE [114, 101, 97, 100] ++ (tkE ⟨kn, 0, dc, 0⟩ ++ (nuE fr ++ (nuE to ++ ([])))) := by
    unfold tokensE
    rw [eA, ← hkn]
    rfl
  rw [eA, eT]
  simp only [tkE, List.cons_append, List.nil_append, List.append_nil, List.length_cons, List.length_nil, Nat.zero_add]
  unfold Eff
  refine ecalls_in 76 [.tmp 2, .tmp 3] Tryz.func83 rfl rfl rfl (by kernel_rfl) (le_ble rfl) ?_
  repeat' (first | refine esem_seqK 1254532009740477005951 ?_ | refine esem_block ?_ | (refine stp ?_; simp only [go_sem]) | (refine drawQ (id := 1) mixed [(0, []), (3, []), (6, []), (1, []), (4, []), (7, []), (2, [4, 7]), (5, [7]), (8, []), (9, []), (10, []), (11, []), (12, []), (13, []), (14, [])] (by kernel_rfl) ?_; simp only [go_sem]) | (refine drawQ (id := 4) mixed [(1, []), (2, []), (3, []), (0, [1, 2, 3]), (4, []), (5, []), (6, [])] (by kernel_rfl) ?_; simp only [go_sem]) | (refine Pure.at (hnm) (by simp) (by simp) rfl ?_; (try simp only [go_sem])) | (refine Pure.at (number_t _ _) (by simp) (by simp) rfl ?_; (try simp only [go_sem])) | (refine Pure.at (word_t _ _) (by simp) (by simp) rfl ?_; (try simp only [go_sem])) | (refine Pure.at (quoted_t _ _) (by simp) (by simp) rfl ?_; (try simp only [go_sem])) | (simp (disch := omega) only [wE]) | (refine spl (fun h => ?_) (fun h => ?_) <;> first | (exfalso; omega) | ((try simp only [opRun, opSkip, stepRun, pickZ]); (try simp only [go_sem, h]))) | (refine and_om ?_ ?_; focus omega))
  all_goals exact done_ef2 [20] (by simp) rfl (by simp [mA]) (by simp [bC])
theorem asks_15 (G : List Gl) (t u tz tp : TypeId) (v : List Value) (h3 : gFirst t ∈ G) (h4 : gAcc u ∈ G) (hv : v[15]? = some (.int .u8 4)) (hG : gTz v tz ∈ G) (hp : gPow tp ∈ G) (c : Cmd) (hd : c.doc.length ≤ 1000000000000) (hx : c.text.length ≤ 1000000000000) (hi : 0 ≤ c.id ∧ c.id ≤ 4294967295) (hg : 0 ≤ c.grav ∧ c.grav ≤ 255) (hk : c.kind = 15) : Eff G Tryz.prog 83 [.agg (cmdE c)] [] 0 (.tuple [.slice (some ⟨0, 0⟩) ((argL c).length + 1) ((argL c).length + 1), .bool true]) [(0, .cells (tokensE c) 72 0 true 0)] 1 := by
  obtain ⟨kd, dc, id, fr, to, tx, gr⟩ := c
  simp only at hk hd hx hi hg
  subst hk
  have hnm := name_c G t u tz tp v h3 h4 hv hG hp dc hd
  obtain ⟨kn, hkn⟩ := name_form dc
  rw [hkn] at hnm
  simp only [tkE] at hnm
  have eA : argL ⟨15, dc, id, fr, to, tx, gr⟩ = [100] := argL_of (by simp)
  have eT : tokensE ⟨15, dc, id, fr, to, tx, gr⟩ = woE [108, 101, 110, 103, 116, 104] ++ (tkE ⟨kn, 0, dc, 0⟩ ++ ([])) := by
    unfold tokensE
    rw [eA, ← hkn]
    rfl
  rw [eA, eT]
  simp only [tkE, List.cons_append, List.nil_append, List.append_nil, List.length_cons, List.length_nil, Nat.zero_add]
  unfold Eff
  refine ecalls_in 76 [.tmp 2, .tmp 3] Tryz.func83 rfl rfl rfl (by kernel_rfl) (le_ble rfl) ?_
  repeat' (first | refine esem_seqK 1254532009740477005951 ?_ | refine esem_block ?_ | (refine stp ?_; simp only [go_sem]) | (refine drawQ (id := 1) mixed [(0, []), (3, []), (6, []), (1, []), (4, []), (7, []), (2, [4, 7]), (5, [7]), (8, []), (9, []), (10, []), (11, []), (12, []), (13, []), (14, [])] (by kernel_rfl) ?_; simp only [go_sem]) | (refine drawQ (id := 6) mixed [(1, []), (0, [1]), (2, []), (3, []), (4, [])] (by kernel_rfl) ?_; simp only [go_sem]) | (refine Pure.at (hnm) (by simp) (by simp) rfl ?_; (try simp only [go_sem])) | (refine Pure.at (number_t _ _) (by simp) (by simp) rfl ?_; (try simp only [go_sem])) | (refine Pure.at (word_t _ _) (by simp) (by simp) rfl ?_; (try simp only [go_sem])) | (refine Pure.at (quoted_t _ _) (by simp) (by simp) rfl ?_; (try simp only [go_sem])) | (simp (disch := omega) only [wE]) | (refine spl (fun h => ?_) (fun h => ?_) <;> first | (exfalso; omega) | ((try simp only [opRun, opSkip, stepRun, pickZ]); (try simp only [go_sem, h]))) | (refine and_om ?_ ?_; focus omega))
  all_goals exact done_ef2 [18] (by simp) rfl (by simp [mA]) (by simp [bC])
theorem asks_16 (G : List Gl) (t u tz tp : TypeId) (v : List Value) (h3 : gFirst t ∈ G) (h4 : gAcc u ∈ G) (hv : v[15]? = some (.int .u8 4)) (hG : gTz v tz ∈ G) (hp : gPow tp ∈ G) (c : Cmd) (hd : c.doc.length ≤ 1000000000000) (hx : c.text.length ≤ 1000000000000) (hi : 0 ≤ c.id ∧ c.id ≤ 4294967295) (hg : 0 ≤ c.grav ∧ c.grav ≤ 255) (hk : c.kind = 16) : Eff G Tryz.prog 83 [.agg (cmdE c)] [] 0 (.tuple [.slice (some ⟨0, 0⟩) ((argL c).length + 1) ((argL c).length + 1), .bool true]) [(0, .cells (tokensE c) 72 0 true 0)] 1 := by
  obtain ⟨kd, dc, id, fr, to, tx, gr⟩ := c
  simp only at hk hd hx hi hg
  subst hk
  have hnm := name_c G t u tz tp v h3 h4 hv hG hp dc hd
  obtain ⟨kn, hkn⟩ := name_form dc
  rw [hkn] at hnm
  simp only [tkE] at hnm
  have eA : argL ⟨16, dc, id, fr, to, tx, gr⟩ = [100, 102] := argL_of (by simp)
  have eT : tokensE ⟨16, dc, id, fr, to, tx, gr⟩ = woE [119, 104, 101, 114, 101] ++ (tkE ⟨kn, 0, dc, 0⟩ ++ (nuE fr ++ ([]))) := by
    unfold tokensE
    rw [eA, ← hkn]
    rfl
  rw [eA, eT]
  simp only [tkE, List.cons_append, List.nil_append, List.append_nil, List.length_cons, List.length_nil, Nat.zero_add]
  unfold Eff
  refine ecalls_in 76 [.tmp 2, .tmp 3] Tryz.func83 rfl rfl rfl (by kernel_rfl) (le_ble rfl) ?_
  repeat' (first | refine esem_seqK 1254532009740477005951 ?_ | refine esem_block ?_ | (refine stp ?_; simp only [go_sem]) | (refine drawQ (id := 1) mixed [(0, []), (3, []), (6, []), (1, []), (4, []), (7, []), (2, [4, 7]), (5, [7]), (8, []), (9, []), (10, []), (11, []), (12, []), (13, []), (14, [])] (by kernel_rfl) ?_; simp only [go_sem]) | (refine drawQ (id := 8) mixed [(1, []), (2, []), (0, [1, 2]), (3, []), (4, []), (5, [])] (by kernel_rfl) ?_; simp only [go_sem]) | (refine Pure.at (hnm) (by simp) (by simp) rfl ?_; (try simp only [go_sem])) | (refine Pure.at (number_t _ _) (by simp) (by simp) rfl ?_; (try simp only [go_sem])) | (refine Pure.at (word_t _ _) (by simp) (by simp) rfl ?_; (try simp only [go_sem])) | (refine Pure.at (quoted_t _ _) (by simp) (by simp) rfl ?_; (try simp only [go_sem])) | (simp (disch := omega) only [wE]) | (refine spl (fun h => ?_) (fun h => ?_) <;> first | (exfalso; omega) | ((try simp only [opRun, opSkip, stepRun, pickZ]); (try simp only [go_sem, h]))) | (refine and_om ?_ ?_; focus omega))
  all_goals exact done_ef2 [19] (by simp) rfl (by simp [mA]) (by simp [bC])
theorem asks_17 (G : List Gl) (t u tz tp : TypeId) (v : List Value) (h3 : gFirst t ∈ G) (h4 : gAcc u ∈ G) (hv : v[15]? = some (.int .u8 4)) (hG : gTz v tz ∈ G) (hp : gPow tp ∈ G) (c : Cmd) (hd : c.doc.length ≤ 1000000000000) (hx : c.text.length ≤ 1000000000000) (hi : 0 ≤ c.id ∧ c.id ≤ 4294967295) (hg : 0 ≤ c.grav ∧ c.grav ≤ 255) (hk : c.kind = 17) : Eff G Tryz.prog 83 [.agg (cmdE c)] [] 0 (.tuple [.slice (some ⟨0, 0⟩) ((argL c).length + 1) ((argL c).length + 1), .bool true]) [(0, .cells (tokensE c) 72 0 true 0)] 1 := by
  obtain ⟨kd, dc, id, fr, to, tx, gr⟩ := c
  simp only at hk hd hx hi hg
  subst hk
  have hnm := name_c G t u tz tp v h3 h4 hv hG hp dc hd
  obtain ⟨kn, hkn⟩ := name_form dc
  rw [hkn] at hnm
  simp only [tkE] at hnm
  have eA : argL ⟨17, dc, id, fr, to, tx, gr⟩ = [100, 102, 116] := argL_of (by simp)
  have eT : tokensE ⟨17, dc, id, fr, to, tx, gr⟩ = woE [112, 108, 97, 99, 101] ++ (tkE ⟨kn, 0, dc, 0⟩ ++ (nuE fr ++ (nuE to ++ ([])))) := by
    unfold tokensE
    rw [eA, ← hkn]
    rfl
  rw [eA, eT]
  simp only [tkE, List.cons_append, List.nil_append, List.append_nil, List.length_cons, List.length_nil, Nat.zero_add]
  unfold Eff
  refine ecalls_in 76 [.tmp 2, .tmp 3] Tryz.func83 rfl rfl rfl (by kernel_rfl) (le_ble rfl) ?_
  repeat' (first | refine esem_seqK 1254532009740477005951 ?_ | refine esem_block ?_ | (refine stp ?_; simp only [go_sem]) | (refine drawQ (id := 1) mixed [(0, []), (3, []), (6, []), (1, []), (4, []), (7, []), (2, [4, 7]), (5, [7]), (8, []), (9, []), (10, []), (11, []), (12, []), (13, []), (14, [])] (by kernel_rfl) ?_; simp only [go_sem]) | (refine drawQ (id := 10) mixed [(1, []), (2, []), (3, []), (0, [1, 2, 3]), (4, []), (5, []), (6, [])] (by kernel_rfl) ?_; simp only [go_sem]) | (refine Pure.at (hnm) (by simp) (by simp) rfl ?_; (try simp only [go_sem])) | (refine Pure.at (number_t _ _) (by simp) (by simp) rfl ?_; (try simp only [go_sem])) | (refine Pure.at (word_t _ _) (by simp) (by simp) rfl ?_; (try simp only [go_sem])) | (refine Pure.at (quoted_t _ _) (by simp) (by simp) rfl ?_; (try simp only [go_sem])) | (simp (disch := omega) only [wE]) | (refine spl (fun h => ?_) (fun h => ?_) <;> first | (exfalso; omega) | ((try simp only [opRun, opSkip, stepRun, pickZ]); (try simp only [go_sem, h]))) | (refine and_om ?_ ?_; focus omega))
  all_goals exact done_ef2 [20] (by simp) rfl (by simp [mA]) (by simp [bC])
theorem asks_18 (G : List Gl) (t u tz tp : TypeId) (v : List Value) (h3 : gFirst t ∈ G) (h4 : gAcc u ∈ G) (hv : v[15]? = some (.int .u8 4)) (hG : gTz v tz ∈ G) (hp : gPow tp ∈ G) (c : Cmd) (hd : c.doc.length ≤ 1000000000000) (hx : c.text.length ≤ 1000000000000) (hi : 0 ≤ c.id ∧ c.id ≤ 4294967295) (hg : 0 ≤ c.grav ∧ c.grav ≤ 255) (hk : c.kind = 18) : Eff G Tryz.prog 83 [.agg (cmdE c)] [] 0 (.tuple [.slice (some ⟨0, 0⟩) ((argL c).length + 1) ((argL c).length + 1), .bool true]) [(0, .cells (tokensE c) 72 0 true 0)] 1 := by
  obtain ⟨kd, dc, id, fr, to, tx, gr⟩ := c
  simp only at hk hd hx hi hg
  subst hk
  have hnm := name_c G t u tz tp v h3 h4 hv hG hp dc hd
  obtain ⟨kn, hkn⟩ := name_form dc
  rw [hkn] at hnm
  simp only [tkE] at hnm
  have eA : argL ⟨18, dc, id, fr, to, tx, gr⟩ = [100] := argL_of (by simp)
  have eT : tokensE ⟨18, dc, id, fr, to, tx, gr⟩ = woE [109, 97, 114, 107, 115] ++ (tkE ⟨kn, 0, dc, 0⟩ ++ ([])) := by
    unfold tokensE
    rw [eA, ← hkn]
    rfl
  rw [eA, eT]
  simp only [tkE, List.cons_append, List.nil_append, List.append_nil, List.length_cons, List.length_nil, Nat.zero_add]
  unfold Eff
  refine ecalls_in 76 [.tmp 2, .tmp 3] Tryz.func83 rfl rfl rfl (by kernel_rfl) (le_ble rfl) ?_
  repeat' (first | refine esem_seqK 1254532009740477005951 ?_ | refine esem_block ?_ | (refine stp ?_; simp only [go_sem]) | (refine drawQ (id := 1) mixed [(0, []), (3, []), (6, []), (1, []), (4, []), (7, []), (2, [4, 7]), (5, [7]), (8, []), (9, []), (10, []), (11, []), (12, []), (13, []), (14, [])] (by kernel_rfl) ?_; simp only [go_sem]) | (refine drawQ (id := 12) mixed [(1, []), (0, [1]), (2, []), (3, []), (4, [])] (by kernel_rfl) ?_; simp only [go_sem]) | (refine Pure.at (hnm) (by simp) (by simp) rfl ?_; (try simp only [go_sem])) | (refine Pure.at (number_t _ _) (by simp) (by simp) rfl ?_; (try simp only [go_sem])) | (refine Pure.at (word_t _ _) (by simp) (by simp) rfl ?_; (try simp only [go_sem])) | (refine Pure.at (quoted_t _ _) (by simp) (by simp) rfl ?_; (try simp only [go_sem])) | (simp (disch := omega) only [wE]) | (refine spl (fun h => ?_) (fun h => ?_) <;> first | (exfalso; omega) | ((try simp only [opRun, opSkip, stepRun, pickZ]); (try simp only [go_sem, h]))) | (refine and_om ?_ ?_; focus omega))
  all_goals exact done_ef2 [18] (by simp) rfl (by simp [mA]) (by simp [bC])
theorem asks_19 (G : List Gl) (t u tz tp : TypeId) (v : List Value) (h3 : gFirst t ∈ G) (h4 : gAcc u ∈ G) (hv : v[15]? = some (.int .u8 4)) (hG : gTz v tz ∈ G) (hp : gPow tp ∈ G) (c : Cmd) (hd : c.doc.length ≤ 1000000000000) (hx : c.text.length ≤ 1000000000000) (hi : 0 ≤ c.id ∧ c.id ≤ 4294967295) (hg : 0 ≤ c.grav ∧ c.grav ≤ 255) (hk : c.kind = 19) : Eff G Tryz.prog 83 [.agg (cmdE c)] [] 0 (.tuple [.slice (some ⟨0, 0⟩) ((argL c).length + 1) ((argL c).length + 1), .bool true]) [(0, .cells (tokensE c) 72 0 true 0)] 1 := by
  obtain ⟨kd, dc, id, fr, to, tx, gr⟩ := c
  simp only at hk hd hx hi hg
  subst hk
  have hnm := name_c G t u tz tp v h3 h4 hv hG hp dc hd
  obtain ⟨kn, hkn⟩ := name_form dc
  rw [hkn] at hnm
  simp only [tkE] at hnm
  have eA : argL ⟨19, dc, id, fr, to, tx, gr⟩ = [100] := argL_of (by simp)
  have eT : tokensE ⟨19, dc, id, fr, to, tx, gr⟩ = woE [99, 117, 114, 115, 111, 114, 115] ++ (tkE ⟨kn, 0, dc, 0⟩ ++ ([])) := by
    unfold tokensE
    rw [eA, ← hkn]
    rfl
  rw [eA, eT]
  simp only [tkE, List.cons_append, List.nil_append, List.append_nil, List.length_cons, List.length_nil, Nat.zero_add]
  unfold Eff
  refine ecalls_in 76 [.tmp 2, .tmp 3] Tryz.func83 rfl rfl rfl (by kernel_rfl) (le_ble rfl) ?_
  repeat' (first | refine esem_seqK 1254532009740477005951 ?_ | refine esem_block ?_ | (refine stp ?_; simp only [go_sem]) | (refine drawQ (id := 1) mixed [(0, []), (3, []), (6, []), (1, []), (4, []), (7, []), (2, [4, 7]), (5, [7]), (8, []), (9, []), (10, []), (11, []), (12, []), (13, []), (14, [])] (by kernel_rfl) ?_; simp only [go_sem]) | (refine drawQ (id := 14) mixed [(1, []), (0, [1]), (2, []), (3, []), (4, [])] (by kernel_rfl) ?_; simp only [go_sem]) | (refine Pure.at (hnm) (by simp) (by simp) rfl ?_; (try simp only [go_sem])) | (refine Pure.at (number_t _ _) (by simp) (by simp) rfl ?_; (try simp only [go_sem])) | (refine Pure.at (word_t _ _) (by simp) (by simp) rfl ?_; (try simp only [go_sem])) | (refine Pure.at (quoted_t _ _) (by simp) (by simp) rfl ?_; (try simp only [go_sem])) | (simp (disch := omega) only [wE]) | (refine spl (fun h => ?_) (fun h => ?_) <;> first | (exfalso; omega) | ((try simp only [opRun, opSkip, stepRun, pickZ]); (try simp only [go_sem, h]))) | (refine and_om ?_ ?_; focus omega))
  all_goals exact done_ef2 [18] (by simp) rfl (by simp [mA]) (by simp [bC])
theorem asks_20 (G : List Gl) (t u tz tp : TypeId) (v : List Value) (h3 : gFirst t ∈ G) (h4 : gAcc u ∈ G) (hv : v[15]? = some (.int .u8 4)) (hG : gTz v tz ∈ G) (hp : gPow tp ∈ G) (c : Cmd) (hd : c.doc.length ≤ 1000000000000) (hx : c.text.length ≤ 1000000000000) (hi : 0 ≤ c.id ∧ c.id ≤ 4294967295) (hg : 0 ≤ c.grav ∧ c.grav ≤ 255) (hk : c.kind = 20) : Eff G Tryz.prog 83 [.agg (cmdE c)] [] 0 (.tuple [.slice (some ⟨0, 0⟩) ((argL c).length + 1) ((argL c).length + 1), .bool true]) [(0, .cells (tokensE c) 72 0 true 0)] 1 := by
  obtain ⟨kd, dc, id, fr, to, tx, gr⟩ := c
  simp only at hk hd hx hi hg
  subst hk
  have hnm := name_c G t u tz tp v h3 h4 hv hG hp dc hd
  obtain ⟨kn, hkn⟩ := name_form dc
  rw [hkn] at hnm
  simp only [tkE] at hnm
  have eA : argL ⟨20, dc, id, fr, to, tx, gr⟩ = [] := argL_of (by simp)
  have eT : tokensE ⟨20, dc, id, fr, to, tx, gr⟩ = woE [100, 111, 99, 115] ++ ([]) := by
    unfold tokensE
    rw [eA]
    rfl
  rw [eA, eT]
  simp only [tkE, List.cons_append, List.nil_append, List.append_nil, List.length_cons, List.length_nil, Nat.zero_add]
  unfold Eff
  refine ecalls_in 76 [.tmp 2, .tmp 3] Tryz.func83 rfl rfl rfl (by kernel_rfl) (le_ble rfl) ?_
  repeat' (first | refine esem_seqK 1254532009740477005951 ?_ | refine esem_block ?_ | (refine stp ?_; simp only [go_sem]) | (refine drawQ (id := 1) mixed [(0, []), (3, []), (6, []), (1, []), (4, []), (7, []), (2, [4, 7]), (5, [7]), (8, []), (9, []), (10, []), (11, []), (12, []), (13, []), (14, [])] (by kernel_rfl) ?_; simp only [go_sem]) | (refine Pure.at (hnm) (by simp) (by simp) rfl ?_; (try simp only [go_sem])) | (refine Pure.at (number_t _ _) (by simp) (by simp) rfl ?_; (try simp only [go_sem])) | (refine Pure.at (word_t _ _) (by simp) (by simp) rfl ?_; (try simp only [go_sem])) | (refine Pure.at (quoted_t _ _) (by simp) (by simp) rfl ?_; (try simp only [go_sem])) | (simp (disch := omega) only [wE]) | (refine spl (fun h => ?_) (fun h => ?_) <;> first | (exfalso; omega) | ((try simp only [opRun, opSkip, stepRun, pickZ]); (try simp only [go_sem, h]))) | (refine and_om ?_ ?_; focus omega))
  all_goals exact done_ef2 [16] (by simp) rfl (by simp [mA]) (by simp [bC])
theorem asks_21 (G : List Gl) (t u tz tp : TypeId) (v : List Value) (h3 : gFirst t ∈ G) (h4 : gAcc u ∈ G) (hv : v[15]? = some (.int .u8 4)) (hG : gTz v tz ∈ G) (hp : gPow tp ∈ G) (c : Cmd) (hd : c.doc.length ≤ 1000000000000) (hx : c.text.length ≤ 1000000000000) (hi : 0 ≤ c.id ∧ c.id ≤ 4294967295) (hg : 0 ≤ c.grav ∧ c.grav ≤ 255) (hk : c.kind = 21) : Eff G Tryz.prog 83 [.agg (cmdE c)] [] 0 (.tuple [.slice (some ⟨0, 0⟩) ((argL c).length + 1) ((argL c).length + 1), .bool true]) [(0, .cells (tokensE c) 72 0 true 0)] 1 := by
  obtain ⟨kd, dc, id, fr, to, tx, gr⟩ := c
  simp only at hk hd hx hi hg
  subst hk
  have hnm := name_c G t u tz tp v h3 h4 hv hG hp dc hd
  obtain ⟨kn, hkn⟩ := name_form dc
  rw [hkn] at hnm
  simp only [tkE] at hnm
  have eA : argL ⟨21, dc, id, fr, to, tx, gr⟩ = [100, 102, 113] := argL_of (by simp)
  have eT : tokensE ⟨21, dc, id, fr, to, tx, gr⟩ = woE [102, 105, 110, 100] ++ (tkE ⟨kn, 0, dc, 0⟩ ++ (nuE fr ++ (quE tx ++ ([])))) := by
    unfold tokensE
    rw [eA, ← hkn]
    rfl
  rw [eA, eT]
  simp only [tkE, List.cons_append, List.nil_append, List.append_nil, List.length_cons, List.length_nil, Nat.zero_add]
  unfold Eff
  refine ecalls_in 76 [.tmp 2, .tmp 3] Tryz.func83 rfl rfl rfl (by kernel_rfl) (le_ble rfl) ?_
  repeat' (first | refine esem_seqK 1254532009740477005951 ?_ | refine esem_block ?_ | (refine stp ?_; simp only [go_sem]) | (refine drawQ (id := 1) mixed [(0, []), (3, []), (6, []), (1, []), (4, []), (7, []), (2, [4, 7]), (5, [7]), (8, []), (9, []), (10, []), (11, []), (12, []), (13, []), (14, [])] (by kernel_rfl) ?_; simp only [go_sem]) | (refine drawQ (id := 18) mixed [(3, []), (1, []), (2, []), (4, []), (0, [1, 2, 4]), (5, [1, 2]), (6, []), (7, []), (8, [])] (by kernel_rfl) ?_; simp only [go_sem]) | (refine Pure.at (hnm) (by simp) (by simp) rfl ?_; (try simp only [go_sem])) | (refine Pure.at (number_t _ _) (by simp) (by simp) rfl ?_; (try simp only [go_sem])) | (refine Pure.at (word_t _ _) (by simp) (by simp) rfl ?_; (try simp only [go_sem])) | (refine Pure.at (quoted_t _ _) (by simp) (by simp) rfl ?_; (try simp only [go_sem])) | (simp (disch := omega) only [wE]) | (refine spl (fun h => ?_) (fun h => ?_) <;> first | (exfalso; omega) | ((try simp only [opRun, opSkip, stepRun, pickZ]); (try simp only [go_sem, h]))) | (refine and_om ?_ ?_; focus omega))
  all_goals exact done_ef2 [22] (by simp) rfl (by simp [mA]) (by simp [bC])
theorem asks_22e (G : List Gl) (t u tz tp : TypeId) (v : List Value) (h3 : gFirst t ∈ G) (h4 : gAcc u ∈ G) (hv : v[15]? = some (.int .u8 4)) (hG : gTz v tz ∈ G) (hp : gPow tp ∈ G) (c : Cmd) (hd : c.doc.length ≤ 1000000000000) (hx : c.text.length ≤ 1000000000000) (hi : 0 ≤ c.id ∧ c.id ≤ 4294967295) (hg : 0 ≤ c.grav ∧ c.grav ≤ 255) (hk : c.kind = 22) (hdc : c.doc = []) : Eff G Tryz.prog 83 [.agg (cmdE c)] [] 0 (.tuple [.slice (some ⟨0, 0⟩) ((argL c).length + 1) ((argL c).length + 1), .bool true]) [(0, .cells (tokensE c) 72 0 true 0)] 1 := by
  obtain ⟨kd, dc, id, fr, to, tx, gr⟩ := c
  simp only at hk hd hx hi hg
  subst hk
  have hnm := name_c G t u tz tp v h3 h4 hv hG hp dc hd
  obtain ⟨kn, hkn⟩ := name_form dc
  rw [hkn] at hnm
  simp only [tkE] at hnm
  simp only at hdc
  subst hdc
  have eA : argL ⟨22, [], id, fr, to, tx, gr⟩ = [] := by unfold argL; rw [if_pos ⟨rfl, rfl⟩]
  have eT : tokensE ⟨22, [], id, fr, to, tx, gr⟩ = woE [115, 116, 97, 116] ++ ([]) := by
    unfold tokensE
    rw [eA]
    rfl
  rw [eA, eT]
  simp only [tkE, List.cons_append, List.nil_append, List.append_nil, List.length_cons, List.length_nil, Nat.zero_add]
  unfold Eff
  refine ecalls_in 76 [.tmp 2, .tmp 3] Tryz.func83 rfl rfl rfl (by kernel_rfl) (le_ble rfl) ?_
  repeat' (first | refine esem_seqK 1254532009740477005951 ?_ | refine esem_block ?_ | (refine stp ?_; simp only [go_sem]) | (refine drawQ (id := 1) mixed [(0, []), (3, []), (6, []), (1, []), (4, []), (7, []), (2, [4, 7]), (5, [7]), (8, []), (9, []), (10, []), (11, []), (12, []), (13, []), (14, [])] (by kernel_rfl) ?_; simp only [go_sem]) | (refine Pure.at (hnm) (by simp) (by simp) rfl ?_; (try simp only [go_sem])) | (refine Pure.at (number_t _ _) (by simp) (by simp) rfl ?_; (try simp only [go_sem])) | (refine Pure.at (word_t _ _) (by simp) (by simp) rfl ?_; (try simp only [go_sem])) | (refine Pure.at (quoted_t _ _) (by simp) (by simp) rfl ?_; (try simp only [go_sem])) | (simp (disch := omega) only [wE]) | (refine spl (fun h => ?_) (fun h => ?_) <;> first | (exfalso; omega) | ((try simp only [opRun, opSkip, stepRun, pickZ]); (try simp only [go_sem, h]))) | (refine and_om ?_ ?_; focus omega))
  all_goals exact done_ef2 [16] (by simp) rfl (by simp [mA]) (by simp [bC])
theorem asks_22d (G : List Gl) (t u tz tp : TypeId) (v : List Value) (h3 : gFirst t ∈ G) (h4 : gAcc u ∈ G) (hv : v[15]? = some (.int .u8 4)) (hG : gTz v tz ∈ G) (hp : gPow tp ∈ G) (c : Cmd) (hd : c.doc.length ≤ 1000000000000) (hx : c.text.length ≤ 1000000000000) (hi : 0 ≤ c.id ∧ c.id ≤ 4294967295) (hg : 0 ≤ c.grav ∧ c.grav ≤ 255) (hk : c.kind = 22) (hdc : c.doc ≠ []) : Eff G Tryz.prog 83 [.agg (cmdE c)] [] 0 (.tuple [.slice (some ⟨0, 0⟩) ((argL c).length + 1) ((argL c).length + 1), .bool true]) [(0, .cells (tokensE c) 72 0 true 0)] 1 := by
  obtain ⟨kd, dc, id, fr, to, tx, gr⟩ := c
  simp only at hk hd hx hi hg
  subst hk
  have hnm := name_c G t u tz tp v h3 h4 hv hG hp dc hd
  obtain ⟨kn, hkn⟩ := name_form dc
  rw [hkn] at hnm
  simp only [tkE] at hnm
  simp only at hdc
  have eA : argL ⟨22, dc, id, fr, to, tx, gr⟩ = [100] := argL_of (fun h => hdc h.2)
  have eT : tokensE ⟨22, dc, id, fr, to, tx, gr⟩ = woE [115, 116, 97, 116] ++ (tkE ⟨kn, 0, dc, 0⟩ ++ ([])) := by
    unfold tokensE
    rw [eA, ← hkn]
    rfl
  rw [eA, eT]
  simp only [tkE, List.cons_append, List.nil_append, List.append_nil, List.length_cons, List.length_nil, Nat.zero_add]
  unfold Eff
  refine ecalls_in 76 [.tmp 2, .tmp 3] Tryz.func83 rfl rfl rfl (by kernel_rfl) (le_ble rfl) ?_
  repeat' (first | contradiction | refine esem_seqK 1254532009740477005951 ?_ | refine esem_block ?_ | (refine stp ?_; simp only [go_sem]) | (refine drawQ (id := 1) mixed [(0, []), (3, []), (6, []), (1, []), (4, []), (7, []), (2, [4, 7]), (5, [7]), (8, []), (9, []), (10, []), (11, []), (12, []), (13, []), (14, [])] (by kernel_rfl) ?_; simp only [go_sem]) | (refine drawQ (id := 22) mixed [(1, []), (0, [1]), (2, []), (3, []), (4, [])] (by kernel_rfl) ?_; simp only [go_sem]) | (refine Pure.at (hnm) (by simp) (by simp) rfl ?_; (try simp only [go_sem])) | (refine Pure.at (number_t _ _) (by simp) (by simp) rfl ?_; (try simp only [go_sem])) | (refine Pure.at (word_t _ _) (by simp) (by simp) rfl ?_; (try simp only [go_sem])) | (refine Pure.at (quoted_t _ _) (by simp) (by simp) rfl ?_; (try simp only [go_sem])) | (simp (disch := omega) only [wE]) | (refine spl (fun h => ?_) (fun h => ?_) <;> first | (exfalso; omega) | ((try simp only [opRun, opSkip, stepRun, pickZ]); (try simp only [go_sem, h]))) | (refine and_om ?_ ?_; focus omega))
  all_goals exact done_ef2 [18] (by simp) rfl (by simp [mA]) (by simp [bC])
theorem toks_1 (G : List Gl) (t u tz tp : TypeId) (v : List Value) (h3 : gFirst t ∈ G) (h4 : gAcc u ∈ G) (hv : v[15]? = some (.int .u8 4)) (hG : gTz v tz ∈ G) (hp : gPow tp ∈ G) (c : Cmd) (hd : c.doc.length ≤ 1000000000000) (hx : c.text.length ≤ 1000000000000) (hi : 0 ≤ c.id ∧ c.id ≤ 4294967295) (hg : 0 ≤ c.grav ∧ c.grav ≤ 255) (hk : c.kind = 1) : Eff G Tryz.prog 31 [.agg (cmdE c)] [] 0 (.tuple [.slice (some ⟨0, 0⟩) ((argL c).length + 1) ((argL c).length + 1), .bool true]) [(0, .cells (tokensE c) 72 0 true 0)] 1 := by
  obtain ⟨kd, dc, id, fr, to, tx, gr⟩ := c
  simp only at hk hd hx hi hg
  subst hk
  have hnm := name_c G t u tz tp v h3 h4 hv hG hp dc hd
  obtain ⟨kn, hkn⟩ := name_form dc
  rw [hkn] at hnm
  simp only [tkE] at hnm
  have eA : argL ⟨1, dc, id, fr, to, tx, gr⟩ = [100] := argL_of (by simp)
  have eT : tokensE ⟨1, dc, id, fr, to, tx, gr⟩ = woE [110, 101, 119] ++ (tkE ⟨kn, 0, dc, 0⟩ ++ ([])) := by
    unfold tokensE
    rw [eA, ← hkn]
    rfl
  rw [eA, eT]
  simp only [tkE, List.cons_append, List.nil_append, List.append_nil, List.length_cons, List.length_nil, Nat.zero_add]
  unfold Eff
  refine ecalls_in 124 [.tmp 2, .tmp 3] Tryz.func31 rfl rfl rfl (by kernel_rfl) (le_ble rfl) ?_
  repeat' (first | refine esem_seqK 42856741435326530745514074891616511 ?_ | refine esem_block ?_ | (refine stp ?_; simp only [go_sem]) | (refine drawQ (id := 1) mixed [(0, []), (3, []), (7, []), (10, []), (1, []), (4, []), (5, []), (8, []), (11, []), (2, [4, 8, 11]), (6, [8, 11]), (9, [11]), (12, []), (13, []), (14, []), (15, []), (16, []), (17, []), (18, []), (19, []), (20, [])] (by kernel_rfl) ?_; simp only [go_sem]) | (refine drawQ (id := 4) mixed [(1, []), (0, [1]), (2, []), (3, []), (4, [])] (by kernel_rfl) ?_; simp only [go_sem]) | (refine Pure.at (hnm) (by simp) (by simp) rfl ?_; (try simp only [go_sem])) | (refine Pure.at (number_t _ _) (by simp) (by simp) rfl ?_; (try simp only [go_sem])) | (refine Pure.at (word_t _ _) (by simp) (by simp) rfl ?_; (try simp only [go_sem])) | (refine Pure.at (quoted_t _ _) (by simp) (by simp) rfl ?_; (try simp only [go_sem])) | (simp (disch := omega) only [wrap64E]) | (simp (disch := omega) only [wE]) | (refine spl (fun h => ?_) (fun h => ?_) <;> first | (exfalso; omega) | ((try simp only [opRun, opSkip, stepRun, pickZ]); (try simp only [go_sem, h]))) | (refine and_om ?_ ?_; focus omega))
  all_goals exact done_ef2 [24] (by simp) rfl (by simp [mA]) (by simp [bC])
theorem toks_2 (G : List Gl) (t u tz tp : TypeId) (v : List Value) (h3 : gFirst t ∈ G) (h4 : gAcc u ∈ G) (hv : v[15]? = some (.int .u8 4)) (hG : gTz v tz ∈ G) (hp : gPow tp ∈ G) (c : Cmd) (hd : c.doc.length ≤ 1000000000000) (hx : c.text.length ≤ 1000000000000) (hi : 0 ≤ c.id ∧ c.id ≤ 4294967295) (hg : 0 ≤ c.grav ∧ c.grav ≤ 255) (hk : c.kind = 2) : Eff G Tryz.prog 31 [.agg (cmdE c)] [] 0 (.tuple [.slice (some ⟨0, 0⟩) ((argL c).length + 1) ((argL c).length + 1), .bool true]) [(0, .cells (tokensE c) 72 0 true 0)] 1 := by
  obtain ⟨kd, dc, id, fr, to, tx, gr⟩ := c
  simp only at hk hd hx hi hg
  subst hk
  have hnm := name_c G t u tz tp v h3 h4 hv hG hp dc hd
  obtain ⟨kn, hkn⟩ := name_form dc
  rw [hkn] at hnm
  simp only [tkE] at hnm
  have eA : argL ⟨2, dc, id, fr, to, tx, gr⟩ = [100] := argL_of (by simp)
  have eT : tokensE ⟨2, dc, id, fr, to, tx, gr⟩ = woE [100, 114, 111, 112] ++ (tkE ⟨kn, 0, dc, 0⟩ ++ ([])) := by
    unfold tokensE
    rw [eA, ← hkn]
    rfl
  rw [eA, eT]
  simp only [tkE, List.cons_append, List.nil_append, List.append_nil, List.length_cons, List.length_nil, Nat.zero_add]
  unfold Eff
  refine ecalls_in 124 [.tmp 2, .tmp 3] Tryz.func31 rfl rfl rfl (by kernel_rfl) (le_ble rfl) ?_
  repeat' (first | refine esem_seqK 42856741435326530745514074891616511 ?_ | refine esem_block ?_ | (refine stp ?_; simp only [go_sem]) | (refine drawQ (id := 1) mixed [(0, []), (3, []), (7, []), (10, []), (1, []), (4, []), (5, []), (8, []), (11, []), (2, [4, 8, 11]), (6, [8, 11]), (9, [11]), (12, []), (13, []), (14, []), (15, []), (16, []), (17, []), (18, []), (19, []), (20, [])] (by kernel_rfl) ?_; simp only [go_sem]) | (refine drawQ (id := 6) mixed [(1, []), (0, [1]), (2, []), (3, []), (4, [])] (by kernel_rfl) ?_; simp only [go_sem]) | (refine Pure.at (hnm) (by simp) (by simp) rfl ?_; (try simp only [go_sem])) | (refine Pure.at (number_t _ _) (by simp) (by simp) rfl ?_; (try simp only [go_sem])) | (refine Pure.at (word_t _ _) (by simp) (by simp) rfl ?_; (try simp only [go_sem])) | (refine Pure.at (quoted_t _ _) (by simp) (by simp) rfl ?_; (try simp only [go_sem])) | (simp (disch := omega) only [wrap64E]) | (simp (disch := omega) only [wE]) | (refine spl (fun h => ?_) (fun h => ?_) <;> first | (exfalso; omega) | ((try simp only [opRun, opSkip, stepRun, pickZ]); (try simp only [go_sem, h]))) | (refine and_om ?_ ?_; focus omega))
  all_goals exact done_ef2 [24] (by simp) rfl (by simp [mA]) (by simp [bC])
theorem toks_3 (G : List Gl) (t u tz tp : TypeId) (v : List Value) (h3 : gFirst t ∈ G) (h4 : gAcc u ∈ G) (hv : v[15]? = some (.int .u8 4)) (hG : gTz v tz ∈ G) (hp : gPow tp ∈ G) (c : Cmd) (hd : c.doc.length ≤ 1000000000000) (hx : c.text.length ≤ 1000000000000) (hi : 0 ≤ c.id ∧ c.id ≤ 4294967295) (hg : 0 ≤ c.grav ∧ c.grav ≤ 255) (hk : c.kind = 3) : Eff G Tryz.prog 31 [.agg (cmdE c)] [] 0 (.tuple [.slice (some ⟨0, 0⟩) ((argL c).length + 1) ((argL c).length + 1), .bool true]) [(0, .cells (tokensE c) 72 0 true 0)] 1 := by
  obtain ⟨kd, dc, id, fr, to, tx, gr⟩ := c
  simp only at hk hd hx hi hg
  subst hk
  have hnm := name_c G t u tz tp v h3 h4 hv hG hp dc hd
  obtain ⟨kn, hkn⟩ := name_form dc
  rw [hkn] at hnm
  simp only [tkE] at hnm
  have hnx := name_c G t u tz tp v h3 h4 hv hG hp tx hx
  obtain ⟨kx, hkx⟩ := name_form tx
  rw [hkx] at hnx
  simp only [tkE] at hnx
  have eA : argL ⟨3, dc, id, fr, to, tx, gr⟩ = [100, 120] := argL_of (by simp)
  have eT : tokensE ⟨3, dc, id, fr, to, tx, gr⟩ = woE [114, 101, 110, 97, 109, 101] ++ (tkE ⟨kn, 0, dc, 0⟩ ++ (tkE ⟨kx, 0, tx, 0⟩ ++ ([]))) := by
    unfold tokensE
    rw [eA, ← hkn, ← hkx]
    rfl
  rw [eA, eT]
  simp only [tkE, List.cons_append, List.nil_append, List.append_nil, List.length_cons, List.length_nil, Nat.zero_add]
  unfold Eff
  refine ecalls_in 124 [.tmp 2, .tmp 3] Tryz.func31 rfl rfl rfl (by kernel_rfl) (le_ble rfl) ?_
  repeat' (first | refine esem_seqK 42856741435326530745514074891616511 ?_ | refine esem_block ?_ | (refine stp ?_; simp only [go_sem]) | (refine drawQ (id := 1) mixed [(0, []), (3, []), (7, []), (10, []), (1, []), (4, []), (5, []), (8, []), (11, []), (2, [4, 8, 11]), (6, [8, 11]), (9, [11]), (12, []), (13, []), (14, []), (15, []), (16, []), (17, []), (18, []), (19, []), (20, [])] (by kernel_rfl) ?_; simp only [go_sem]) | (refine drawQ (id := 8) mixed [(2, []), (1, []), (3, []), (0, [1, 3]), (4, [1]), (5, []), (6, []), (7, [])] (by kernel_rfl) ?_; simp only [go_sem]) | (refine Pure.at (hnm) (by simp) (by simp) rfl ?_; (try simp only [go_sem])) | (refine Pure.at (number_t _ _) (by simp) (by simp) rfl ?_; (try simp only [go_sem])) | (refine Pure.at (word_t _ _) (by simp) (by simp) rfl ?_; (try simp only [go_sem])) | (refine Pure.at (quoted_t _ _) (by simp) (by simp) rfl ?_; (try simp only [go_sem])) | (simp (disch := omega) only [wrap64E]) | (refine Pure.at (hnx) (by simp) (by simp) rfl ?_; (try simp only [go_sem])) | (simp (disch := omega) only [wE]) | (refine spl (fun h => ?_) (fun h => ?_) <;> first | (exfalso; omega) | ((try simp only [opRun, opSkip, stepRun, pickZ]); (try simp only [go_sem, h]))) | (refine and_om ?_ ?_; focus omega))
  all_goals exact done_ef2 [27] (by simp) rfl (by simp [mA]) (by simp [bC])
theorem toks_4 (G : List Gl) (t u tz tp : TypeId) (v : List Value) (h3 : gFirst t ∈ G) (h4 : gAcc u ∈ G) (hv : v[15]? = some (.int .u8 4)) (hG : gTz v tz ∈ G) (hp : gPow tp ∈ G) (c : Cmd) (hd : c.doc.length ≤ 1000000000000) (hx : c.text.length ≤ 1000000000000) (hi : 0 ≤ c.id ∧ c.id ≤ 4294967295) (hg : 0 ≤ c.grav ∧ c.grav ≤ 255) (hk : c.kind = 4) : Eff G Tryz.prog 31 [.agg (cmdE c)] [] 0 (.tuple [.slice (some ⟨0, 0⟩) ((argL c).length + 1) ((argL c).length + 1), .bool true]) [(0, .cells (tokensE c) 72 0 true 0)] 1 := by
  obtain ⟨kd, dc, id, fr, to, tx, gr⟩ := c
  simp only at hk hd hx hi hg
  subst hk
  have hnm := name_c G t u tz tp v h3 h4 hv hG hp dc hd
  obtain ⟨kn, hkn⟩ := name_form dc
  rw [hkn] at hnm
  simp only [tkE] at hnm
  have eA : argL ⟨4, dc, id, fr, to, tx, gr⟩ = [100, 102, 113] := argL_of (by simp)
  have eT : tokensE ⟨4, dc, id, fr, to, tx, gr⟩ = woE [105, 110, 115, 101, 114, 116] ++ (tkE ⟨kn, 0, dc, 0⟩ ++ (nuE fr ++ (quE tx ++ ([])))) := by
    unfold tokensE
    rw [eA, ← hkn]
    rfl
  rw [eA, eT]
  simp only [tkE, List.cons_append, List.nil_append, List.append_nil, List.length_cons, List.length_nil, Nat.zero_add]
  unfold Eff
  refine ecalls_in 124 [.tmp 2, .tmp 3] Tryz.func31 rfl rfl rfl (by kernel_rfl) (le_ble rfl) ?_
  repeat' (first | refine esem_seqK 42856741435326530745514074891616511 ?_ | refine esem_block ?_ | (refine stp ?_; simp only [go_sem]) | (refine drawQ (id := 1) mixed [(0, []), (3, []), (7, []), (10, []), (1, []), (4, []), (5, []), (8, []), (11, []), (2, [4, 8, 11]), (6, [8, 11]), (9, [11]), (12, []), (13, []), (14, []), (15, []), (16, []), (17, []), (18, []), (19, []), (20, [])] (by kernel_rfl) ?_; simp only [go_sem]) | (refine drawQ (id := 10) mixed [(3, []), (1, []), (2, []), (4, []), (0, [1, 2, 4]), (5, [1, 2]), (6, []), (7, []), (8, [])] (by kernel_rfl) ?_; simp only [go_sem]) | (refine Pure.at (hnm) (by simp) (by simp) rfl ?_; (try simp only [go_sem])) | (refine Pure.at (number_t _ _) (by simp) (by simp) rfl ?_; (try simp only [go_sem])) | (refine Pure.at (word_t _ _) (by simp) (by simp) rfl ?_; (try simp only [go_sem])) | (refine Pure.at (quoted_t _ _) (by simp) (by simp) rfl ?_; (try simp only [go_sem])) | (simp (disch := omega) only [wrap64E]) | (simp (disch := omega) only [wE]) | (refine spl (fun h => ?_) (fun h => ?_) <;> first | (exfalso; omega) | ((try simp only [opRun, opSkip, stepRun, pickZ]); (try simp only [go_sem, h]))) | (refine and_om ?_ ?_; focus omega))
  all_goals exact done_ef2 [28] (by simp) rfl (by simp [mA]) (by simp [bC])
theorem toks_5 (G : List Gl) (t u tz tp : TypeId) (v : List Value) (h3 : gFirst t ∈ G) (h4 : gAcc u ∈ G) (hv : v[15]? = some (.int .u8 4)) (hG : gTz v tz ∈ G) (hp : gPow tp ∈ G) (c : Cmd) (hd : c.doc.length ≤ 1000000000000) (hx : c.text.length ≤ 1000000000000) (hi : 0 ≤ c.id ∧ c.id ≤ 4294967295) (hg : 0 ≤ c.grav ∧ c.grav ≤ 255) (hk : c.kind = 5) : Eff G Tryz.prog 31 [.agg (cmdE c)] [] 0 (.tuple [.slice (some ⟨0, 0⟩) ((argL c).length + 1) ((argL c).length + 1), .bool true]) [(0, .cells (tokensE c) 72 0 true 0)] 1 := by
  obtain ⟨kd, dc, id, fr, to, tx, gr⟩ := c
  simp only at hk hd hx hi hg
  subst hk
  have hnm := name_c G t u tz tp v h3 h4 hv hG hp dc hd
  obtain ⟨kn, hkn⟩ := name_form dc
  rw [hkn] at hnm
  simp only [tkE] at hnm
  have eA : argL ⟨5, dc, id, fr, to, tx, gr⟩ = [100, 102, 116] := argL_of (by simp)
  have eT : tokensE ⟨5, dc, id, fr, to, tx, gr⟩ = woE [100, 101, 108, 101, 116, 101] ++ (tkE ⟨kn, 0, dc, 0⟩ ++ (nuE fr ++ (nuE to ++ ([])))) := by
    unfold tokensE
    rw [eA, ← hkn]
    rfl
  rw [eA, eT]
  simp only [tkE, List.cons_append, List.nil_append, List.append_nil, List.length_cons, List.length_nil, Nat.zero_add]
  unfold Eff
  refine ecalls_in 124 [.tmp 2, .tmp 3] Tryz.func31 rfl rfl rfl (by kernel_rfl) (le_ble rfl) ?_
  repeat' (first | refine esem_seqK 42856741435326530745514074891616511 ?_ | refine esem_block ?_ | (refine stp ?_; simp only [go_sem]) | (refine drawQ (id := 1) mixed [(0, []), (3, []), (7, []), (10, []), (1, []), (4, []), (5, []), (8, []), (11, []), (2, [4, 8, 11]), (6, [8, 11]), (9, [11]), (12, []), (13, []), (14, []), (15, []), (16, []), (17, []), (18, []), (19, []), (20, [])] (by kernel_rfl) ?_; simp only [go_sem]) | (refine drawQ (id := 12) mixed [(1, []), (2, []), (3, []), (0, [1, 2, 3]), (4, []), (5, []), (6, [])] (by kernel_rfl) ?_; simp only [go_sem]) | (refine Pure.at (hnm) (by simp) (by simp) rfl ?_; (try simp only [go_sem])) | (refine Pure.at (number_t _ _) (by simp) (by simp) rfl ?_; (try simp only [go_sem])) | (refine Pure.at (word_t _ _) (by simp) (by simp) rfl ?_; (try simp only [go_sem])) | (refine Pure.at (quoted_t _ _) (by simp) (by simp) rfl ?_; (try simp only [go_sem])) | (simp (disch := omega) only [wrap64E]) | (simp (disch := omega) only [wE]) | (refine spl (fun h => ?_) (fun h => ?_) <;> first | (exfalso; omega) | ((try simp only [opRun, opSkip, stepRun, pickZ]); (try simp only [go_sem, h]))) | (refine and_om ?_ ?_; focus omega))
  all_goals exact done_ef2 [26] (by simp) rfl (by simp [mA]) (by simp [bC])
theorem toks_6 (G : List Gl) (t u tz tp : TypeId) (v : List Value) (h3 : gFirst t ∈ G) (h4 : gAcc u ∈ G) (hv : v[15]? = some (.int .u8 4)) (hG : gTz v tz ∈ G) (hp : gPow tp ∈ G) (c : Cmd) (hd : c.doc.length ≤ 1000000000000) (hx : c.text.length ≤ 1000000000000) (hi : 0 ≤ c.id ∧ c.id ≤ 4294967295) (hg : 0 ≤ c.grav ∧ c.grav ≤ 255) (hk : c.kind = 6) : Eff G Tryz.prog 31 [.agg (cmdE c)] [] 0 (.tuple [.slice (some ⟨0, 0⟩) ((argL c).length + 1) ((argL c).length + 1), .bool true]) [(0, .cells (tokensE c) 72 0 true 0)] 1 := by
  obtain ⟨kd, dc, id, fr, to, tx, gr⟩ := c
  simp only at hk hd hx hi hg
  subst hk
  have hnm := name_c G t u tz tp v h3 h4 hv hG hp dc hd
  obtain ⟨kn, hkn⟩ := name_form dc
  rw [hkn] at hnm
  simp only [tkE] at hnm
  have eA : argL ⟨6, dc, id, fr, to, tx, gr⟩ = [100, 102, 116, 113] := argL_of (by simp)
  have eT : tokensE ⟨6, dc, id, fr, to, tx, gr⟩ = woE [114, 101, 112, 108, 97, 99, 101] ++ (tkE ⟨kn, 0, dc, 0⟩ ++ (nuE fr ++ (nuE to ++ (quE tx ++ ([]))))) := by
    unfold tokensE
    rw [eA, ← hkn]
    rfl
  rw [eA, eT]
  simp only [tkE, List.cons_append, List.nil_append, List.append_nil, List.length_cons, List.length_nil, Nat.zero_add]
  unfold Eff
  refine ecalls_in 124 [.tmp 2, .tmp 3] Tryz.func31 rfl rfl rfl (by kernel_rfl) (le_ble rfl) ?_
  repeat' (first | refine esem_seqK 42856741435326530745514074891616511 ?_ | refine esem_block ?_ | (refine stp ?_; simp only [go_sem]) | (refine drawQ (id := 1) mixed [(0, []), (3, []), (7, []), (10, []), (1, []), (4, []), (5, []), (8, []), (11, []), (2, [4, 8, 11]), (6, [8, 11]), (9, [11]), (12, []), (13, []), (14, []), (15, []), (16, []), (17, []), (18, []), (19, []), (20, [])] (by kernel_rfl) ?_; simp only [go_sem]) | (refine drawQ (id := 14) mixed [(4, []), (1, []), (2, []), (3, []), (5, []), (0, [1, 2, 3, 5]), (6, [1, 2, 3]), (7, []), (8, []), (9, [])] (by kernel_rfl) ?_; simp only [go_sem]) | (refine Pure.at (hnm) (by simp) (by simp) rfl ?_; (try simp only [go_sem])) | (refine Pure.at (number_t _ _) (by simp) (by simp) rfl ?_; (try simp only [go_sem])) | (refine Pure.at (word_t _ _) (by simp) (by simp) rfl ?_; (try simp only [go_sem])) | (refine Pure.at (quoted_t _ _) (by simp) (by simp) rfl ?_; (try simp only [go_sem])) | (simp (disch := omega) only [wrap64E]) | (simp (disch := omega) only [wE]) | (refine spl (fun h => ?_) (fun h => ?_) <;> first | (exfalso; omega) | ((try simp only [opRun, opSkip, stepRun, pickZ]); (try simp only [go_sem, h]))) | (refine and_om ?_ ?_; focus omega))
  all_goals exact done_ef2 [29] (by simp) rfl (by simp [mA]) (by simp [bC])
theorem toks_7 (G : List Gl) (t u tz tp : TypeId) (v : List Value) (h3 : gFirst t ∈ G) (h4 : gAcc u ∈ G) (hv : v[15]? = some (.int .u8 4)) (hG : gTz v tz ∈ G) (hp : gPow tp ∈ G) (c : Cmd) (hd : c.doc.length ≤ 1000000000000) (hx : c.text.length ≤ 1000000000000) (hi : 0 ≤ c.id ∧ c.id ≤ 4294967295) (hg : 0 ≤ c.grav ∧ c.grav ≤ 255) (hk : c.kind = 7) : Eff G Tryz.prog 31 [.agg (cmdE c)] [] 0 (.tuple [.slice (some ⟨0, 0⟩) ((argL c).length + 1) ((argL c).length + 1), .bool true]) [(0, .cells (tokensE c) 72 0 true 0)] 1 := by
  obtain ⟨kd, dc, id, fr, to, tx, gr⟩ := c
  simp only at hk hd hx hi hg
  subst hk
  have hnm := name_c G t u tz tp v h3 h4 hv hG hp dc hd
  obtain ⟨kn, hkn⟩ := name_form dc
  rw [hkn] at hnm
  simp only [tkE] at hnm
  have hsg := shownG_c G gr
  obtain ⟨ga, gs, gb, hgf⟩ := shE_form gravL gr
  rw [hgf] at hsg
  have hgr := gravities_c G
  simp only [gravL, List.map] at hsg hgr
  have eA : argL ⟨7, dc, id, fr, to, tx, gr⟩ = [100, 105, 102, 103] := argL_of (by simp)
  have eT : tokensE ⟨7, dc, id, fr, to, tx, gr⟩ = woE [109, 97, 114, 107] ++ (tkE ⟨kn, 0, dc, 0⟩ ++ (nuE id ++ (nuE fr ++ ([.int .i64 ga, .int .i64 0, .str gs, .int .i64 gb] ++ ([]))))) := by
    unfold tokensE
    rw [eA, ← hkn, ← hgf]
    rfl
  rw [eA, eT]
  simp only [tkE, List.cons_append, List.nil_append, List.append_nil, List.length_cons, List.length_nil, Nat.zero_add]
  unfold Eff
  refine ecalls_in 124 [.tmp 2, .tmp 3] Tryz.func31 rfl rfl rfl (by kernel_rfl) (le_ble rfl) ?_
  repeat' (first | refine esem_seqK 42856741435326530745514074891616511 ?_ | refine esem_block ?_ | (refine stp ?_; simp only [go_sem]) | (refine drawQ (id := 1) mixed [(0, []), (3, []), (7, []), (10, []), (1, []), (4, []), (5, []), (8, []), (11, []), (2, [4, 8, 11]), (6, [8, 11]), (9, [11]), (12, []), (13, []), (14, []), (15, []), (16, []), (17, []), (18, []), (19, []), (20, [])] (by kernel_rfl) ?_; simp only [go_sem]) | (refine drawQ (id := 16) mixed [(5, []), (1, []), (2, []), (3, []), (6, []), (7, []), (0, [1, 2, 3, 6]), (4, [1, 2, 3, 6]), (8, [1, 2, 3]), (9, []), (10, []), (11, [])] (by kernel_rfl) ?_; simp only [go_sem]) | (refine Pure.at (hnm) (by simp) (by simp) rfl ?_; (try simp only [go_sem])) | (refine Pure.at (number_t _ _) (by simp) (by simp) rfl ?_; (try simp only [go_sem])) | (refine Pure.at (word_t _ _) (by simp) (by simp) rfl ?_; (try simp only [go_sem])) | (refine Pure.at (quoted_t _ _) (by simp) (by simp) rfl ?_; (try simp only [go_sem])) | (simp (disch := omega) only [wrap64E]) | (refine Eff.at2 (hgr ) [] rfl (by first | (simp; done) | (simp; omega) | (simp [bC]; done) | omega) rfl ?_; (try simp only [go_sem])) | (refine Eff.at2 (hsg ) [34] rfl (by first | (simp; done) | (simp; omega) | (simp [bC]; done) | omega) rfl ?_; (try simp only [go_sem])) | (simp (disch := omega) only [wE]) | (refine spl (fun h => ?_) (fun h => ?_) <;> first | (exfalso; omega) | ((try simp only [opRun, opSkip, stepRun, pickZ]); (try simp only [go_sem, h]))) | (refine and_om ?_ ?_; focus omega))
  all_goals exact done_ef2 [31] (by simp) rfl (by simp [mA]) (by simp [bC])
theorem toks_8 (G : List Gl) (t u tz tp : TypeId) (v : List Value) (h3 : gFirst t ∈ G) (h4 : gAcc u ∈ G) (hv : v[15]? = some (.int .u8 4)) (hG : gTz v tz ∈ G) (hp : gPow tp ∈ G) (c : Cmd) (hd : c.doc.length ≤ 1000000000000) (hx : c.text.length ≤ 1000000000000) (hi : 0 ≤ c.id ∧ c.id ≤ 4294967295) (hg : 0 ≤ c.grav ∧ c.grav ≤ 255) (hk : c.kind = 8) : Eff G Tryz.prog 31 [.agg (cmdE c)] [] 0 (.tuple [.slice (some ⟨0, 0⟩) ((argL c).length + 1) ((argL c).length + 1), .bool true]) [(0, .cells (tokensE c) 72 0 true 0)] 1 := by
  obtain ⟨kd, dc, id, fr, to, tx, gr⟩ := c
  simp only at hk hd hx hi hg
  subst hk
  have hnm := name_c G t u tz tp v h3 h4 hv hG hp dc hd
  obtain ⟨kn, hkn⟩ := name_form dc
  rw [hkn] at hnm
  simp only [tkE] at hnm
  have eA : argL ⟨8, dc, id, fr, to, tx, gr⟩ = [100, 105] := argL_of (by simp)
  have eT : tokensE ⟨8, dc, id, fr, to, tx, gr⟩ = woE [117, 110, 109, 97, 114, 107] ++ (tkE ⟨kn, 0, dc, 0⟩ ++ (nuE id ++ ([]))) := by
    unfold tokensE
    rw [eA, ← hkn]
    rfl
  rw [eA, eT]
  simp only [tkE, List.cons_append, List.nil_append, List.append_nil, List.length_cons, List.length_nil, Nat.zero_add]
  unfold Eff
  refine ecalls_in 124 [.tmp 2, .tmp 3] Tryz.func31 rfl rfl rfl (by kernel_rfl) (le_ble rfl) ?_
  repeat' (first | refine esem_seqK 42856741435326530745514074891616511 ?_ | refine esem_block ?_ | (refine stp ?_; simp only [go_sem]) | (refine drawQ (id := 1) mixed [(0, []), (3, []), (7, []), (10, []), (1, []), (4, []), (5, []), (8, []), (11, []), (2, [4, 8, 11]), (6, [8, 11]), (9, [11]), (12, []), (13, []), (14, []), (15, []), (16, []), (17, []), (18, []), (19, []), (20, [])] (by kernel_rfl) ?_; simp only [go_sem]) | (refine drawQ (id := 18) mixed [(1, []), (2, []), (0, [1, 2]), (3, []), (4, []), (5, [])] (by kernel_rfl) ?_; simp only [go_sem]) | (refine Pure.at (hnm) (by simp) (by simp) rfl ?_; (try simp only [go_sem])) | (refine Pure.at (number_t _ _) (by simp) (by simp) rfl ?_; (try simp only [go_sem])) | (refine Pure.at (word_t _ _) (by simp) (by simp) rfl ?_; (try simp only [go_sem])) | (refine Pure.at (quoted_t _ _) (by simp) (by simp) rfl ?_; (try simp only [go_sem])) | (simp (disch := omega) only [wrap64E]) | (simp (disch := omega) only [wE]) | (refine spl (fun h => ?_) (fun h => ?_) <;> first | (exfalso; omega) | ((try simp only [opRun, opSkip, stepRun, pickZ]); (try simp only [go_sem, h]))) | (refine and_om ?_ ?_; focus omega))
  all_goals exact done_ef2 [25] (by simp) rfl (by simp [mA]) (by simp [bC])
theorem toks_9 (G : List Gl) (t u tz tp : TypeId) (v : List Value) (h3 : gFirst t ∈ G) (h4 : gAcc u ∈ G) (hv : v[15]? = some (.int .u8 4)) (hG : gTz v tz ∈ G) (hp : gPow tp ∈ G) (c : Cmd) (hd : c.doc.length ≤ 1000000000000) (hx : c.text.length ≤ 1000000000000) (hi : 0 ≤ c.id ∧ c.id ≤ 4294967295) (hg : 0 ≤ c.grav ∧ c.grav ≤ 255) (hk : c.kind = 9) : Eff G Tryz.prog 31 [.agg (cmdE c)] [] 0 (.tuple [.slice (some ⟨0, 0⟩) ((argL c).length + 1) ((argL c).length + 1), .bool true]) [(0, .cells (tokensE c) 72 0 true 0)] 1 := by
  obtain ⟨kd, dc, id, fr, to, tx, gr⟩ := c
  simp only at hk hd hx hi hg
  subst hk
  have hnm := name_c G t u tz tp v h3 h4 hv hG hp dc hd
  obtain ⟨kn, hkn⟩ := name_form dc
  rw [hkn] at hnm
  simp only [tkE] at hnm
  have eA : argL ⟨9, dc, id, fr, to, tx, gr⟩ = [100, 105, 102, 116] := argL_of (by simp)
  have eT : tokensE ⟨9, dc, id, fr, to, tx, gr⟩ = woE [99, 117, 114, 115, 111, 114] ++ (tkE ⟨kn, 0, dc, 0⟩ ++ (nuE id ++ (nuE fr ++ (nuE to ++ ([]))))) := by
    unfold tokensE
    rw [eA, ← hkn]
    rfl
  rw [eA, eT]
  simp only [tkE, List.cons_append, List.nil_append, List.append_nil, List.length_cons, List.length_nil, Nat.zero_add]
  unfold Eff
  refine ecalls_in 124 [.tmp 2, .tmp 3] Tryz.func31 rfl rfl rfl (by kernel_rfl) (le_ble rfl) ?_
  repeat' (first | refine esem_seqK 42856741435326530745514074891616511 ?_ | refine esem_block ?_ | (refine stp ?_; simp only [go_sem]) | (refine drawQ (id := 1) mixed [(0, []), (3, []), (7, []), (10, []), (1, []), (4, []), (5, []), (8, []), (11, []), (2, [4, 8, 11]), (6, [8, 11]), (9, [11]), (12, []), (13, []), (14, []), (15, []), (16, []), (17, []), (18, []), (19, []), (20, [])] (by kernel_rfl) ?_; simp only [go_sem]) | (refine drawQ (id := 20) mixed [(1, []), (2, []), (3, []), (4, []), (0, [1, 2, 3, 4]), (5, []), (6, []), (7, [])] (by kernel_rfl) ?_; simp only [go_sem]) | (refine Pure.at (hnm) (by simp) (by simp) rfl ?_; (try simp only [go_sem])) | (refine Pure.at (number_t _ _) (by simp) (by simp) rfl ?_; (try simp only [go_sem])) | (refine Pure.at (word_t _ _) (by simp) (by simp) rfl ?_; (try simp only [go_sem])) | (refine Pure.at (quoted_t _ _) (by simp) (by simp) rfl ?_; (try simp only [go_sem])) | (simp (disch := omega) only [wrap64E]) | (simp (disch := omega) only [wE]) | (refine spl (fun h => ?_) (fun h => ?_) <;> first | (exfalso; omega) | ((try simp only [opRun, opSkip, stepRun, pickZ]); (try simp only [go_sem, h]))) | (refine and_om ?_ ?_; focus omega))
  all_goals exact done_ef2 [27] (by simp) rfl (by simp [mA]) (by simp [bC])
theorem toks_10 (G : List Gl) (t u tz tp : TypeId) (v : List Value) (h3 : gFirst t ∈ G) (h4 : gAcc u ∈ G) (hv : v[15]? = some (.int .u8 4)) (hG : gTz v tz ∈ G) (hp : gPow tp ∈ G) (c : Cmd) (hd : c.doc.length ≤ 1000000000000) (hx : c.text.length ≤ 1000000000000) (hi : 0 ≤ c.id ∧ c.id ≤ 4294967295) (hg : 0 ≤ c.grav ∧ c.grav ≤ 255) (hk : c.kind = 10) : Eff G Tryz.prog 31 [.agg (cmdE c)] [] 0 (.tuple [.slice (some ⟨0, 0⟩) ((argL c).length + 1) ((argL c).length + 1), .bool true]) [(0, .cells (tokensE c) 72 0 true 0)] 1 := by
  obtain ⟨kd, dc, id, fr, to, tx, gr⟩ := c
  simp only at hk hd hx hi hg
  subst hk
  have hnm := name_c G t u tz tp v h3 h4 hv hG hp dc hd
  obtain ⟨kn, hkn⟩ := name_form dc
  rw [hkn] at hnm
  simp only [tkE] at hnm
  have hsm := shownM_c G fr
  obtain ⟨ma, ms, mb, hmf⟩ := shE_form motL fr
  rw [hmf] at hsm
  have hmo := motions_c G
  simp only [motL, List.map] at hsm hmo
  have eA : argL ⟨10, dc, id, fr, to, tx, gr⟩ = [100, 105, 109, 116] := argL_of (by simp)
  have eT : tokensE ⟨10, dc, id, fr, to, tx, gr⟩ = woE [109, 111, 118, 101] ++ (tkE ⟨kn, 0, dc, 0⟩ ++ (nuE id ++ ([.int .i64 ma, .int .i64 0, .str ms, .int .i64 mb] ++ (nuE to ++ ([]))))) := by
    unfold tokensE
    rw [eA, ← hkn, ← hmf]
    rfl
  rw [eA, eT]
  simp only [tkE, List.cons_append, List.nil_append, List.append_nil, List.length_cons, List.length_nil, Nat.zero_add]
  unfold Eff
  refine ecalls_in 124 [.tmp 2, .tmp 3] Tryz.func31 rfl rfl rfl (by kernel_rfl) (le_ble rfl) ?_
  repeat' (first | refine esem_seqK 42856741435326530745514074891616511 ?_ | refine esem_block ?_ | (refine stp ?_; simp only [go_sem]) | (refine drawQ (id := 1) mixed [(0, []), (3, []), (7, []), (10, []), (1, []), (4, []), (5, []), (8, []), (11, []), (2, [4, 8, 11]), (6, [8, 11]), (9, [11]), (12, []), (13, []), (14, []), (15, []), (16, []), (17, []), (18, []), (19, []), (20, [])] (by kernel_rfl) ?_; simp only [go_sem]) | (refine drawQ (id := 22) mixed [(4, []), (1, []), (2, []), (5, []), (7, []), (0, [1, 2, 5, 7]), (3, [1, 2, 5, 7]), (6, [1, 2, 7]), (8, []), (9, []), (10, [])] (by kernel_rfl) ?_; simp only [go_sem]) | (refine Pure.at (hnm) (by simp) (by simp) rfl ?_; (try simp only [go_sem])) | (refine Pure.at (number_t _ _) (by simp) (by simp) rfl ?_; (try simp only [go_sem])) | (refine Pure.at (word_t _ _) (by simp) (by simp) rfl ?_; (try simp only [go_sem])) | (refine Pure.at (quoted_t _ _) (by simp) (by simp) rfl ?_; (try simp only [go_sem])) | (simp (disch := omega) only [wrap64E]) | (refine Eff.at2 (hmo ) [] rfl (by first | (simp; done) | (simp; omega) | (simp [bC]; done) | omega) rfl ?_; (try simp only [go_sem])) | (refine Eff.at2 (hsm ) [33] rfl (by first | (simp; done) | (simp; omega) | (simp [bC]; done) | omega) rfl ?_; (try simp only [go_sem])) | (simp (disch := omega) only [wE]) | (refine spl (fun h => ?_) (fun h => ?_) <;> first | (exfalso; omega) | ((try simp only [opRun, opSkip, stepRun, pickZ]); (try simp only [go_sem, h]))) | (refine and_om ?_ ?_; focus omega))
  all_goals exact done_ef2 [30] (by simp) rfl (by simp [mA]) (by simp [bC])
theorem toks_11 (G : List Gl) (t u tz tp : TypeId) (v : List Value) (h3 : gFirst t ∈ G) (h4 : gAcc u ∈ G) (hv : v[15]? = some (.int .u8 4)) (hG : gTz v tz ∈ G) (hp : gPow tp ∈ G) (c : Cmd) (hd : c.doc.length ≤ 1000000000000) (hx : c.text.length ≤ 1000000000000) (hi : 0 ≤ c.id ∧ c.id ≤ 4294967295) (hg : 0 ≤ c.grav ∧ c.grav ≤ 255) (hk : c.kind = 11) : Eff G Tryz.prog 31 [.agg (cmdE c)] [] 0 (.tuple [.slice (some ⟨0, 0⟩) ((argL c).length + 1) ((argL c).length + 1), .bool true]) [(0, .cells (tokensE c) 72 0 true 0)] 1 := by
  obtain ⟨kd, dc, id, fr, to, tx, gr⟩ := c
  simp only at hk hd hx hi hg
  subst hk
  have hnm := name_c G t u tz tp v h3 h4 hv hG hp dc hd
  obtain ⟨kn, hkn⟩ := name_form dc
  rw [hkn] at hnm
  simp only [tkE] at hnm
  have eA : argL ⟨11, dc, id, fr, to, tx, gr⟩ = [100, 105] := argL_of (by simp)
  have eT : tokensE ⟨11, dc, id, fr, to, tx, gr⟩ = woE [117, 110, 99, 117, 114, 115, 111, 114] ++ (tkE ⟨kn, 0, dc, 0⟩ ++ (nuE id ++ ([]))) := by
    unfold tokensE
    rw [eA, ← hkn]
    rfl
  rw [eA, eT]
  simp only [tkE, List.cons_append, List.nil_append, List.append_nil, List.length_cons, List.length_nil, Nat.zero_add]
  unfold Eff
  refine ecalls_in 124 [.tmp 2, .tmp 3] Tryz.func31 rfl rfl rfl (by kernel_rfl) (le_ble rfl) ?_
  repeat' (first | refine esem_seqK 42856741435326530745514074891616511 ?_ | refine esem_block ?_ | (refine stp ?_; simp only [go_sem]) | (refine drawQ (id := 1) mixed [(0, []), (3, []), (7, []), (10, []), (1, []), (4, []), (5, []), (8, []), (11, []), (2, [4, 8, 11]), (6, [8, 11]), (9, [11]), (12, []), (13, []), (14, []), (15, []), (16, []), (17, []), (18, []), (19, []), (20, [])] (by kernel_rfl) ?_; simp only [go_sem]) | (refine drawQ (id := 24) mixed [(1, []), (2, []), (0, [1, 2]), (3, []), (4, []), (5, [])] (by kernel_rfl) ?_; simp only [go_sem]) | (refine Pure.at (hnm) (by simp) (by simp) rfl ?_; (try simp only [go_sem])) | (refine Pure.at (number_t _ _) (by simp) (by simp) rfl ?_; (try simp only [go_sem])) | (refine Pure.at (word_t _ _) (by simp) (by simp) rfl ?_; (try simp only [go_sem])) | (refine Pure.at (quoted_t _ _) (by simp) (by simp) rfl ?_; (try simp only [go_sem])) | (simp (disch := omega) only [wrap64E]) | (simp (disch := omega) only [wE]) | (refine spl (fun h => ?_) (fun h => ?_) <;> first | (exfalso; omega) | ((try simp only [opRun, opSkip, stepRun, pickZ]); (try simp only [go_sem, h]))) | (refine and_om ?_ ?_; focus omega))
  all_goals exact done_ef2 [25] (by simp) rfl (by simp [mA]) (by simp [bC])
theorem toks_12 (G : List Gl) (t u tz tp : TypeId) (v : List Value) (h3 : gFirst t ∈ G) (h4 : gAcc u ∈ G) (hv : v[15]? = some (.int .u8 4)) (hG : gTz v tz ∈ G) (hp : gPow tp ∈ G) (c : Cmd) (hd : c.doc.length ≤ 1000000000000) (hx : c.text.length ≤ 1000000000000) (hi : 0 ≤ c.id ∧ c.id ≤ 4294967295) (hg : 0 ≤ c.grav ∧ c.grav ≤ 255) (hk : c.kind = 12) : Eff G Tryz.prog 31 [.agg (cmdE c)] [] 0 (.tuple [.slice (some ⟨0, 0⟩) ((argL c).length + 1) ((argL c).length + 1), .bool true]) [(0, .cells (tokensE c) 72 0 true 0)] 1 := by
  obtain ⟨kd, dc, id, fr, to, tx, gr⟩ := c
  simp only at hk hd hx hi hg
  subst hk
  have hnm := name_c G t u tz tp v h3 h4 hv hG hp dc hd
  obtain ⟨kn, hkn⟩ := name_form dc
  rw [hkn] at hnm
  simp only [tkE] at hnm
  have eA : argL ⟨12, dc, id, fr, to, tx, gr⟩ = [100] := argL_of (by simp)
  have eT : tokensE ⟨12, dc, id, fr, to, tx, gr⟩ = woE [117, 110, 100, 111] ++ (tkE ⟨kn, 0, dc, 0⟩ ++ ([])) := by
    unfold tokensE
    rw [eA, ← hkn]
    rfl
  rw [eA, eT]
  simp only [tkE, List.cons_append, List.nil_append, List.append_nil, List.length_cons, List.length_nil, Nat.zero_add]
  unfold Eff
  refine ecalls_in 124 [.tmp 2, .tmp 3] Tryz.func31 rfl rfl rfl (by kernel_rfl) (le_ble rfl) ?_
  repeat' (first | refine esem_seqK 42856741435326530745514074891616511 ?_ | refine esem_block ?_ | (refine stp ?_; simp only [go_sem]) | (refine drawQ (id := 1) mixed [(0, []), (3, []), (7, []), (10, []), (1, []), (4, []), (5, []), (8, []), (11, []), (2, [4, 8, 11]), (6, [8, 11]), (9, [11]), (12, []), (13, []), (14, []), (15, []), (16, []), (17, []), (18, []), (19, []), (20, [])] (by kernel_rfl) ?_; simp only [go_sem]) | (refine drawQ (id := 26) mixed [(1, []), (0, [1]), (2, []), (3, []), (4, [])] (by kernel_rfl) ?_; simp only [go_sem]) | (refine Pure.at (hnm) (by simp) (by simp) rfl ?_; (try simp only [go_sem])) | (refine Pure.at (number_t _ _) (by simp) (by simp) rfl ?_; (try simp only [go_sem])) | (refine Pure.at (word_t _ _) (by simp) (by simp) rfl ?_; (try simp only [go_sem])) | (refine Pure.at (quoted_t _ _) (by simp) (by simp) rfl ?_; (try simp only [go_sem])) | (simp (disch := omega) only [wrap64E]) | (simp (disch := omega) only [wE]) | (refine spl (fun h => ?_) (fun h => ?_) <;> first | (exfalso; omega) | ((try simp only [opRun, opSkip, stepRun, pickZ]); (try simp only [go_sem, h]))) | (refine and_om ?_ ?_; focus omega))
  all_goals exact done_ef2 [24] (by simp) rfl (by simp [mA]) (by simp [bC])
theorem toks_13 (G : List Gl) (t u tz tp : TypeId) (v : List Value) (h3 : gFirst t ∈ G) (h4 : gAcc u ∈ G) (hv : v[15]? = some (.int .u8 4)) (hG : gTz v tz ∈ G) (hp : gPow tp ∈ G) (c : Cmd) (hd : c.doc.length ≤ 1000000000000) (hx : c.text.length ≤ 1000000000000) (hi : 0 ≤ c.id ∧ c.id ≤ 4294967295) (hg : 0 ≤ c.grav ∧ c.grav ≤ 255) (hk : c.kind = 13) : Eff G Tryz.prog 31 [.agg (cmdE c)] [] 0 (.tuple [.slice (some ⟨0, 0⟩) ((argL c).length + 1) ((argL c).length + 1), .bool true]) [(0, .cells (tokensE c) 72 0 true 0)] 1 := by
  obtain ⟨kd, dc, id, fr, to, tx, gr⟩ := c
  simp only at hk hd hx hi hg
  subst hk
  have hnm := name_c G t u tz tp v h3 h4 hv hG hp dc hd
  obtain ⟨kn, hkn⟩ := name_form dc
  rw [hkn] at hnm
  simp only [tkE] at hnm
  have eA : argL ⟨13, dc, id, fr, to, tx, gr⟩ = [100] := argL_of (by simp)
  have eT : tokensE ⟨13, dc, id, fr, to, tx, gr⟩ = woE [114, 101, 100, 111] ++ (tkE ⟨kn, 0, dc, 0⟩ ++ ([])) := by
    unfold tokensE
    rw [eA, ← hkn]
    rfl
  rw [eA, eT]
  simp only [tkE, List.cons_append, List.nil_append, List.append_nil, List.length_cons, List.length_nil, Nat.zero_add]
  unfold Eff
  refine ecalls_in 124 [.tmp 2, .tmp 3] Tryz.func31 rfl rfl rfl (by kernel_rfl) (le_ble rfl) ?_
  repeat' (first | refine esem_seqK 42856741435326530745514074891616511 ?_ | refine esem_block ?_ | (refine stp ?_; simp only [go_sem]) | (refine drawQ (id := 1) mixed [(0, []), (3, []), (7, []), (10, []), (1, []), (4, []), (5, []), (8, []), (11, []), (2, [4, 8, 11]), (6, [8, 11]), (9, [11]), (12, []), (13, []), (14, []), (15, []), (16, []), (17, []), (18, []), (19, []), (20, [])] (by kernel_rfl) ?_; simp only [go_sem]) | (refine drawQ (id := 28) mixed [(1, []), (0, [1]), (2, []), (3, []), (4, [])] (by kernel_rfl) ?_; simp only [go_sem]) | (refine Pure.at (hnm) (by simp) (by simp) rfl ?_; (try simp only [go_sem])) | (refine Pure.at (number_t _ _) (by simp) (by simp) rfl ?_; (try simp only [go_sem])) | (refine Pure.at (word_t _ _) (by simp) (by simp) rfl ?_; (try simp only [go_sem])) | (refine Pure.at (quoted_t _ _) (by simp) (by simp) rfl ?_; (try simp only [go_sem])) | (simp (disch := omega) only [wrap64E]) | (simp (disch := omega) only [wE]) | (refine spl (fun h => ?_) (fun h => ?_) <;> first | (exfalso; omega) | ((try simp only [opRun, opSkip, stepRun, pickZ]); (try simp only [go_sem, h]))) | (refine and_om ?_ ?_; focus omega))
  all_goals exact done_ef2 [24] (by simp) rfl (by simp [mA]) (by simp [bC])
theorem toks_14 (G : List Gl) (t u tz tp : TypeId) (v : List Value) (h3 : gFirst t ∈ G) (h4 : gAcc u ∈ G) (hv : v[15]? = some (.int .u8 4)) (hG : gTz v tz ∈ G) (hp : gPow tp ∈ G) (c : Cmd) (hd : c.doc.length ≤ 1000000000000) (hx : c.text.length ≤ 1000000000000) (hi : 0 ≤ c.id ∧ c.id ≤ 4294967295) (hg : 0 ≤ c.grav ∧ c.grav ≤ 255) (hk : c.kind = 14) : Eff G Tryz.prog 31 [.agg (cmdE c)] [] 0 (.tuple [.slice (some ⟨0, 0⟩) ((argL c).length + 1) ((argL c).length + 1), .bool true]) [(0, .cells (tokensE c) 72 0 true 0)] 1 := by
  have ha := asks_14 G t u tz tp v h3 h4 hv hG hp c hd hx hi hg hk
  obtain ⟨kd, dc, id, fr, to, tx, gr⟩ := c
  simp only at hk hd hx hi hg
  subst hk
  have hnm := name_c G t u tz tp v h3 h4 hv hG hp dc hd
  obtain ⟨kn, hkn⟩ := name_form dc
  rw [hkn] at hnm
  simp only [tkE] at hnm
  unfold Eff
  refine ecalls_in 124 [.tmp 2, .tmp 3] Tryz.func31 rfl rfl rfl (by kernel_rfl) (le_ble rfl) ?_
  repeat' (first | refine esem_seqK 42856741435326530745514074891616511 ?_ | refine esem_block ?_ | (refine stp ?_; simp only [go_sem]) | (refine drawQ (id := 1) mixed [(0, []), (3, []), (7, []), (10, []), (1, []), (4, []), (5, []), (8, []), (11, []), (2, [4, 8, 11]), (6, [8, 11]), (9, [11]), (12, []), (13, []), (14, []), (15, []), (16, []), (17, []), (18, []), (19, []), (20, [])] (by kernel_rfl) ?_; simp only [go_sem]) | (refine drawQ (id := 4) mixed [(1, []), (0, [1]), (2, []), (3, []), (4, [])] (by kernel_rfl) ?_; simp only [go_sem]) | (refine drawQ (id := 6) mixed [(1, []), (0, [1]), (2, []), (3, []), (4, [])] (by kernel_rfl) ?_; simp only [go_sem]) | (refine drawQ (id := 8) mixed [(2, []), (1, []), (3, []), (0, [1, 3]), (4, [1]), (5, []), (6, []), (7, [])] (by kernel_rfl) ?_; simp only [go_sem]) | (refine drawQ (id := 10) mixed [(3, []), (1, []), (2, []), (4, []), (0, [1, 2, 4]), (5, [1, 2]), (6, []), (7, []), (8, [])] (by kernel_rfl) ?_; simp only [go_sem]) | (refine drawQ (id := 12) mixed [(1, []), (2, []), (3, []), (0, [1, 2, 3]), (4, []), (5, []), (6, [])] (by kernel_rfl) ?_; simp only [go_sem]) | (refine drawQ (id := 14) mixed [(4, []), (1, []), (2, []), (3, []), (5, []), (0, [1, 2, 3, 5]), (6, [1, 2, 3]), (7, []), (8, []), (9, [])] (by kernel_rfl) ?_; simp only [go_sem]) | (refine drawQ (id := 16) mixed [(5, []), (1, []), (2, []), (3, []), (6, []), (7, []), (0, [1, 2, 3, 6]), (4, [1, 2, 3, 6]), (8, [1, 2, 3]), (9, []), (10, []), (11, [])] (by kernel_rfl) ?_; simp only [go_sem]) | (refine drawQ (id := 18) mixed [(1, []), (2, []), (0, [1, 2]), (3, []), (4, []), (5, [])] (by kernel_rfl) ?_; simp only [go_sem]) | (refine drawQ (id := 20) mixed [(1, []), (2, []), (3, []), (4, []), (0, [1, 2, 3, 4]), (5, []), (6, []), (7, [])] (by kernel_rfl) ?_; simp only [go_sem]) | (refine drawQ (id := 22) mixed [(4, []), (1, []), (2, []), (5, []), (7, []), (0, [1, 2, 5, 7]), (3, [1, 2, 5, 7]), (6, [1, 2, 7]), (8, []), (9, []), (10, [])] (by kernel_rfl) ?_; simp only [go_sem]) | (refine drawQ (id := 24) mixed [(1, []), (2, []), (0, [1, 2]), (3, []), (4, []), (5, [])] (by kernel_rfl) ?_; simp only [go_sem]) | (refine drawQ (id := 26) mixed [(1, []), (0, [1]), (2, []), (3, []), (4, [])] (by kernel_rfl) ?_; simp only [go_sem]) | (refine drawQ (id := 28) mixed [(1, []), (0, [1]), (2, []), (3, []), (4, [])] (by kernel_rfl) ?_; simp only [go_sem]) | (refine Pure.at (hnm) (by simp) (by simp) rfl ?_; (try simp only [go_sem])) | (refine Pure.at (number_t _ _) (by simp) (by simp) rfl ?_; (try simp only [go_sem])) | (refine Pure.at (word_t _ _) (by simp) (by simp) rfl ?_; (try simp only [go_sem])) | (simp (disch := omega) only [wrap64E]) | (refine Eff.at2 (ha ) [] rfl (by first | (simp; done) | (simp; omega) | (simp [bC]; done) | omega) rfl ?_; (try simp only [go_sem])) | (simp (disch := omega) only [wE]) | (refine spl (fun h => ?_) (fun h => ?_) <;> first | (exfalso; omega) | ((try simp only [opRun, opSkip, stepRun, pickZ]); (try simp only [go_sem, h]))) | (refine and_om ?_ ?_; focus omega))
  all_goals exact done_ef2 [22] (by simp) rfl (by simp [mA]) (by simp [bC])
theorem toks_15 (G : List Gl) (t u tz tp : TypeId) (v : List Value) (h3 : gFirst t ∈ G) (h4 : gAcc u ∈ G) (hv : v[15]? = some (.int .u8 4)) (hG : gTz v tz ∈ G) (hp : gPow tp ∈ G) (c : Cmd) (hd : c.doc.length ≤ 1000000000000) (hx : c.text.length ≤ 1000000000000) (hi : 0 ≤ c.id ∧ c.id ≤ 4294967295) (hg : 0 ≤ c.grav ∧ c.grav ≤ 255) (hk : c.kind = 15) : Eff G Tryz.prog 31 [.agg (cmdE c)] [] 0 (.tuple [.slice (some ⟨0, 0⟩) ((argL c).length + 1) ((argL c).length + 1), .bool true]) [(0, .cells (tokensE c) 72 0 true 0)] 1 := by
  have ha := asks_15 G t u tz tp v h3 h4 hv hG hp c hd hx hi hg hk
  obtain ⟨kd, dc, id, fr, to, tx, gr⟩ := c
  simp only at hk hd hx hi hg
  subst hk
  have hnm := name_c G t u tz tp v h3 h4 hv hG hp dc hd
  obtain ⟨kn, hkn⟩ := name_form dc
  rw [hkn] at hnm
  simp only [tkE] at hnm
  unfold Eff
  refine ecalls_in 124 [.tmp 2, .tmp 3] Tryz.func31 rfl rfl rfl (by kernel_rfl) (le_ble rfl) ?_
  repeat' (first | refine esem_seqK 42856741435326530745514074891616511 ?_ | refine esem_block ?_ | (refine stp ?_; simp only [go_sem]) | (refine drawQ (id := 1) mixed [(0, []), (3, []), (7, []), (10, []), (1, []), (4, []), (5, []), (8, []), (11, []), (2, [4, 8, 11]), (6, [8, 11]), (9, [11]), (12, []), (13, []), (14, []), (15, []), (16, []), (17, []), (18, []), (19, []), (20, [])] (by kernel_rfl) ?_; simp only [go_sem]) | (refine drawQ (id := 4) mixed [(1, []), (0, [1]), (2, []), (3, []), (4, [])] (by kernel_rfl) ?_; simp only [go_sem]) | (refine drawQ (id := 6) mixed [(1, []), (0, [1]), (2, []), (3, []), (4, [])] (by kernel_rfl) ?_; simp only [go_sem]) | (refine drawQ (id := 8) mixed [(2, []), (1, []), (3, []), (0, [1, 3]), (4, [1]), (5, []), (6, []), (7, [])] (by kernel_rfl) ?_; simp only [go_sem]) | (refine drawQ (id := 10) mixed [(3, []), (1, []), (2, []), (4, []), (0, [1, 2, 4]), (5, [1, 2]), (6, []), (7, []), (8, [])] (by kernel_rfl) ?_; simp only [go_sem]) | (refine drawQ (id := 12) mixed [(1, []), (2, []), (3, []), (0, [1, 2, 3]), (4, []), (5, []), (6, [])] (by kernel_rfl) ?_; simp only [go_sem]) | (refine drawQ (id := 14) mixed [(4, []), (1, []), (2, []), (3, []), (5, []), (0, [1, 2, 3, 5]), (6, [1, 2, 3]), (7, []), (8, []), (9, [])] (by kernel_rfl) ?_; simp only [go_sem]) | (refine drawQ (id := 16) mixed [(5, []), (1, []), (2, []), (3, []), (6, []), (7, []), (0, [1, 2, 3, 6]), (4, [1, 2, 3, 6]), (8, [1, 2, 3]), (9, []), (10, []), (11, [])] (by kernel_rfl) ?_; simp only [go_sem]) | (refine drawQ (id := 18) mixed [(1, []), (2, []), (0, [1, 2]), (3, []), (4, []), (5, [])] (by kernel_rfl) ?_; simp only [go_sem]) | (refine drawQ (id := 20) mixed [(1, []), (2, []), (3, []), (4, []), (0, [1, 2, 3, 4]), (5, []), (6, []), (7, [])] (by kernel_rfl) ?_; simp only [go_sem]) | (refine drawQ (id := 22) mixed [(4, []), (1, []), (2, []), (5, []), (7, []), (0, [1, 2, 5, 7]), (3, [1, 2, 5, 7]), (6, [1, 2, 7]), (8, []), (9, []), (10, [])] (by kernel_rfl) ?_; simp only [go_sem]) | (refine drawQ (id := 24) mixed [(1, []), (2, []), (0, [1, 2]), (3, []), (4, []), (5, [])] (by kernel_rfl) ?_; simp only [go_sem]) | (refine drawQ (id := 26) mixed [(1, []), (0, [1]), (2, []), (3, []), (4, [])] (by kernel_rfl) ?_; simp only [go_sem]) | (refine drawQ (id := 28) mixed [(1, []), (0, [1]), (2, []), (3, []), (4, [])] (by kernel_rfl) ?_; simp only [go_sem]) | (refine Pure.at (hnm) (by simp) (by simp) rfl ?_; (try simp only [go_sem])) | (refine Pure.at (number_t _ _) (by simp) (by simp) rfl ?_; (try simp only [go_sem])) | (refine Pure.at (word_t _ _) (by simp) (by simp) rfl ?_; (try simp only [go_sem])) | (simp (disch := omega) only [wrap64E]) | (refine Eff.at2 (ha ) [] rfl (by first | (simp; done) | (simp; omega) | (simp [bC]; done) | omega) rfl ?_; (try simp only [go_sem])) | (simp (disch := omega) only [wE]) | (refine spl (fun h => ?_) (fun h => ?_) <;> first | (exfalso; omega) | ((try simp only [opRun, opSkip, stepRun, pickZ]); (try simp only [go_sem, h]))) | (refine and_om ?_ ?_; focus omega))
  all_goals exact done_ef2 [22] (by simp) rfl (by simp [mA]) (by simp [bC])
theorem toks_16 (G : List Gl) (t u tz tp : TypeId) (v : List Value) (h3 : gFirst t ∈ G) (h4 : gAcc u ∈ G) (hv : v[15]? = some (.int .u8 4)) (hG : gTz v tz ∈ G) (hp : gPow tp ∈ G) (c : Cmd) (hd : c.doc.length ≤ 1000000000000) (hx : c.text.length ≤ 1000000000000) (hi : 0 ≤ c.id ∧ c.id ≤ 4294967295) (hg : 0 ≤ c.grav ∧ c.grav ≤ 255) (hk : c.kind = 16) : Eff G Tryz.prog 31 [.agg (cmdE c)] [] 0 (.tuple [.slice (some ⟨0, 0⟩) ((argL c).length + 1) ((argL c).length + 1), .bool true]) [(0, .cells (tokensE c) 72 0 true 0)] 1 := by
  have ha := asks_16 G t u tz tp v h3 h4 hv hG hp c hd hx hi hg hk
  obtain ⟨kd, dc, id, fr, to, tx, gr⟩ := c
  simp only at hk hd hx hi hg
  subst hk
  have hnm := name_c G t u tz tp v h3 h4 hv hG hp dc hd
  obtain ⟨kn, hkn⟩ := name_form dc
  rw [hkn] at hnm
  simp only [tkE] at hnm
  unfold Eff
  refine ecalls_in 124 [.tmp 2, .tmp 3] Tryz.func31 rfl rfl rfl (by kernel_rfl) (le_ble rfl) ?_
  repeat' (first | refine esem_seqK 42856741435326530745514074891616511 ?_ | refine esem_block ?_ | (refine stp ?_; simp only [go_sem]) | (refine drawQ (id := 1) mixed [(0, []), (3, []), (7, []), (10, []), (1, []), (4, []), (5, []), (8, []), (11, []), (2, [4, 8, 11]), (6, [8, 11]), (9, [11]), (12, []), (13, []), (14, []), (15, []), (16, []), (17, []), (18, []), (19, []), (20, [])] (by kernel_rfl) ?_; simp only [go_sem]) | (refine drawQ (id := 4) mixed [(1, []), (0, [1]), (2, []), (3, []), (4, [])] (by kernel_rfl) ?_; simp only [go_sem]) | (refine drawQ (id := 6) mixed [(1, []), (0, [1]), (2, []), (3, []), (4, [])] (by kernel_rfl) ?_; simp only [go_sem]) | (refine drawQ (id := 8) mixed [(2, []), (1, []), (3, []), (0, [1, 3]), (4, [1]), (5, []), (6, []), (7, [])] (by kernel_rfl) ?_; simp only [go_sem]) | (refine drawQ (id := 10) mixed [(3, []), (1, []), (2, []), (4, []), (0, [1, 2, 4]), (5, [1, 2]), (6, []), (7, []), (8, [])] (by kernel_rfl) ?_; simp only [go_sem]) | (refine drawQ (id := 12) mixed [(1, []), (2, []), (3, []), (0, [1, 2, 3]), (4, []), (5, []), (6, [])] (by kernel_rfl) ?_; simp only [go_sem]) | (refine drawQ (id := 14) mixed [(4, []), (1, []), (2, []), (3, []), (5, []), (0, [1, 2, 3, 5]), (6, [1, 2, 3]), (7, []), (8, []), (9, [])] (by kernel_rfl) ?_; simp only [go_sem]) | (refine drawQ (id := 16) mixed [(5, []), (1, []), (2, []), (3, []), (6, []), (7, []), (0, [1, 2, 3, 6]), (4, [1, 2, 3, 6]), (8, [1, 2, 3]), (9, []), (10, []), (11, [])] (by kernel_rfl) ?_; simp only [go_sem]) | (refine drawQ (id := 18) mixed [(1, []), (2, []), (0, [1, 2]), (3, []), (4, []), (5, [])] (by kernel_rfl) ?_; simp only [go_sem]) | (refine drawQ (id := 20) mixed [(1, []), (2, []), (3, []), (4, []), (0, [1, 2, 3, 4]), (5, []), (6, []), (7, [])] (by kernel_rfl) ?_; simp only [go_sem]) | (refine drawQ (id := 22) mixed [(4, []), (1, []), (2, []), (5, []), (7, []), (0, [1, 2, 5, 7]), (3, [1, 2, 5, 7]), (6, [1, 2, 7]), (8, []), (9, []), (10, [])] (by kernel_rfl) ?_; simp only [go_sem]) | (refine drawQ (id := 24) mixed [(1, []), (2, []), (0, [1, 2]), (3, []), (4, []), (5, [])] (by kernel_rfl) ?_; simp only [go_sem]) | (refine drawQ (id := 26) mixed [(1, []), (0, [1]), (2, []), (3, []), (4, [])] (by kernel_rfl) ?_; simp only [go_sem]) | (refine drawQ (id := 28) mixed [(1, []), (0, [1]), (2, []), (3, []), (4, [])] (by kernel_rfl) ?_; simp only [go_sem]) | (refine Pure.at (hnm) (by simp) (by simp) rfl ?_; (try simp only [go_sem])) | (refine Pure.at (number_t _ _) (by simp) (by simp) rfl ?_; (try simp only [go_sem])) | (refine Pure.at (word_t _ _) (by simp) (by simp) rfl ?_; (try simp only [go_sem])) | (simp (disch := omega) only [wrap64E]) | (refine Eff.at2 (ha ) [] rfl (by first | (simp; done) | (simp; omega) | (simp [bC]; done) | omega) rfl ?_; (try simp only [go_sem])) | (simp (disch := omega) only [wE]) | (refine spl (fun h => ?_) (fun h => ?_) <;> first | (exfalso; omega) | ((try simp only [opRun, opSkip, stepRun, pickZ]); (try simp only [go_sem, h]))) | (refine and_om ?_ ?_; focus omega))
  all_goals exact done_ef2 [22] (by simp) rfl (by simp [mA]) (by simp [bC])
theorem toks_17 (G : List Gl) (t u tz tp : TypeId) (v : List Value) (h3 : gFirst t ∈ G) (h4 : gAcc u ∈ G) (hv : v[15]? = some (.int .u8 4)) (hG : gTz v tz ∈ G) (hp : gPow tp ∈ G) (c : Cmd) (hd : c.doc.length ≤ 1000000000000) (hx : c.text.length ≤ 1000000000000) (hi : 0 ≤ c.id ∧ c.id ≤ 4294967295) (hg : 0 ≤ c.grav ∧ c.grav ≤ 255) (hk : c.kind = 17) : Eff G Tryz.prog 31 [.agg (cmdE c)] [] 0 (.tuple [.slice (some ⟨0, 0⟩) ((argL c).length + 1) ((argL c).length + 1), .bool true]) [(0, .cells (tokensE c) 72 0 true 0)] 1 := by
  have ha := asks_17 G t u tz tp v h3 h4 hv hG hp c hd hx hi hg hk
  obtain ⟨kd, dc, id, fr, to, tx, gr⟩ := c
  simp only at hk hd hx hi hg
  subst hk
  have hnm := name_c G t u tz tp v h3 h4 hv hG hp dc hd
  obtain ⟨kn, hkn⟩ := name_form dc
  rw [hkn] at hnm
  simp only [tkE] at hnm
  unfold Eff
  refine ecalls_in 124 [.tmp 2, .tmp 3] Tryz.func31 rfl rfl rfl (by kernel_rfl) (le_ble rfl) ?_
  repeat' (first | refine esem_seqK 42856741435326530745514074891616511 ?_ | refine esem_block ?_ | (refine stp ?_; simp only [go_sem]) | (refine drawQ (id := 1) mixed [(0, []), (3, []), (7, []), (10, []), (1, []), (4, []), (5, []), (8, []), (11, []), (2, [4, 8, 11]), (6, [8, 11]), (9, [11]), (12, []), (13, []), (14, []), (15, []), (16, []), (17, []), (18, []), (19, []), (20, [])] (by kernel_rfl) ?_; simp only [go_sem]) | (refine drawQ (id := 4) mixed [(1, []), (0, [1]), (2, []), (3, []), (4, [])] (by kernel_rfl) ?_; simp only [go_sem]) | (refine drawQ (id := 6) mixed [(1, []), (0, [1]), (2, []), (3, []), (4, [])] (by kernel_rfl) ?_; simp only [go_sem]) | (refine drawQ (id := 8) mixed [(2, []), (1, []), (3, []), (0, [1, 3]), (4, [1]), (5, []), (6, []), (7, [])] (by kernel_rfl) ?_; simp only [go_sem]) | (refine drawQ (id := 10) mixed [(3, []), (1, []), (2, []), (4, []), (0, [1, 2, 4]), (5, [1, 2]), (6, []), (7, []), (8, [])] (by kernel_rfl) ?_; simp only [go_sem]) | (refine drawQ (id := 12) mixed [(1, []), (2, []), (3, []), (0, [1, 2, 3]), (4, []), (5, []), (6, [])] (by kernel_rfl) ?_; simp only [go_sem]) | (refine drawQ (id := 14) mixed [(4, []), (1, []), (2, []), (3, []), (5, []), (0, [1, 2, 3, 5]), (6, [1, 2, 3]), (7, []), (8, []), (9, [])] (by kernel_rfl) ?_; simp only [go_sem]) | (refine drawQ (id := 16) mixed [(5, []), (1, []), (2, []), (3, []), (6, []), (7, []), (0, [1, 2, 3, 6]), (4, [1, 2, 3, 6]), (8, [1, 2, 3]), (9, []), (10, []), (11, [])] (by kernel_rfl) ?_; simp only [go_sem]) | (refine drawQ (id := 18) mixed [(1, []), (2, []), (0, [1, 2]), (3, []), (4, []), (5, [])] (by kernel_rfl) ?_; simp only [go_sem]) | (refine drawQ (id := 20) mixed [(1, []), (2, []), (3, []), (4, []), (0, [1, 2, 3, 4]), (5, []), (6, []), (7, [])] (by kernel_rfl) ?_; simp only [go_sem]) | (refine drawQ (id := 22) mixed [(4, []), (1, []), (2, []), (5, []), (7, []), (0, [1, 2, 5, 7]), (3, [1, 2, 5, 7]), (6, [1, 2, 7]), (8, []), (9, []), (10, [])] (by kernel_rfl) ?_; simp only [go_sem]) | (refine drawQ (id := 24) mixed [(1, []), (2, []), (0, [1, 2]), (3, []), (4, []), (5, [])] (by kernel_rfl) ?_; simp only [go_sem]) | (refine drawQ (id := 26) mixed [(1, []), (0, [1]), (2, []), (3, []), (4, [])] (by kernel_rfl) ?_; simp only [go_sem]) | (refine drawQ (id := 28) mixed [(1, []), (0, [1]), (2, []), (3, []), (4, [])] (by kernel_rfl) ?_; simp only [go_sem]) | (refine Pure.at (hnm) (by simp) (by simp) rfl ?_; (try simp only [go_sem])) | (refine Pure.at (number_t _ _) (by simp) (by simp) rfl ?_; (try simp only [go_sem])) | (refine Pure.at (word_t _ _) (by simp) (by simp) rfl ?_; (try simp only [go_sem])) | (simp (disch := omega) only [wrap64E]) | (refine Eff.at2 (ha ) [] rfl (by first | (simp; done) | (simp; omega) | (simp [bC]; done) | omega) rfl ?_; (try simp only [go_sem])) | (simp (disch := omega) only [wE]) | (refine spl (fun h => ?_) (fun h => ?_) <;> first | (exfalso; omega) | ((try simp only [opRun, opSkip, stepRun, pickZ]); (try simp only [go_sem, h]))) | (refine and_om ?_ ?_; focus omega))
  all_goals exact done_ef2 [22] (by simp) rfl (by simp [mA]) (by simp [bC])
theorem toks_18 (G : List Gl) (t u tz tp : TypeId) (v : List Value) (h3 : gFirst t ∈ G) (h4 : gAcc u ∈ G) (hv : v[15]? = some (.int .u8 4)) (hG : gTz v tz ∈ G) (hp : gPow tp ∈ G) (c : Cmd) (hd : c.doc.length ≤ 1000000000000) (hx : c.text.length ≤ 1000000000000) (hi : 0 ≤ c.id ∧ c.id ≤ 4294967295) (hg : 0 ≤ c.grav ∧ c.grav ≤ 255) (hk : c.kind = 18) : Eff G Tryz.prog 31 [.agg (cmdE c)] [] 0 (.tuple [.slice (some ⟨0, 0⟩) ((argL c).length + 1) ((argL c).length + 1), .bool true]) [(0, .cells (tokensE c) 72 0 true 0)] 1 := by
  have ha := asks_18 G t u tz tp v h3 h4 hv hG hp c hd hx hi hg hk
  obtain ⟨kd, dc, id, fr, to, tx, gr⟩ := c
  simp only at hk hd hx hi hg
  subst hk
  have hnm := name_c G t u tz tp v h3 h4 hv hG hp dc hd
  obtain ⟨kn, hkn⟩ := name_form dc
  rw [hkn] at hnm
  simp only [tkE] at hnm
  unfold Eff
  refine ecalls_in 124 [.tmp 2, .tmp 3] Tryz.func31 rfl rfl rfl (by kernel_rfl) (le_ble rfl) ?_
  repeat' (first | refine esem_seqK 42856741435326530745514074891616511 ?_ | refine esem_block ?_ | (refine stp ?_; simp only [go_sem]) | (refine drawQ (id := 1) mixed [(0, []), (3, []), (7, []), (10, []), (1, []), (4, []), (5, []), (8, []), (11, []), (2, [4, 8, 11]), (6, [8, 11]), (9, [11]), (12, []), (13, []), (14, []), (15, []), (16, []), (17, []), (18, []), (19, []), (20, [])] (by kernel_rfl) ?_; simp only [go_sem]) | (refine drawQ (id := 4) mixed [(1, []), (0, [1]), (2, []), (3, []), (4, [])] (by kernel_rfl) ?_; simp only [go_sem]) | (refine drawQ (id := 6) mixed [(1, []), (0, [1]), (2, []), (3, []), (4, [])] (by kernel_rfl) ?_; simp only [go_sem]) | (refine drawQ (id := 8) mixed [(2, []), (1, []), (3, []), (0, [1, 3]), (4, [1]), (5, []), (6, []), (7, [])] (by kernel_rfl) ?_; simp only [go_sem]) | (refine drawQ (id := 10) mixed [(3, []), (1, []), (2, []), (4, []), (0, [1, 2, 4]), (5, [1, 2]), (6, []), (7, []), (8, [])] (by kernel_rfl) ?_; simp only [go_sem]) | (refine drawQ (id := 12) mixed [(1, []), (2, []), (3, []), (0, [1, 2, 3]), (4, []), (5, []), (6, [])] (by kernel_rfl) ?_; simp only [go_sem]) | (refine drawQ (id := 14) mixed [(4, []), (1, []), (2, []), (3, []), (5, []), (0, [1, 2, 3, 5]), (6, [1, 2, 3]), (7, []), (8, []), (9, [])] (by kernel_rfl) ?_; simp only [go_sem]) | (refine drawQ (id := 16) mixed [(5, []), (1, []), (2, []), (3, []), (6, []), (7, []), (0, [1, 2, 3, 6]), (4, [1, 2, 3, 6]), (8, [1, 2, 3]), (9, []), (10, []), (11, [])] (by kernel_rfl) ?_; simp only [go_sem]) | (refine drawQ (id := 18) mixed [(1, []), (2, []), (0, [1, 2]), (3, []), (4, []), (5, [])] (by kernel_rfl) ?_; simp only [go_sem]) | (refine drawQ (id := 20) mixed [(1, []), (2, []), (3, []), (4, []), (0, [1, 2, 3, 4]), (5, []), (6, []), (7, [])] (by kernel_rfl) ?_; simp only [go_sem]) | (refine drawQ (id := 22) mixed [(4, []), (1, []), (2, []), (5, []), (7, []), (0, [1, 2, 5, 7]), (3, [1, 2, 5, 7]), (6, [1, 2, 7]), (8, []), (9, []), (10, [])] (by kernel_rfl) ?_; simp only [go_sem]) | (refine drawQ (id := 24) mixed [(1, []), (2, []), (0, [1, 2]), (3, []), (4, []), (5, [])] (by kernel_rfl) ?_; simp only [go_sem]) | (refine drawQ (id := 26) mixed [(1, []), (0, [1]), (2, []), (3, []), (4, [])] (by kernel_rfl) ?_; simp only [go_sem]) | (refine drawQ (id := 28) mixed [(1, []), (0, [1]), (2, []), (3, []), (4, [])] (by kernel_rfl) ?_; simp only [go_sem]) | (refine Pure.at (hnm) (by simp) (by simp) rfl ?_; (try simp only [go_sem])) | (refine Pure.at (number_t _ _) (by simp) (by simp) rfl ?_; (try simp only [go_sem])) | (refine Pure.at (word_t _ _) (by simp) (by simp) rfl ?_; (try simp only [go_sem])) | (simp (disch := omega) only [wrap64E]) | (refine Eff.at2 (ha ) [] rfl (by first | (simp; done) | (simp; omega) | (simp [bC]; done) | omega) rfl ?_; (try simp only [go_sem])) | (simp (disch := omega) only [wE]) | (refine spl (fun h => ?_) (fun h => ?_) <;> first | (exfalso; omega) | ((try simp only [opRun, opSkip, stepRun, pickZ]); (try simp only [go_sem, h]))) | (refine and_om ?_ ?_; focus omega))
  all_goals exact done_ef2 [22] (by simp) rfl (by simp [mA]) (by simp [bC])
theorem toks_19 (G : List Gl) (t u tz tp : TypeId) (v : List Value) (h3 : gFirst t ∈ G) (h4 : gAcc u ∈ G) (hv : v[15]? = some (.int .u8 4)) (hG : gTz v tz ∈ G) (hp : gPow tp ∈ G) (c : Cmd) (hd : c.doc.length ≤ 1000000000000) (hx : c.text.length ≤ 1000000000000) (hi : 0 ≤ c.id ∧ c.id ≤ 4294967295) (hg : 0 ≤ c.grav ∧ c.grav ≤ 255) (hk : c.kind = 19) : Eff G Tryz.prog 31 [.agg (cmdE c)] [] 0 (.tuple [.slice (some ⟨0, 0⟩) ((argL c).length + 1) ((argL c).length + 1), .bool true]) [(0, .cells (tokensE c) 72 0 true 0)] 1 := by
  have ha := asks_19 G t u tz tp v h3 h4 hv hG hp c hd hx hi hg hk
  obtain ⟨kd, dc, id, fr, to, tx, gr⟩ := c
  simp only at hk hd hx hi hg
  subst hk
  have hnm := name_c G t u tz tp v h3 h4 hv hG hp dc hd
  obtain ⟨kn, hkn⟩ := name_form dc
  rw [hkn] at hnm
  simp only [tkE] at hnm
  unfold Eff
  refine ecalls_in 124 [.tmp 2, .tmp 3] Tryz.func31 rfl rfl rfl (by kernel_rfl) (le_ble rfl) ?_
  repeat' (first | refine esem_seqK 42856741435326530745514074891616511 ?_ | refine esem_block ?_ | (refine stp ?_; simp only [go_sem]) | (refine drawQ (id := 1) mixed [(0, []), (3, []), (7, []), (10, []), (1, []), (4, []), (5, []), (8, []), (11, []), (2, [4, 8, 11]), (6, [8, 11]), (9, [11]), (12, []), (13, []), (14, []), (15, []), (16, []), (17, []), (18, []), (19, []), (20, [])] (by kernel_rfl) ?_; simp only [go_sem]) | (refine drawQ (id := 4) mixed [(1, []), (0, [1]), (2, []), (3, []), (4, [])] (by kernel_rfl) ?_; simp only [go_sem]) | (refine drawQ (id := 6) mixed [(1, []), (0, [1]), (2, []), (3, []), (4, [])] (by kernel_rfl) ?_; simp only [go_sem]) | (refine drawQ (id := 8) mixed [(2, []), (1, []), (3, []), (0, [1, 3]), (4, [1]), (5, []), (6, []), (7, [])] (by kernel_rfl) ?_; simp only [go_sem]) | (refine drawQ (id := 10) mixed [(3, []), (1, []), (2, []), (4, []), (0, [1, 2, 4]), (5, [1, 2]), (6, []), (7, []), (8, [])] (by kernel_rfl) ?_; simp only [go_sem]) | (refine drawQ (id := 12) mixed [(1, []), (2, []), (3, []), (0, [1, 2, 3]), (4, []), (5, []), (6, [])] (by kernel_rfl) ?_; simp only [go_sem]) | (refine drawQ (id := 14) mixed [(4, []), (1, []), (2, []), (3, []), (5, []), (0, [1, 2, 3, 5]), (6, [1, 2, 3]), (7, []), (8, []), (9, [])] (by kernel_rfl) ?_; simp only [go_sem]) | (refine drawQ (id := 16) mixed [(5, []), (1, []), (2, []), (3, []), (6, []), (7, []), (0, [1, 2, 3, 6]), (4, [1, 2, 3, 6]), (8, [1, 2, 3]), (9, []), (10, []), (11, [])] (by kernel_rfl) ?_; simp only [go_sem]) | (refine drawQ (id := 18) mixed [(1, []), (2, []), (0, [1, 2]), (3, []), (4, []), (5, [])] (by kernel_rfl) ?_; simp only [go_sem]) | (refine drawQ (id := 20) mixed [(1, []), (2, []), (3, []), (4, []), (0, [1, 2, 3, 4]), (5, []), (6, []), (7, [])] (by kernel_rfl) ?_; simp only [go_sem]) | (refine drawQ (id := 22) mixed [(4, []), (1, []), (2, []), (5, []), (7, []), (0, [1, 2, 5, 7]), (3, [1, 2, 5, 7]), (6, [1, 2, 7]), (8, []), (9, []), (10, [])] (by kernel_rfl) ?_; simp only [go_sem]) | (refine drawQ (id := 24) mixed [(1, []), (2, []), (0, [1, 2]), (3, []), (4, []), (5, [])] (by kernel_rfl) ?_; simp only [go_sem]) | (refine drawQ (id := 26) mixed [(1, []), (0, [1]), (2, []), (3, []), (4, [])] (by kernel_rfl) ?_; simp only [go_sem]) | (refine drawQ (id := 28) mixed [(1, []), (0, [1]), (2, []), (3, []), (4, [])] (by kernel_rfl) ?_; simp only [go_sem]) | (refine Pure.at (hnm) (by simp) (by simp) rfl ?_; (try simp only [go_sem])) | (refine Pure.at (number_t _ _) (by simp) (by simp) rfl ?_; (try simp only [go_sem])) | (refine Pure.at (word_t _ _) (by simp) (by simp) rfl ?_; (try simp only [go_sem])) | (simp (disch := omega) only [wrap64E]) | (refine Eff.at2 (ha ) [] rfl (by first | (simp; done) | (simp; omega) | (simp [bC]; done) | omega) rfl ?_; (try simp only [go_sem])) | (simp (disch := omega) only [wE]) | (refine spl (fun h => ?_) (fun h => ?_) <;> first | (exfalso; omega) | ((try simp only [opRun, opSkip, stepRun, pickZ]); (try simp only [go_sem, h]))) | (refine and_om ?_ ?_; focus omega))
  all_goals exact done_ef2 [22] (by simp) rfl (by simp [mA]) (by simp [bC])
theorem toks_20 (G : List Gl) (t u tz tp : TypeId) (v : List Value) (h3 : gFirst t ∈ G) (h4 : gAcc u ∈ G) (hv : v[15]? = some (.int .u8 4)) (hG : gTz v tz ∈ G) (hp : gPow tp ∈ G) (c : Cmd) (hd : c.doc.length ≤ 1000000000000) (hx : c.text.length ≤ 1000000000000) (hi : 0 ≤ c.id ∧ c.id ≤ 4294967295) (hg : 0 ≤ c.grav ∧ c.grav ≤ 255) (hk : c.kind = 20) : Eff G Tryz.prog 31 [.agg (cmdE c)] [] 0 (.tuple [.slice (some ⟨0, 0⟩) ((argL c).length + 1) ((argL c).length + 1), .bool true]) [(0, .cells (tokensE c) 72 0 true 0)] 1 := by
  have ha := asks_20 G t u tz tp v h3 h4 hv hG hp c hd hx hi hg hk
  obtain ⟨kd, dc, id, fr, to, tx, gr⟩ := c
  simp only at hk hd hx hi hg
  subst hk
  have hnm := name_c G t u tz tp v h3 h4 hv hG hp dc hd
  obtain ⟨kn, hkn⟩ := name_form dc
  rw [hkn] at hnm
  simp only [tkE] at hnm
  unfold Eff
  refine ecalls_in 124 [.tmp 2, .tmp 3] Tryz.func31 rfl rfl rfl (by kernel_rfl) (le_ble rfl) ?_
  repeat' (first | refine esem_seqK 42856741435326530745514074891616511 ?_ | refine esem_block ?_ | (refine stp ?_; simp only [go_sem]) | (refine drawQ (id := 1) mixed [(0, []), (3, []), (7, []), (10, []), (1, []), (4, []), (5, []), (8, []), (11, []), (2, [4, 8, 11]), (6, [8, 11]), (9, [11]), (12, []), (13, []), (14, []), (15, []), (16, []), (17, []), (18, []), (19, []), (20, [])] (by kernel_rfl) ?_; simp only [go_sem]) | (refine drawQ (id := 4) mixed [(1, []), (0, [1]), (2, []), (3, []), (4, [])] (by kernel_rfl) ?_; simp only [go_sem]) | (refine drawQ (id := 6) mixed [(1, []), (0, [1]), (2, []), (3, []), (4, [])] (by kernel_rfl) ?_; simp only [go_sem]) | (refine drawQ (id := 8) mixed [(2, []), (1, []), (3, []), (0, [1, 3]), (4, [1]), (5, []), (6, []), (7, [])] (by kernel_rfl) ?_; simp only [go_sem]) | (refine drawQ (id := 10) mixed [(3, []), (1, []), (2, []), (4, []), (0, [1, 2, 4]), (5, [1, 2]), (6, []), (7, []), (8, [])] (by kernel_rfl) ?_; simp only [go_sem]) | (refine drawQ (id := 12) mixed [(1, []), (2, []), (3, []), (0, [1, 2, 3]), (4, []), (5, []), (6, [])] (by kernel_rfl) ?_; simp only [go_sem]) | (refine drawQ (id := 14) mixed [(4, []), (1, []), (2, []), (3, []), (5, []), (0, [1, 2, 3, 5]), (6, [1, 2, 3]), (7, []), (8, []), (9, [])] (by kernel_rfl) ?_; simp only [go_sem]) | (refine drawQ (id := 16) mixed [(5, []), (1, []), (2, []), (3, []), (6, []), (7, []), (0, [1, 2, 3, 6]), (4, [1, 2, 3, 6]), (8, [1, 2, 3]), (9, []), (10, []), (11, [])] (by kernel_rfl) ?_; simp only [go_sem]) | (refine drawQ (id := 18) mixed [(1, []), (2, []), (0, [1, 2]), (3, []), (4, []), (5, [])] (by kernel_rfl) ?_; simp only [go_sem]) | (refine drawQ (id := 20) mixed [(1, []), (2, []), (3, []), (4, []), (0, [1, 2, 3, 4]), (5, []), (6, []), (7, [])] (by kernel_rfl) ?_; simp only [go_sem]) | (refine drawQ (id := 22) mixed [(4, []), (1, []), (2, []), (5, []), (7, []), (0, [1, 2, 5, 7]), (3, [1, 2, 5, 7]), (6, [1, 2, 7]), (8, []), (9, []), (10, [])] (by kernel_rfl) ?_; simp only [go_sem]) | (refine drawQ (id := 24) mixed [(1, []), (2, []), (0, [1, 2]), (3, []), (4, []), (5, [])] (by kernel_rfl) ?_; simp only [go_sem]) | (refine drawQ (id := 26) mixed [(1, []), (0, [1]), (2, []), (3, []), (4, [])] (by kernel_rfl) ?_; simp only [go_sem]) | (refine drawQ (id := 28) mixed [(1, []), (0, [1]), (2, []), (3, []), (4, [])] (by kernel_rfl) ?_; simp only [go_sem]) | (refine Pure.at (hnm) (by simp) (by simp) rfl ?_; (try simp only [go_sem])) | (refine Pure.at (number_t _ _) (by simp) (by simp) rfl ?_; (try simp only [go_sem])) | (refine Pure.at (word_t _ _) (by simp) (by simp) rfl ?_; (try simp only [go_sem])) | (simp (disch := omega) only [wrap64E]) | (refine Eff.at2 (ha ) [] rfl (by first | (simp; done) | (simp; omega) | (simp [bC]; done) | omega) rfl ?_; (try simp only [go_sem])) | (simp (disch := omega) only [wE]) | (refine spl (fun h => ?_) (fun h => ?_) <;> first | (exfalso; omega) | ((try simp only [opRun, opSkip, stepRun, pickZ]); (try simp only [go_sem, h]))) | (refine and_om ?_ ?_; focus omega))
  all_goals exact done_ef2 [22] (by simp) rfl (by simp [mA]) (by simp [bC])
theorem toks_21 (G : List Gl) (t u tz tp : TypeId) (v : List Value) (h3 : gFirst t ∈ G) (h4 : gAcc u ∈ G) (hv : v[15]? = some (.int .u8 4)) (hG : gTz v tz ∈ G) (hp : gPow tp ∈ G) (c : Cmd) (hd : c.doc.length ≤ 1000000000000) (hx : c.text.length ≤ 1000000000000) (hi : 0 ≤ c.id ∧ c.id ≤ 4294967295) (hg : 0 ≤ c.grav ∧ c.grav ≤ 255) (hk : c.kind = 21) : Eff G Tryz.prog 31 [.agg (cmdE c)] [] 0 (.tuple [.slice (some ⟨0, 0⟩) ((argL c).length + 1) ((argL c).length + 1), .bool true]) [(0, .cells (tokensE c) 72 0 true 0)] 1 := by
  have ha := asks_21 G t u tz tp v h3 h4 hv hG hp c hd hx hi hg hk
  obtain ⟨kd, dc, id, fr, to, tx, gr⟩ := c
  simp only at hk hd hx hi hg
  subst hk
  have hnm := name_c G t u tz tp v h3 h4 hv hG hp dc hd
  obtain ⟨kn, hkn⟩ := name_form dc
  rw [hkn] at hnm
  simp only [tkE] at hnm
  unfold Eff
  refine ecalls_in 124 [.tmp 2, .tmp 3] Tryz.func31 rfl rfl rfl (by kernel_rfl) (le_ble rfl) ?_
  repeat' (first | refine esem_seqK 42856741435326530745514074891616511 ?_ | refine esem_block ?_ | (refine stp ?_; simp only [go_sem]) | (refine drawQ (id := 1) mixed [(0, []), (3, []), (7, []), (10, []), (1, []), (4, []), (5, []), (8, []), (11, []), (2, [4, 8, 11]), (6, [8, 11]), (9, [11]), (12, []), (13, []), (14, []), (15, []), (16, []), (17, []), (18, []), (19, []), (20, [])] (by kernel_rfl) ?_; simp only [go_sem]) | (refine drawQ (id := 4) mixed [(1, []), (0, [1]), (2, []), (3, []), (4, [])] (by kernel_rfl) ?_; simp only [go_sem]) | (refine drawQ (id := 6) mixed [(1, []), (0, [1]), (2, []), (3, []), (4, [])] (by kernel_rfl) ?_; simp only [go_sem]) | (refine drawQ (id := 8) mixed [(2, []), (1, []), (3, []), (0, [1, 3]), (4, [1]), (5, []), (6, []), (7, [])] (by kernel_rfl) ?_; simp only [go_sem]) | (refine drawQ (id := 10) mixed [(3, []), (1, []), (2, []), (4, []), (0, [1, 2, 4]), (5, [1, 2]), (6, []), (7, []), (8, [])] (by kernel_rfl) ?_; simp only [go_sem]) | (refine drawQ (id := 12) mixed [(1, []), (2, []), (3, []), (0, [1, 2, 3]), (4, []), (5, []), (6, [])] (by kernel_rfl) ?_; simp only [go_sem]) | (refine drawQ (id := 14) mixed [(4, []), (1, []), (2, []), (3, []), (5, []), (0, [1, 2, 3, 5]), (6, [1, 2, 3]), (7, []), (8, []), (9, [])] (by kernel_rfl) ?_; simp only [go_sem]) | (refine drawQ (id := 16) mixed [(5, []), (1, []), (2, []), (3, []), (6, []), (7, []), (0, [1, 2, 3, 6]), (4, [1, 2, 3, 6]), (8, [1, 2, 3]), (9, []), (10, []), (11, [])] (by kernel_rfl) ?_; simp only [go_sem]) | (refine drawQ (id := 18) mixed [(1, []), (2, []), (0, [1, 2]), (3, []), (4, []), (5, [])] (by kernel_rfl) ?_; simp only [go_sem]) | (refine drawQ (id := 20) mixed [(1, []), (2, []), (3, []), (4, []), (0, [1, 2, 3, 4]), (5, []), (6, []), (7, [])] (by kernel_rfl) ?_; simp only [go_sem]) | (refine drawQ (id := 22) mixed [(4, []), (1, []), (2, []), (5, []), (7, []), (0, [1, 2, 5, 7]), (3, [1, 2, 5, 7]), (6, [1, 2, 7]), (8, []), (9, []), (10, [])] (by kernel_rfl) ?_; simp only [go_sem]) | (refine drawQ (id := 24) mixed [(1, []), (2, []), (0, [1, 2]), (3, []), (4, []), (5, [])] (by kernel_rfl) ?_; simp only [go_sem]) | (refine drawQ (id := 26) mixed [(1, []), (0, [1]), (2, []), (3, []), (4, [])] (by kernel_rfl) ?_; simp only [go_sem]) | (refine drawQ (id := 28) mixed [(1, []), (0, [1]), (2, []), (3, []), (4, [])] (by kernel_rfl) ?_; simp only [go_sem]) | (refine Pure.at (hnm) (by simp) (by simp) rfl ?_; (try simp only [go_sem])) | (refine Pure.at (number_t _ _) (by simp) (by simp) rfl ?_; (try simp only [go_sem])) | (refine Pure.at (word_t _ _) (by simp) (by simp) rfl ?_; (try simp only [go_sem])) | (simp (disch := omega) only [wrap64E]) | (refine Eff.at2 (ha ) [] rfl (by first | (simp; done) | (simp; omega) | (simp [bC]; done) | omega) rfl ?_; (try simp only [go_sem])) | (simp (disch := omega) only [wE]) | (refine spl (fun h => ?_) (fun h => ?_) <;> first | (exfalso; omega) | ((try simp only [opRun, opSkip, stepRun, pickZ]); (try simp only [go_sem, h]))) | (refine and_om ?_ ?_; focus omega))
  all_goals exact done_ef2 [22] (by simp) rfl (by simp [mA]) (by simp [bC])
theorem toks_22e (G : List Gl) (t u tz tp : TypeId) (v : List Value) (h3 : gFirst t ∈ G) (h4 : gAcc u ∈ G) (hv : v[15]? = some (.int .u8 4)) (hG : gTz v tz ∈ G) (hp : gPow tp ∈ G) (c : Cmd) (hd : c.doc.length ≤ 1000000000000) (hx : c.text.length ≤ 1000000000000) (hi : 0 ≤ c.id ∧ c.id ≤ 4294967295) (hg : 0 ≤ c.grav ∧ c.grav ≤ 255) (hk : c.kind = 22) (hdc : c.doc = []) : Eff G Tryz.prog 31 [.agg (cmdE c)] [] 0 (.tuple [.slice (some ⟨0, 0⟩) ((argL c).length + 1) ((argL c).length + 1), .bool true]) [(0, .cells (tokensE c) 72 0 true 0)] 1 := by
  have ha := asks_22e G t u tz tp v h3 h4 hv hG hp c hd hx hi hg hk hdc
  obtain ⟨kd, dc, id, fr, to, tx, gr⟩ := c
  simp only at hk hd hx hi hg
  subst hk
  have hnm := name_c G t u tz tp v h3 h4 hv hG hp dc hd
  obtain ⟨kn, hkn⟩ := name_form dc
  rw [hkn] at hnm
  simp only [tkE] at hnm
  unfold Eff
  refine ecalls_in 124 [.tmp 2, .tmp 3] Tryz.func31 rfl rfl rfl (by kernel_rfl) (le_ble rfl) ?_
  repeat' (first | refine esem_seqK 42856741435326530745514074891616511 ?_ | refine esem_block ?_ | (refine stp ?_; simp only [go_sem]) | (refine drawQ (id := 1) mixed [(0, []), (3, []), (7, []), (10, []), (1, []), (4, []), (5, []), (8, []), (11, []), (2, [4, 8, 11]), (6, [8, 11]), (9, [11]), (12, []), (13, []), (14, []), (15, []), (16, []), (17, []), (18, []), (19, []), (20, [])] (by kernel_rfl) ?_; simp only [go_sem]) | (refine drawQ (id := 4) mixed [(1, []), (0, [1]), (2, []), (3, []), (4, [])] (by kernel_rfl) ?_; simp only [go_sem]) | (refine drawQ (id := 6) mixed [(1, []), (0, [1]), (2, []), (3, []), (4, [])] (by kernel_rfl) ?_; simp only [go_sem]) | (refine drawQ (id := 8) mixed [(2, []), (1, []), (3, []), (0, [1, 3]), (4, [1]), (5, []), (6, []), (7, [])] (by kernel_rfl) ?_; simp only [go_sem]) | (refine drawQ (id := 10) mixed [(3, []), (1, []), (2, []), (4, []), (0, [1, 2, 4]), (5, [1, 2]), (6, []), (7, []), (8, [])] (by kernel_rfl) ?_; simp only [go_sem]) | (refine drawQ (id := 12) mixed [(1, []), (2, []), (3, []), (0, [1, 2, 3]), (4, []), (5, []), (6, [])] (by kernel_rfl) ?_; simp only [go_sem]) | (refine drawQ (id := 14) mixed [(4, []), (1, []), (2, []), (3, []), (5, []), (0, [1, 2, 3, 5]), (6, [1, 2, 3]), (7, []), (8, []), (9, [])] (by kernel_rfl) ?_; simp only [go_sem]) | (refine drawQ (id := 16) mixed [(5, []), (1, []), (2, []), (3, []), (6, []), (7, []), (0, [1, 2, 3, 6]), (4, [1, 2, 3, 6]), (8, [1, 2, 3]), (9, []), (10, []), (11, [])] (by kernel_rfl) ?_; simp only [go_sem]) | (refine drawQ (id := 18) mixed [(1, []), (2, []), (0, [1, 2]), (3, []), (4, []), (5, [])] (by kernel_rfl) ?_; simp only [go_sem]) | (refine drawQ (id := 20) mixed [(1, []), (2, []), (3, []), (4, []), (0, [1, 2, 3, 4]), (5, []), (6, []), (7, [])] (by kernel_rfl) ?_; simp only [go_sem]) | (refine drawQ (id := 22) mixed [(4, []), (1, []), (2, []), (5, []), (7, []), (0, [1, 2, 5, 7]), (3, [1, 2, 5, 7]), (6, [1, 2, 7]), (8, []), (9, []), (10, [])] (by kernel_rfl) ?_; simp only [go_sem]) | (refine drawQ (id := 24) mixed [(1, []), (2, []), (0, [1, 2]), (3, []), (4, []), (5, [])] (by kernel_rfl) ?_; simp only [go_sem]) | (refine drawQ (id := 26) mixed [(1, []), (0, [1]), (2, []), (3, []), (4, [])] (by kernel_rfl) ?_; simp only [go_sem]) | (refine drawQ (id := 28) mixed [(1, []), (0, [1]), (2, []), (3, []), (4, [])] (by kernel_rfl) ?_; simp only [go_sem]) | (refine Pure.at (hnm) (by simp) (by simp) rfl ?_; (try simp only [go_sem])) | (refine Pure.at (number_t _ _) (by simp) (by simp) rfl ?_; (try simp only [go_sem])) | (refine Pure.at (word_t _ _) (by simp) (by simp) rfl ?_; (try simp only [go_sem])) | (simp (disch := omega) only [wrap64E]) | (refine Eff.at2 (ha ) [] rfl (by first | (simp; done) | (simp; omega) | (simp [bC]; done) | omega) rfl ?_; (try simp only [go_sem])) | (simp (disch := omega) only [wE]) | (refine spl (fun h => ?_) (fun h => ?_) <;> first | (exfalso; omega) | ((try simp only [opRun, opSkip, stepRun, pickZ]); (try simp only [go_sem, h]))) | (refine and_om ?_ ?_; focus omega))
  all_goals exact done_ef2 [22] (by simp) rfl (by simp [mA]) (by simp [bC])
theorem toks_22d (G : List Gl) (t u tz tp : TypeId) (v : List Value) (h3 : gFirst t ∈ G) (h4 : gAcc u ∈ G) (hv : v[15]? = some (.int .u8 4)) (hG : gTz v tz ∈ G) (hp : gPow tp ∈ G) (c : Cmd) (hd : c.doc.length ≤ 1000000000000) (hx : c.text.length ≤ 1000000000000) (hi : 0 ≤ c.id ∧ c.id ≤ 4294967295) (hg : 0 ≤ c.grav ∧ c.grav ≤ 255) (hk : c.kind = 22) (hdc : c.doc ≠ []) : Eff G Tryz.prog 31 [.agg (cmdE c)] [] 0 (.tuple [.slice (some ⟨0, 0⟩) ((argL c).length + 1) ((argL c).length + 1), .bool true]) [(0, .cells (tokensE c) 72 0 true 0)] 1 := by
  have ha := asks_22d G t u tz tp v h3 h4 hv hG hp c hd hx hi hg hk hdc
  obtain ⟨kd, dc, id, fr, to, tx, gr⟩ := c
  simp only at hk hd hx hi hg
  subst hk
  have hnm := name_c G t u tz tp v h3 h4 hv hG hp dc hd
  obtain ⟨kn, hkn⟩ := name_form dc
  rw [hkn] at hnm
  simp only [tkE] at hnm
  unfold Eff
  refine ecalls_in 124 [.tmp 2, .tmp 3] Tryz.func31 rfl rfl rfl (by kernel_rfl) (le_ble rfl) ?_
  repeat' (first | refine esem_seqK 42856741435326530745514074891616511 ?_ | refine esem_block ?_ | (refine stp ?_; simp only [go_sem]) | (refine drawQ (id := 1) mixed [(0, []), (3, []), (7, []), (10, []), (1, []), (4, []), (5, []), (8, []), (11, []), (2, [4, 8, 11]), (6, [8, 11]), (9, [11]), (12, []), (13, []), (14, []), (15, []), (16, []), (17, []), (18, []), (19, []), (20, [])] (by kernel_rfl) ?_; simp only [go_sem]) | (refine drawQ (id := 4) mixed [(1, []), (0, [1]), (2, []), (3, []), (4, [])] (by kernel_rfl) ?_; simp only [go_sem]) | (refine drawQ (id := 6) mixed [(1, []), (0, [1]), (2, []), (3, []), (4, [])] (by kernel_rfl) ?_; simp only [go_sem]) | (refine drawQ (id := 8) mixed [(2, []), (1, []), (3, []), (0, [1, 3]), (4, [1]), (5, []), (6, []), (7, [])] (by kernel_rfl) ?_; simp only [go_sem]) | (refine drawQ (id := 10) mixed [(3, []), (1, []), (2, []), (4, []), (0, [1, 2, 4]), (5, [1, 2]), (6, []), (7, []), (8, [])] (by kernel_rfl) ?_; simp only [go_sem]) | (refine drawQ (id := 12) mixed [(1, []), (2, []), (3, []), (0, [1, 2, 3]), (4, []), (5, []), (6, [])] (by kernel_rfl) ?_; simp only [go_sem]) | (refine drawQ (id := 14) mixed [(4, []), (1, []), (2, []), (3, []), (5, []), (0, [1, 2, 3, 5]), (6, [1, 2, 3]), (7, []), (8, []), (9, [])] (by kernel_rfl) ?_; simp only [go_sem]) | (refine drawQ (id := 16) mixed [(5, []), (1, []), (2, []), (3, []), (6, []), (7, []), (0, [1, 2, 3, 6]), (4, [1, 2, 3, 6]), (8, [1, 2, 3]), (9, []), (10, []), (11, [])] (by kernel_rfl) ?_; simp only [go_sem]) | (refine drawQ (id := 18) mixed [(1, []), (2, []), (0, [1, 2]), (3, []), (4, []), (5, [])] (by kernel_rfl) ?_; simp only [go_sem]) | (refine drawQ (id := 20) mixed [(1, []), (2, []), (3, []), (4, []), (0, [1, 2, 3, 4]), (5, []), (6, []), (7, [])] (by kernel_rfl) ?_; simp only [go_sem]) | (refine drawQ (id := 22) mixed [(4, []), (1, []), (2, []), (5, []), (7, []), (0, [1, 2, 5, 7]), (3, [1, 2, 5, 7]), (6, [1, 2, 7]), (8, []), (9, []), (10, [])] (by kernel_rfl) ?_; simp only [go_sem]) | (refine drawQ (id := 24) mixed [(1, []), (2, []), (0, [1, 2]), (3, []), (4, []), (5, [])] (by kernel_rfl) ?_; simp only [go_sem]) | (refine drawQ (id := 26) mixed [(1, []), (0, [1]), (2, []), (3, []), (4, [])] (by kernel_rfl) ?_; simp only [go_sem]) | (refine drawQ (id := 28) mixed [(1, []), (0, [1]), (2, []), (3, []), (4, [])] (by kernel_rfl) ?_; simp only [go_sem]) | (refine Pure.at (hnm) (by simp) (by simp) rfl ?_; (try simp only [go_sem])) | (refine Pure.at (number_t _ _) (by simp) (by simp) rfl ?_; (try simp only [go_sem])) | (refine Pure.at (word_t _ _) (by simp) (by simp) rfl ?_; (try simp only [go_sem])) | (simp (disch := omega) only [wrap64E]) | (refine Eff.at2 (ha ) [] rfl (by first | (simp; done) | (simp; omega) | (simp [bC]; done) | omega) rfl ?_; (try simp only [go_sem])) | (simp (disch := omega) only [wE]) | (refine spl (fun h => ?_) (fun h => ?_) <;> first | (exfalso; omega) | ((try simp only [opRun, opSkip, stepRun, pickZ]); (try simp only [go_sem, h]))) | (refine and_om ?_ ?_; focus omega))
  all_goals exact done_ef2 [22] (by simp) rfl (by simp [mA]) (by simp [bC])
theorem asks_no (G : List Gl) (t u tz tp : TypeId) (v : List Value) (h3 : gFirst t ∈ G) (h4 : gAcc u ∈ G) (hv : v[15]? = some (.int .u8 4)) (hG : gTz v tz ∈ G) (hp : gPow tp ∈ G) (c : Cmd) (hd : c.doc.length ≤ 1000000000000) (hx : c.text.length ≤ 1000000000000) (hi : 0 ≤ c.id ∧ c.id ≤ 4294967295) (hg : 0 ≤ c.grav ∧ c.grav ≤ 255) (hk : c.kind < 14 ∨ 22 < c.kind) : Eff G Tryz.prog 83 [.agg (cmdE c)] [] 0 (.tuple [.slice none 0 0, .bool false]) [] 0 := by
  unfold Eff
  obtain ⟨kd, dc, id, fr, to, tx, gr⟩ := c
  simp only at hk hd hx hi hg
  have hnm := name_c G t u tz tp v h3 h4 hv hG hp dc hd
  obtain ⟨kn, hkn⟩ := name_form dc
  rw [hkn] at hnm
  simp only [tkE] at hnm
  refine ecalls_in 76 [.tmp 2, .tmp 3] Tryz.func83 rfl rfl rfl (by kernel_rfl) (le_ble rfl) ?_
  repeat' (first | refine esem_seqK 1254532009740477005951 ?_ | refine esem_block ?_ | (refine stp ?_; simp only [go_sem]) | (refine drawQ (id := 1) mixed [(0, []), (3, []), (6, []), (1, []), (4, []), (7, []), (2, [4, 7]), (5, [7]), (8, []), (9, []), (10, []), (11, []), (12, []), (13, []), (14, [])] (by kernel_rfl) ?_; simp only [go_sem]) | (refine drawQ (id := 4) mixed [(1, []), (2, []), (3, []), (0, [1, 2, 3]), (4, []), (5, []), (6, [])] (by kernel_rfl) ?_; simp only [go_sem]) | (refine drawQ (id := 6) mixed [(1, []), (0, [1]), (2, []), (3, []), (4, [])] (by kernel_rfl) ?_; simp only [go_sem]) | (refine drawQ (id := 8) mixed [(1, []), (2, []), (0, [1, 2]), (3, []), (4, []), (5, [])] (by kernel_rfl) ?_; simp only [go_sem]) | (refine drawQ (id := 10) mixed [(1, []), (2, []), (3, []), (0, [1, 2, 3]), (4, []), (5, []), (6, [])] (by kernel_rfl) ?_; simp only [go_sem]) | (refine drawQ (id := 12) mixed [(1, []), (0, [1]), (2, []), (3, []), (4, [])] (by kernel_rfl) ?_; simp only [go_sem]) | (refine drawQ (id := 14) mixed [(1, []), (0, [1]), (2, []), (3, []), (4, [])] (by kernel_rfl) ?_; simp only [go_sem]) | (refine drawQ (id := 18) mixed [(3, []), (1, []), (2, []), (4, []), (0, [1, 2, 4]), (5, [1, 2]), (6, []), (7, []), (8, [])] (by kernel_rfl) ?_; simp only [go_sem]) | (refine drawQ (id := 22) mixed [(1, []), (0, [1]), (2, []), (3, []), (4, [])] (by kernel_rfl) ?_; simp only [go_sem]) | (refine Pure.at (hnm) (by simp) (by simp) rfl ?_; (try simp only [go_sem])) | (refine Pure.at (number_t _ _) (by simp) (by simp) rfl ?_; (try simp only [go_sem])) | (refine Pure.at (word_t _ _) (by simp) (by simp) rfl ?_; (try simp only [go_sem])) | (simp (disch := omega) only [wE]) | (refine spl (fun h => ?_) (fun h => ?_) <;> first | (exfalso; omega) | ((try simp only [opRun, opSkip, stepRun, pickZ]); (try simp only [go_sem, h]))) | (refine and_om ?_ ?_; focus omega))
  all_goals exact done_ef2 [] (by simp) rfl (by simp [mA]) (by simp [bC])
theorem toks_no (G : List Gl) (t u tz tp : TypeId) (v : List Value) (h3 : gFirst t ∈ G) (h4 : gAcc u ∈ G) (hv : v[15]? = some (.int .u8 4)) (hG : gTz v tz ∈ G) (hp : gPow tp ∈ G) (c : Cmd) (hd : c.doc.length ≤ 1000000000000) (hx : c.text.length ≤ 1000000000000) (hi : 0 ≤ c.id ∧ c.id ≤ 4294967295) (hg : 0 ≤ c.grav ∧ c.grav ≤ 255) (hk : c.kind < 1 ∨ 22 < c.kind) : Eff G Tryz.prog 31 [.agg (cmdE c)] [] 0 (.tuple [.slice none 0 0, .bool false]) [] 0 := by
  have ha := asks_no G t u tz tp v h3 h4 hv hG hp c hd hx hi hg (by omega)
  unfold Eff
  obtain ⟨kd, dc, id, fr, to, tx, gr⟩ := c
  simp only at hk hd hx hi hg
  have hnm := name_c G t u tz tp v h3 h4 hv hG hp dc hd
  obtain ⟨kn, hkn⟩ := name_form dc
  rw [hkn] at hnm
  simp only [tkE] at hnm
  refine ecalls_in 124 [.tmp 2, .tmp 3] Tryz.func31 rfl rfl rfl (by kernel_rfl) (le_ble rfl) ?_
  repeat' (first | refine esem_seqK 42856741435326530745514074891616511 ?_ | refine esem_block ?_ | (refine stp ?_; simp only [go_sem]) | (refine drawQ (id := 1) mixed [(0, []), (3, []), (7, []), (10, []), (1, []), (4, []), (5, []), (8, []), (11, []), (2, [4, 8, 11]), (6, [8, 11]), (9, [11]), (12, []), (13, []), (14, []), (15, []), (16, []), (17, []), (18, []), (19, []), (20, [])] (by kernel_rfl) ?_; simp only [go_sem]) | (refine Pure.at (hnm) (by simp) (by simp) rfl ?_; (try simp only [go_sem])) | (refine Pure.at (number_t _ _) (by simp) (by simp) rfl ?_; (try simp only [go_sem])) | (refine Pure.at (word_t _ _) (by simp) (by simp) rfl ?_; (try simp only [go_sem])) | (simp (disch := omega) only [wrap64E]) | (refine Eff.at2 (ha ) [] rfl (by first | (simp; done) | (simp; omega) | (simp [bC]; done) | omega) rfl ?_; (try simp only [go_sem])) | (simp (disch := omega) only [wE]) | (refine spl (fun h => ?_) (fun h => ?_) <;> first | (exfalso; omega) | ((try simp only [opRun, opSkip, stepRun, pickZ]); (try simp only [go_sem, h]))) | (refine and_om ?_ ?_; focus omega))
  all_goals exact done_ef2 [] (by simp) rfl (by simp [mA]) (by simp [bC])
theorem toks_c (G : List Gl) (t u tz tp : TypeId) (v : List Value) (h3 : gFirst t ∈ G) (h4 : gAcc u ∈ G) (hv : v[15]? = some (.int .u8 4)) (hG : gTz v tz ∈ G) (hp : gPow tp ∈ G) (c : Cmd) (hd : c.doc.length ≤ 1000000000000) (hx : c.text.length ≤ 1000000000000) (hi : 0 ≤ c.id ∧ c.id ≤ 4294967295) (hg : 0 ≤ c.grav ∧ c.grav ≤ 255) (k1 : 1 ≤ c.kind) (k2 : c.kind ≤ 22) : Eff G Tryz.prog 31 [.agg (cmdE c)] [] 0 (.tuple [.slice (some ⟨0, 0⟩) ((argL c).length + 1) ((argL c).length + 1), .bool true]) [(0, .cells (tokensE c) 72 0 true 0)] 1 := by
  have hk : c.kind = 1 ∨ c.kind = 2 ∨ c.kind = 3 ∨ c.kind = 4 ∨ c.kind = 5 ∨ c.kind = 6 ∨ c.kind = 7 ∨ c.kind = 8 ∨ c.kind = 9 ∨ c.kind = 10 ∨ c.kind = 11 ∨ c.kind = 12 ∨ c.kind = 13 ∨ c.kind = 14 ∨ c.kind = 15 ∨ c.kind = 16 ∨ c.kind = 17 ∨ c.kind = 18 ∨ c.kind = 19 ∨ c.kind = 20 ∨ c.kind = 21 ∨ c.kind = 22 := by omega
  rcases hk with hk | hk | hk | hk | hk | hk | hk | hk | hk | hk | hk | hk | hk | hk | hk | hk | hk | hk | hk | hk | hk | hk
  · exact toks_1 G t u tz tp v h3 h4 hv hG hp c hd hx hi hg hk
  · exact toks_2 G t u tz tp v h3 h4 hv hG hp c hd hx hi hg hk
  · exact toks_3 G t u tz tp v h3 h4 hv hG hp c hd hx hi hg hk
  · exact toks_4 G t u tz tp v h3 h4 hv hG hp c hd hx hi hg hk
  · exact toks_5 G t u tz tp v h3 h4 hv hG hp c hd hx hi hg hk
  · exact toks_6 G t u tz tp v h3 h4 hv hG hp c hd hx hi hg hk
  · exact toks_7 G t u tz tp v h3 h4 hv hG hp c hd hx hi hg hk
  · exact toks_8 G t u tz tp v h3 h4 hv hG hp c hd hx hi hg hk
  · exact toks_9 G t u tz tp v h3 h4 hv hG hp c hd hx hi hg hk
  · exact toks_10 G t u tz tp v h3 h4 hv hG hp c hd hx hi hg hk
  · exact toks_11 G t u tz tp v h3 h4 hv hG hp c hd hx hi hg hk
  · exact toks_12 G t u tz tp v h3 h4 hv hG hp c hd hx hi hg hk
  · exact toks_13 G t u tz tp v h3 h4 hv hG hp c hd hx hi hg hk
  · exact toks_14 G t u tz tp v h3 h4 hv hG hp c hd hx hi hg hk
  · exact toks_15 G t u tz tp v h3 h4 hv hG hp c hd hx hi hg hk
  · exact toks_16 G t u tz tp v h3 h4 hv hG hp c hd hx hi hg hk
  · exact toks_17 G t u tz tp v h3 h4 hv hG hp c hd hx hi hg hk
  · exact toks_18 G t u tz tp v h3 h4 hv hG hp c hd hx hi hg hk
  · exact toks_19 G t u tz tp v h3 h4 hv hG hp c hd hx hi hg hk
  · exact toks_20 G t u tz tp v h3 h4 hv hG hp c hd hx hi hg hk
  · exact toks_21 G t u tz tp v h3 h4 hv hG hp c hd hx hi hg hk
  · by_cases hdc : c.doc = []
    · exact toks_22e G t u tz tp v h3 h4 hv hG hp c hd hx hi hg hk hdc
    · exact toks_22d G t u tz tp v h3 h4 hv hG hp c hd hx hi hg hk hdc
end Go.Proofs.YtnjbdcdjcfhooaaGreatDoor
namespace Go.Proofs.YtnjbdcdjcfhooaaGreatDoor
open Go.E
set_option linter.all false
set_option maxRecDepth 20000
set_option maxHeartbeats 8000000
theorem wordB_ne {s : List UInt8} (h : wordB s = true) : s ≠ [] := by
  unfold wordB at h
  simp only [Bool.and_eq_true, decide_eq_true_eq] at h
  exact h.1.1
theorem okTok_arg {c : Cmd} (hr : rOK c) {a : UInt8} (ha : letter a) {t : Tok} (ht : strip t = argT c a) : okTok t := by
  obtain ⟨r1, r2, r3, r4⟩ := hr
  have h2 : okTok (strip t) → okTok t := fun h => h
  refine h2 ?_
  rw [ht]
  have hn : ∀ s, okTok (nameT s) := fun s => by
    unfold nameT
    by_cases h : wordB s = true
    · rw [if_pos h]; exact ⟨.inl rfl, fun _ => wordB_ne h, by simp⟩
    · rw [if_neg h]; exact ⟨.inr (.inr rfl), fun h => by simp at h, by simp⟩
  have hm : ∀ n : Int, n ≤ 9223372036854775807 → okTok (numT n) := fun n h => ⟨.inr (.inl rfl), fun h => by simp [numT] at h, by simp only [numT]; omega⟩
  have hs : ∀ ws n, n ≤ 9223372036854775807 → okTok (shownT ws n) := fun ws n h => by
    unfold shownT
    split
    · rename_i h1; exact ⟨.inl rfl, fun _ => h1.2.2, by simp⟩
    · exact hm n h
  rcases ha with ha | ha | ha | ha | ha | ha | ha | ha <;> simp only [argT, ha, Nat.reduceEqDiff, if_true, if_false]
  · exact hn _
  · exact hn _
  · exact ⟨.inr (.inr rfl), fun h => by simp at h, by simp⟩
  · exact hm _ (by omega)
  · exact hm _ (by omega)
  · exact hm _ (by omega)
  · exact hs _ _ (by omega)
  · exact hs _ _ (by omega)
theorem runP_arg {c : Cmd} (hr : rOK c) {A : List UInt8} (hA : ∀ a ∈ A, letter a) {ts : List Tok} (hl : ts.length = A.length + 1) (hts : ∀ j (h : j < A.length), strip (tokAt ts (j + 1)) = argT c A[j]) (size : Nat) :
    ∀ (n j : Nat) (x : Cmd), A.length - j = n → j ≤ A.length → runP ts size ((A.drop j).map partOf) (x, j + 1, none) = ((A.drop j).foldl (setF c) x, A.length + 1, none) := by
  intro n
  induction n with
  | zero =>
    intro j x hn hj
    obtain rfl : j = A.length := by omega
    rw [List.drop_length]; rfl
  | succ n ih =>
    intro j x hn hj
    have hj2 : j < A.length := by omega
    have ha := hA _ (List.getElem_mem hj2)
    have hp := putS_arg ha hr x (hts j hj2)
    have hpt := (partS_put ha (size := size) (c := x) (show j + 1 < ts.length by omega) (okTok_arg hr ha (hts j hj2))).1 (by rw [hp])
    rw [hp] at hpt
    rw [List.drop_eq_getElem_cons hj2, List.map_cons, List.foldl_cons]
    have : runP ts size (partOf A[j] :: (A.drop (j + 1)).map partOf) (x, j + 1, none) = runP ts size ((A.drop (j + 1)).map partOf) (stepP ts size (x, j + 1, none) (partOf A[j])) := rfl
    rw [this]
    have hst : stepP ts size (x, j + 1, none) (partOf A[j]) = (setF c x A[j], j + 1 + 1, none) := by simp only [stepP, hpt, orO]
    rw [hst]
    exact ih (j + 1) _ (by omega) (by omega)
def psOf (k : Nat) : List Nat := if k = 22 then [68] else (argsOf k).map partOf
theorem toks_len (c : Cmd) : (toksOf c).length = (argL c).length + 1 := by simp [toksOf]
theorem run_toks {c : Cmd} (hr : rOK c) (k1 : 1 ≤ c.kind) (k2 : c.kind ≤ 22) (size : Nat) : ∃ i, runP (toksOf c) size (psOf c.kind.toNat) (zCmd, 1, none) = (setAll (argL c) c zCmd, i, none) := by
  have hA := argL_letters k2
  have hts : ∀ j (h : j < (argL c).length), strip (tokAt (toksOf c) (j + 1)) = argT c (argL c)[j] := fun j h => by rw [toks_arg c j h, strip_argT]
  have hrun := runP_arg hr hA (toks_len c) hts size _ 0 zCmd rfl (Nat.zero_le _)
  rw [List.drop_zero, fold_set c _ _ hA] at hrun
  by_cases h22 : c.kind = 22
  · have e : psOf c.kind.toNat = [68] := by unfold psOf; rw [if_pos (by omega)]
    rw [e]
    by_cases hd : c.doc = []
    · have hl : argL c = [] := if_pos ⟨h22, hd⟩
      have hlen := toks_len c
      rw [hl] at hlen ⊢
      refine ⟨1, ?_⟩
      simp only [runP, List.foldl_cons, List.foldl_nil, stepP]
      have : partS 68 (toksOf c) size zCmd 1 = (zCmd, 1, none) := by unfold partS; rw [if_pos ⟨rfl, by rw [hlen]; exact Nat.le_refl _⟩]
      rw [this]
      rfl
    · have hl : argL c = [100] := by unfold argL; rw [if_neg (fun h => hd h.2), h22]; rfl
      have hlen := toks_len c
      rw [hl] at hlen hrun ⊢
      refine ⟨2, ?_⟩
      have h1 : runP (toksOf c) size ([100].map partOf) (zCmd, 0 + 1, none) = stepP (toksOf c) size (zCmd, 1, none) 60 := rfl
      have h2 : runP (toksOf c) size [68] (zCmd, 1, none) = stepP (toksOf c) size (zCmd, 1, none) 68 := rfl
      rw [h1] at hrun
      rw [h2, ← show stepP (toksOf c) size (zCmd, 1, none) 60 = stepP (toksOf c) size (zCmd, 1, none) 68 from ?_, hrun]
      · rfl
      · have : partS 60 (toksOf c) size zCmd 1 = partS 68 (toksOf c) size zCmd 1 := by
          unfold partS
          rw [if_neg (show ¬ (60 = 68 ∧ (toksOf c).length ≤ 1) by rintro ⟨h, -⟩; exact absurd h (by decide)), if_pos (show 60 = 60 ∨ 60 = 68 from .inl rfl), if_neg (show ¬ (68 = 68 ∧ (toksOf c).length ≤ 1) by rintro ⟨-, h⟩; rw [hlen] at h; simp at h), if_pos (show 68 = 60 ∨ 68 = 68 from .inr rfl)]
        simp only [stepP, this]
  · have e : psOf c.kind.toNat = (argL c).map partOf := by
      unfold psOf argL
      rw [if_neg (by omega), if_neg (fun h => h22 h.1)]
    rw [e]
    exact ⟨_, hrun⟩
theorem okC_set {c : Cmd} (hr : rOK c) (k1 : 1 ≤ c.kind) (k2 : c.kind ≤ 22) : ({setAll (argL c) c zCmd with kind := c.kind} = c) ↔ okC c := by
  have e : ({setAll (argL c) c zCmd with kind := c.kind} : Cmd) = setAll (argL c) c ⟨c.kind, [], 0, 0, 0, [], 0⟩ := rfl
  rw [e, set_iff]
  unfold okC
  by_cases hs : c.kind = 22 ∧ c.doc = []
  · have hl : argL c = [] := if_pos hs
    have ha : argsOf c.kind.toNat = [100] := by rw [hs.1]; rfl
    rw [hl, ha]
    constructor
    · rintro ⟨z1, z2, z3, z4, z5, z6⟩
      exact ⟨⟨k1, k2⟩, ⟨.inr hs.2, z2, z3, z4, z5, z6⟩, hr⟩
    · rintro ⟨-, ⟨z1, z2, z3, z4, z5, z6⟩, -⟩
      exact ⟨.inr hs.2, z2, z3, z4, z5, z6⟩
  · have hl : argL c = argsOf c.kind.toNat := if_neg hs
    rw [hl]
    exact ⟨fun h => ⟨⟨k1, k2⟩, h, hr⟩, fun h => h.2.1⟩
theorem form_word (k : Nat) (h1 : 1 ≤ k) (h2 : k ≤ 22) : formOf (wordOf k) = some ((k : Int), psOf k) := by
  have : ∀ i : Fin 23, 1 ≤ i.1 → formOf (wordOf i.1) = some ((i.1 : Int), psOf i.1) := by decide
  exact this ⟨k, by omega⟩ h1
theorem shT_eq (ws : List (List UInt8)) (n : Int) (h : 0 ≤ n) : tkE (shownT ws n) = shE ws n := by
  unfold shownT shE
  split
  · rfl
  · simp only [numT, tkE, nuE, Int.toNat_of_nonneg h]; rfl
theorem nuT_eq (n : Int) (h : 0 ≤ n) : tkE (numT n) = nuE n := by simp only [numT, tkE, nuE, Int.toNat_of_nonneg h]; rfl
theorem argE_eq {c : Cmd} (hr : rOK c) (a : UInt8) : tkE (argT c a) = argE c a := by
  obtain ⟨r1, r2, r3, r4⟩ := hr
  unfold argT argE
  repeat' split
  · rfl
  · rfl
  · rfl
  · exact nuT_eq _ r1.1
  · exact nuT_eq _ r3.1
  · exact nuT_eq _ r4.1
  · exact shT_eq _ _ r2.1
  · exact shT_eq _ _ r3.1
theorem tokensE_eq {c : Cmd} (hr : rOK c) : tokensE c = toksE (toksOf c) := by
  have : ∀ l : List UInt8, l.flatMap (argE c) = toksE (l.map (argT c)) := by
    intro l
    induction l with
    | nil => rfl
    | cons a r ih => rw [List.flatMap_cons, ih, List.map_cons, toksE, ← argE_eq hr a]; rfl
  unfold tokensE toksOf
  rw [this, toksE]; rfl
theorem quoL_len (s : List UInt8) : ∀ (n i : Nat), s.length - i = n → (quoL s i).length ≤ 8 * n + 1 := by
  intro n
  induction n using Nat.strongRecOn with
  | ind n ih =>
    intro i hn
    by_cases hi : i < s.length
    · have hd := decE_pos (s.drop i)
      have hc := chQ_len (s.drop i) (by rw [List.length_drop]; omega)
      have := ih (s.length - (i + (decE (s.drop i)).2)) (by omega) _ rfl
      rw [quoL_step hi, List.length_append]
      omega
    · rw [quoL_end (by omega)]; simp
theorem quoteL_len (s : List UInt8) : (quoteL s).length ≤ 8 * s.length + 2 := by
  have := quoL_len s _ 0 rfl
  simp only [quoteL, List.length_cons]
  omega
theorem itoa_len (n : Nat) (h : n ≤ 9223372036854775807) : (Lib.itoa n).length ≤ 20 := by
  have e : Lib.itoa n = Lib.decDigits n := by unfold Lib.itoa; rw [if_neg (by omega), Int.toNat_natCast]
  rw [e]
  have : ∀ (k u : Nat), u < 10 ^ k → 0 < k → (Lib.decDigits u).length ≤ k := by
    intro k
    induction k with
    | zero => intro u h h0; omega
    | succ k ih =>
      intro u hu _
      rw [Lib.decDigits]
      split
      · simp
      · rename_i h
        have hk : 0 < k := by
          rcases Nat.eq_zero_or_pos k with rfl | h'
          · simp at hu; omega
          · exact h'
        have := ih (u / 10) (by rw [Nat.pow_succ] at hu; omega) hk
        rw [List.length_append]; simp; omega
  exact this 20 n (by omega) (by decide)
theorem prA_len {t : Tok} (hn : t.num ≤ 9223372036854775807) : (prA t).length ≤ 8 * t.text.length + 20 := by
  unfold prA prT
  have := quoteL_len t.text
  have := itoa_len t.num hn
  repeat' split
  all_goals simp only [Option.getD_some, Option.getD_none, List.length_nil]
  all_goals omega
theorem join_len (B : Nat) : ∀ ps : List (List UInt8), (∀ p ∈ ps, p.length ≤ B) → (Lib.join ps [32]).length ≤ ps.length * (B + 1) := by
  intro ps h
  have ht : ∀ r : List (List UInt8), (∀ p ∈ r, p.length ≤ B) → (Lib.joinTail [32] r).length ≤ r.length * (B + 1) := by
    intro r hr
    unfold Lib.joinTail
    induction r with
    | nil => simp
    | cons p q ih =>
      have h1 := hr p (.head _)
      have h2 := ih fun x hx => hr x (.tail _ hx)
      simp only [List.map_cons, List.flatten_cons, List.length_append, List.length_cons, List.length_nil]
      rw [Nat.add_mul]; omega
  cases ps with
  | nil => simp [Lib.join, List.intercalate]
  | cons p r =>
    have h1 := h p (.head _)
    have h2 := ht r fun x hx => h x (.tail _ hx)
    rw [Lib.join_cons, List.length_append, List.length_cons, Nat.add_mul]
    omega
end Go.Proofs.YtnjbdcdjcfhooaaGreatDoor
