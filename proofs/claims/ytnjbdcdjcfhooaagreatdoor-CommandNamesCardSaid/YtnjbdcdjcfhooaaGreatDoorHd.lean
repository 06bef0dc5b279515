/-
  Own work: walks and laws of the functions that the statement reaches; the statement itself stands in the last text.
-/
import Derived.Test.YtnjbdcdjcfhooaaGreatDoorHc
namespace Go.Proofs.YtnjbdcdjcfhooaaGreatDoor
open Go.E
set_option linter.all false
set_option maxRecDepth 20000
set_option maxHeartbeats 4000000
structure Tok where
  kind : Nat
  at_ : Nat
  text : List UInt8
  num : Nat
  deriving DecidableEq
def tokE (t : Tok) : List EV := [.int .i64 t.kind, .int .i64 t.at_, .str t.text, .int .i64 t.num]
@[simp] theorem allBelow_tokE (k : Nat) (t : Tok) : allBelow k (tokE t) := by simp [tokE, allBelow, EV.bel]
@[simp] theorem renL_tokE (π : Nat → Nat) (t : Tok) : renL π (tokE t) = tokE t := by simp [tokE, renL, EV.ren]
def toksE : List Tok → List EV
  | [] => []
  | t :: r => tokE t ++ toksE r
theorem toksE_append (a b : List Tok) : toksE (a ++ b) = toksE a ++ toksE b := by
  induction a with
  | nil => rfl
  | cons t r ih => simp [toksE, ih]
theorem toksE_one (t : Tok) : toksE [t] = tokE t := by simp [toksE]
theorem toksE_length (l : List Tok) : (toksE l).length = l.length * 4 := by
  induction l with
  | nil => rfl
  | cons t r ih => simp [toksE, tokE, ih]; omega
@[simp] theorem allBelow_toksE {k : Nat} (l : List Tok) : allBelow k (toksE l) := by
  induction l with
  | nil => trivial
  | cons t r ih => simp [toksE, tokE, allBelow, EV.bel, ih]
theorem take_toksE (l : List Tok) : (toksE l).take (l.length * 4) = toksE l := List.take_of_length_le (by rw [toksE_length]; exact Nat.le_refl _)
attribute [go_sem] toksE_length take_toksE
@[simp] theorem renL_toksE (π : Nat → Nat) (l : List Tok) : renL π (toksE l) = toksE l := by
  induction l with
  | nil => rfl
  | cons t r ih => simp [toksE, tokE, renL, EV.ren, ih]
attribute [go_sem] renL_toksE renL_tokE
def isNum (l : List UInt8) : Option Nat := match numL 0 l with
  | some n => if l = [] ∨ (1 < l.length ∧ (l.getD 0 0).toNat = 48) then none else some n
  | none => none
theorem number_some {l : List UInt8} {n : Nat} (h : isNum l = some n) : numberE l = .tuple [.int .i64 n, .bool true] ∧ rnumberE l = .tuple [.int .i64 n, .bool true] ∧ n ≤ 9223372036854775807 := by
  unfold isNum at h
  unfold numberE rnumberE
  cases hn : numL 0 l with
  | none => simp [hn] at h
  | some m =>
    simp only [hn] at h ⊢
    split at h
    · cases h
    · rename_i hc
      cases h
      have hl : l.length ≠ 0 := fun e => hc (.inl (List.eq_nil_of_length_eq_zero e))
      refine ⟨by rw [if_neg hc], ?_, ?_⟩
      · simp only [EV.tuple.injEq, List.cons.injEq, EV.bool.injEq, true_and, and_true]; apply decide_eq_true; omega
      · have : ∀ (l : List UInt8) (a b : Nat), a ≤ 9223372036854775807 → numL a l = some b → b ≤ 9223372036854775807 := by
          intro l
          induction l with
          | nil => intro a b ha h; simp [numL] at h; omega
          | cons c r ih =>
            intro a b ha h
            rw [numL] at h
            split at h
            · exact ih _ _ (by omega) h
            · cases h
        exact this l 0 n (by omega) hn
theorem number_none {l : List UInt8} (h : isNum l = none) : numberE l = .tuple [.int .i64 0, .bool false] ∧ ∃ x, rnumberE l = .tuple [.int .i64 x, .bool false] := by
  unfold isNum at h
  unfold numberE rnumberE
  cases hn : numL 0 l with
  | none => exact ⟨rfl, 0, rfl⟩
  | some m =>
    simp only [hn] at h ⊢
    split at h
    · rename_i hc
      refine ⟨by rw [if_pos hc], m, ?_⟩
      simp only [EV.tuple.injEq, List.cons.injEq, EV.bool.injEq, true_and, and_true]; apply decide_eq_false
      rcases hc with rfl | hc
      · simp
      · omega
    · cases h
def skipP (p : UInt8 → Bool) (s : List UInt8) (i : Nat) : Nat := i + ((s.drop i).takeWhile p).length
theorem skipP_step {p : UInt8 → Bool} {s : List UInt8} {i : Nat} (h : i < s.length) (hp : p (s.getD i 0) = true) : skipP p s i = skipP p s (i + 1) := by
  have e : s.getD i 0 = s[i] := by rw [List.getD_eq_getElem?_getD, List.getElem?_eq_getElem h]; rfl
  rw [e] at hp
  unfold skipP
  rw [List.drop_eq_getElem_cons h, List.takeWhile_cons_of_pos hp]
  simp only [List.length_cons]; omega
theorem skipP_stop {p : UInt8 → Bool} {s : List UInt8} {i : Nat} (hp : p (s.getD i 0) = false) : skipP p s i = i := by
  unfold skipP
  by_cases h : i < s.length
  · have e : s.getD i 0 = s[i] := by rw [List.getD_eq_getElem?_getD, List.getElem?_eq_getElem h]; rfl
    rw [e] at hp
    rw [List.drop_eq_getElem_cons h, List.takeWhile_cons_of_neg (by simp [hp])]; rfl
  · rw [List.drop_eq_nil_of_le (by omega)]; rfl
theorem skipP_end {p : UInt8 → Bool} {s : List UInt8} {i : Nat} (h : s.length ≤ i) : skipP p s i = i := by
  unfold skipP; rw [List.drop_eq_nil_of_le h]; rfl
theorem skipP_ge (p : UInt8 → Bool) (s : List UInt8) (i : Nat) : i ≤ skipP p s i := by unfold skipP; omega
theorem quoG_lt (s : List UInt8) : ∀ (n i : Nat) (out : List UInt8), s.length - i = n → (quoG s i out).2.2 = true → i < (quoG s i out).2.1 ∧ (quoG s i out).2.1 ≤ s.length := by
  intro n
  induction n using Nat.strongRecOn with
  | ind n ih =>
    intro i out hn h
    by_cases hi : i < s.length
    · rw [quoG_step hi] at h ⊢
      have := decE_pos (s.drop i)
      split
      · simp only; omega
      · rename_i h1
        rw [if_neg h1] at h
        split
        · rename_i h2
          rw [if_pos h2] at h
          split
          · rename_i h3; rw [if_pos h3] at h; cases h
          · rename_i h3
            rw [if_neg h3] at h
            have := ih (s.length - (i + (escL (s.drop i)).2)) (by omega) _ _ rfl h
            omega
        · rename_i h2
          rw [if_neg h2] at h
          split
          · rename_i h3
            rw [if_pos h3] at h
            have := ih (s.length - (i + (decE (s.drop i)).2)) (by omega) _ _ rfl h
            omega
          · rename_i h3; rw [if_neg h3] at h; cases h
    · rw [quoG_end (by omega)] at h; cases h
theorem quoG_le (s : List UInt8) : ∀ (n i : Nat) (out : List UInt8), s.length - i = n → (quoG s i out).2.1 ≤ s.length := by
  intro n
  induction n using Nat.strongRecOn with
  | ind n ih =>
    intro i out hn
    by_cases hi : i < s.length
    · rw [quoG_step hi]
      have := decE_pos (s.drop i)
      repeat' split
      · simp only; omega
      · simp only; omega
      · exact ih (s.length - (i + (escL (s.drop i)).2)) (by omega) _ _ rfl
      · exact ih (s.length - (i + (decE (s.drop i)).2)) (by omega) _ _ rfl
      · simp only; omega
    · rw [quoG_end (by omega)]; exact Nat.le_refl _
def runTok (s : List UInt8) (i k : Nat) : Tok := match isNum ((s.drop i).take (k - i)) with
  | some n => ⟨2, i, [], n⟩
  | none => ⟨1, i, (s.drop i).take (k - i), 0⟩
def endsB (s : List UInt8) (k : Nat) : Bool := decide (s.length ≤ k) || blankB (s.getD k 0)
theorem endsB_no2 {s : List UInt8} {k : Nat} (h1 : k < s.length) (h2 : blankB (s.getD k 0) = false) : ¬ endsB s k = true := by
  unfold endsB; rw [h2]; simp; omega
theorem endsB_yes2 {s : List UInt8} {k : Nat} (h2 : blankB (s.getD k 0) = true) : endsB s k = true := by
  unfold endsB; rw [h2]; simp
theorem endsB_end {s : List UInt8} {k : Nat} (h : s.length ≤ k) : endsB s k = true := by unfold endsB; simp [h]
theorem not_t {b : Bool} (h : (!b) = true) : ¬ b = true := by cases b <;> simp_all
theorem not_f {b : Bool} (h : (!b) = false) : b = true := by cases b <;> simp_all
def scanG (s : List UInt8) (i : Nat) (out : List Tok) : List Tok × Nat × Nat :=
  if h : skipP blankB s i < s.length then
    if (s.getD (skipP blankB s i) 0).toNat = 34 then
      if hq : (quoG (s.drop (skipP blankB s i)) 1 []).2.2 = true then
        if endsB s (skipP blankB s i + (quoG (s.drop (skipP blankB s i)) 1 []).2.1) = true then
          scanG s (skipP blankB s i + (quoG (s.drop (skipP blankB s i)) 1 []).2.1) (out ++ [⟨3, skipP blankB s i, (quoG (s.drop (skipP blankB s i)) 1 []).1, 0⟩])
        else ([], 70, skipP blankB s i + (quoG (s.drop (skipP blankB s i)) 1 []).2.1)
      else ([], 71, skipP blankB s i + (quoG (s.drop (skipP blankB s i)) 1 []).2.1)
    else if hk : skipP runB s (skipP blankB s i) = skipP blankB s i then ([], 70, skipP blankB s i)
    else if endsB s (skipP runB s (skipP blankB s i)) = true then scanG s (skipP runB s (skipP blankB s i)) (out ++ [runTok s (skipP blankB s i) (skipP runB s (skipP blankB s i))])
    else ([], 70, skipP runB s (skipP blankB s i))
  else (out, 0, 0)
termination_by s.length - i
decreasing_by
  · have := skipP_ge blankB s i
    have := quoG_lt _ _ 1 [] rfl hq
    omega
  · have := skipP_ge blankB s i
    have := skipP_ge runB s (skipP blankB s i)
    omega
theorem scanG_end {s : List UInt8} {i j : Nat} {out : List Tok} (hj : skipP blankB s i = j) (h : s.length ≤ j) : scanG s i out = (out, 0, 0) := by
  rw [scanG, dif_neg (by omega)]
theorem scanG_quo {s : List UInt8} {i j : Nat} {out : List Tok} (hj : skipP blankB s i = j) (h : j < s.length) (hc : (s.getD j 0).toNat = 34) : scanG s i out =
    if (quoG (s.drop j) 1 []).2.2 = true then
      if endsB s (j + (quoG (s.drop j) 1 []).2.1) = true then scanG s (j + (quoG (s.drop j) 1 []).2.1) (out ++ [⟨3, j, (quoG (s.drop j) 1 []).1, 0⟩])
      else ([], 70, j + (quoG (s.drop j) 1 []).2.1)
    else ([], 71, j + (quoG (s.drop j) 1 []).2.1) := by
  rw [scanG, dif_pos (by omega), if_pos (by rw [hj]; exact hc), hj]
  simp only [dite_eq_ite]
theorem scanG_run {s : List UInt8} {i j : Nat} {out : List Tok} (hj : skipP blankB s i = j) (h : j < s.length) (hc : (s.getD j 0).toNat ≠ 34) : scanG s i out =
    if skipP runB s j = j then ([], 70, j)
    else if endsB s (skipP runB s j) = true then scanG s (skipP runB s j) (out ++ [runTok s j (skipP runB s j)])
    else ([], 70, skipP runB s j) := by
  rw [scanG, dif_pos (by omega), if_neg (by rw [hj]; exact hc), hj]
  simp only [dite_eq_ite]
def scanL (s : List UInt8) : List Tok × Nat × Nat := if 16384 < s.length then ([], 4, 0) else scanG s 0 []
end Go.Proofs.YtnjbdcdjcfhooaaGreatDoor
namespace Go.Proofs.YtnjbdcdjcfhooaaGreatDoor
open Go.E
set_option linter.all false
set_option maxRecDepth 20000
set_option maxHeartbeats 8000000
end Go.Proofs.YtnjbdcdjcfhooaaGreatDoor
namespace Go.Proofs.YtnjbdcdjcfhooaaGreatDoor
open Go.E
set_option linter.all false
set_option maxRecDepth 20000
set_option maxHeartbeats 8000000
theorem slClone_c (G : List Gl) (l : List UInt8) (h : l.length ≤ 281474976710656) : E.Pure G Tryz.prog 99 [.str l] (.str l) := by
  unfold E.Pure
  refine ecalls_below (v' := .string ⟨l.toArray⟩) (enters_of Tryz.func99 (by kernel_rfl) rfl) (fun ρ => by rw [VR]) (fun ρ w args' hR hA => ?_) ⟨rfl, rfl⟩
  obtain ⟨x', e, hx⟩ := one_of hA
  obtain ⟨la⟩ := args'
  simp only at e
  subst e
  rw [VR] at hx; subst hx
  refine (Tryz.stringslite_Clone ⟨l.toArray⟩ w (by rw [size_mk]; exact h)).mono ?_
  rintro e w' ⟨rfl, hB⟩
  exact ⟨rfl, hB⟩
theorem clone_c (G : List Gl) (l : List UInt8) (h : l.length ≤ 281474976710656) : E.Pure G Tryz.prog 56 [.str l] (.str l) := by
  refine pure_hid fun V hV => ?_
  refine ecalls_in 5 [.tmp 2] Tryz.func56 rfl rfl rfl (by kernel_rfl) (le_ble rfl) ?_
  repeat' (first | refine esem_seqK 5 ?_ | refine esem_block ?_ | (refine stp ?_; simp only [go_sem]) | (refine Pure.at (slClone_c _ _ h) (by simp) (by simp) rfl ?_; (try simp only [go_sem])) | (simp (disch := omega) only [wE]) | (refine spl (fun h => ?_) (fun h => ?_) <;> first | (exfalso; omega) | ((try simp only [opRun, opSkip, stepRun, pickZ]); (try simp only [go_sem, h]))) | (refine and_om ?_ ?_; focus omega))
  (refine done_zero (by simp [EV.bel, allBelow]) ?_; rw [hV])
abbrev faultC (c a : Nat) : EO := .cells [.int .i64 c, .int .i64 a] 95 0 true 0
def scanV (r : List Tok × Nat × Nat) : EV := if r.2.1 = 0 then .tuple [accE 0 r.1.length, .nilIface] else .tuple [.slice none 0 0, .iface 68 (.ptr (some ⟨0, 0⟩))]
def scanB (r : List Tok × Nat × Nat) : List (Nat × EO) := if r.2.1 = 0 then accB 0 (toksE r.1) 72 4 else [(0, faultC r.2.1 r.2.2)]
def scanN (r : List Tok × Nat × Nat) : Nat := if r.2.1 = 0 then (if r.1.length = 0 then 0 else 1) else 1
theorem scan_c (G : List Gl) (t u : TypeId) (h3 : gFirst t ∈ G) (h4 : gAcc u ∈ G) (l : List UInt8) : Eff G Tryz.prog 20 [.str l] [] 0 (scanV (scanL l)) (scanB (scanL l)) (scanN (scanL l)) := by
  unfold Eff
  have hshort : ¬ 16384 < l.length → scanL l = scanG l 0 [] := fun h => by unfold scanL; rw [if_neg h]
  refine ecalls_in 114 [.tmp 2, .tmp 3] Tryz.func20 rfl rfl rfl (by kernel_rfl) (le_ble rfl) ?_
  refine esem_seqK 15 ?_
  refine esem_reg ?_
  simp only [go_sem]
  by_cases hlen : 16384 < l.length
  · have e : scanL l = ([], 4, 0) := by unfold scanL; rw [if_pos hlen]
    rw [e]
    simp only [scanV, scanB, scanN]
    refine esem_scope0 0 ?_
    repeat' (first | refine esem_seqK 40565128694674494057601248043005 ?_ | refine esem_block ?_ | (refine stp ?_; simp only [go_sem]) | (refine inlH_go (rest := _) rfl (by decide) ?_) | (simp (disch := omega) only [wE]) | (refine spl (fun h => ?_) (fun h => ?_) <;> first | (exfalso; omega) | ((try simp only [opRun, opSkip, stepRun, pickZ]); (try simp only [go_sem, h]))) | (refine and_om ?_ ?_; focus omega))
    exact done_ef2 [0] (by simp) rfl (by simp [mA]) (by simp [bC])
  rw [hshort hlen]
  refine esem_scopeU (y := _) 0 2 (fun z : Nat × Nat × List Tok × Tok => [(0, .str l), (4, accE (z.2.1 + 1) z.2.2.1.length), (5, .ptr (some ⟨0, 0⟩)), (6, .int .i64 z.1)]) (fun z : Nat × Nat × List Tok × Tok => (0, .cells (tokE z.2.2.2) 72 0 true 0) :: accB (z.2.1 + 1) (toksE z.2.2.1) 72 4) (fun z : Nat × Nat × List Tok × Tok => z.2.1 + 2) (fun z : Nat × Nat × List Tok × Tok => z.1 ≤ l.length ∧ z.2.2.1.length ≤ z.1 ∧ scanG l z.1 z.2.2.1 = scanG l 0 []) (fun z : Nat × Nat × List Tok × Tok => l.length - z.1) (l.length + 1) rfl (fun z hz => ⟨by simp [frBel, EV.bel, allBelow], by simp [blBelow, EO.bel, tokE, allBelow, EV.bel], by omega⟩) (fun hfirst => ?_) ?_
  · repeat' (first | (refine hfirst _ _ ?_) | refine esem_seqK 40565128694674494057601248043005 ?_ | refine esem_block ?_ | (refine stp ?_; simp only [go_sem]) | (refine inlH_go (rest := _) rfl (by decide) ?_) | (simp (disch := omega) only [wE]) | (refine spl (fun h => ?_) (fun h => ?_) <;> first | (exfalso; omega) | ((try simp only [opRun, opSkip, stepRun, pickZ]); (try simp only [go_sem, h]))) | (refine and_om ?_ ?_; focus omega))
    (refine ⟨((0 : Nat), (0 : Nat), ([] : List Tok), Tok.mk 0 0 [] 0), ?_, ?_, rfl, rfl, ?_, ?_⟩; rotate_left; (focus (first | omega | (simp only []; omega))); (focus (first | (simp only [go_sem, weakL, tokE, toksE, List.length_nil, accE_zero, accB_nil]; done) | ((try simp only [go_sem, weakL, tokE, toksE, List.length_nil, accE_zero, accB_nil]); ((repeat' apply And.intro) <;> (first | rfl | trivial | ((try simp only [EV.int.injEq, EV.str.injEq, EV.bool.injEq, EV.tuple.injEq, EV.slice.injEq, List.cons.injEq, true_and, and_true]); first | rfl | omega)))))); (focus (first | trivial | (simp only [go_sem, lessL, tokE, toksE, List.length_nil, accE_zero, accB_nil]; done) | ((try simp only [go_sem, lessL, tokE, toksE, List.length_nil, accE_zero, accB_nil]); ((repeat' apply And.intro) <;> (first | rfl | trivial | ((try simp only [EV.int.injEq, EV.str.injEq, EV.bool.injEq, EV.tuple.injEq, EV.slice.injEq, List.cons.injEq, true_and, and_true]); first | rfl | omega)))))); (try simp only []))
    exact ⟨Nat.zero_le _, Nat.le_refl _, trivial⟩
  rintro ⟨i, b, ts, tk⟩ ⟨z1, z2, z3⟩
  simp only at z1 z2 z3
  simp only []
  rw [← z3]
  by_cases ho : ts.length = 0
  · obtain rfl : ts = [] := List.eq_nil_of_length_eq_zero ho
    have e2 : accB (b + 1) (toksE []) 72 4 = [] := rfl
    simp only [e2, List.length_nil, accE_zero]
    repeat' (first | refine esem_seqK 40565128694674494057601248043005 ?_ | refine esem_block ?_ | (refine stp ?_; simp only [go_sem]) | (refine inlH_go (rest := _) rfl (by decide) ?_) | (simp (disch := omega) only [wE]) | (refine spl (fun h => ?_) (fun h => ?_) <;> first | (exfalso; omega) | ((try simp only [opRun, opSkip, stepRun, pickZ]); (try simp only [go_sem, h]))) | (refine and_om ?_ ?_; focus omega))
    refine esem_loopS (fun z : Nat => [(0, .str l), (4, .slice none 0 0), (5, .ptr (some ⟨0, 0⟩)), (6, .int .i64 z)]) (fun z : Nat => (0, .cells (tokE tk) 72 0 true 0) :: []) (fun z : Nat => b + 2) (fun z : Nat => i ≤ z ∧ z ≤ l.length ∧ skipP blankB l z = skipP blankB l i) (fun z : Nat => l.length - z) (i) (fun z hz => ⟨by simp [frBel], by first | trivial | simp, by first | exact Nat.le_refl _ | exact Nat.zero_le _ | omega | (simp only []; omega)⟩) (by exact ⟨Nat.le_refl _, z1, rfl⟩) (by first | (simp only [go_sem, weakL]; done) | ((try simp only [go_sem, weakL]); ((repeat' apply And.intro) <;> (first | rfl | trivial | ((try simp only [EV.int.injEq, EV.str.injEq, EV.bool.injEq, EV.tuple.injEq, EV.slice.injEq, List.cons.injEq, true_and, and_true]); first | rfl | omega))))) (by first | trivial | (simp only [go_sem, lessL]; done) | ((try simp only [go_sem, lessL]); ((repeat' apply And.intro) <;> (first | rfl | trivial | ((try simp only [EV.int.injEq, EV.str.injEq, EV.bool.injEq, EV.tuple.injEq, EV.slice.injEq, List.cons.injEq, true_and, and_true]); first | rfl | omega))))) ?_
    rintro j ⟨y1, y2, y3⟩
    try simp only at y1 y2 y3
    try simp only []
    have hst := @skipP_step blankB l j
    have hj : blankB (l.getD j 0) = false → skipP blankB l i = j := fun h => by rw [← y3]; exact skipP_stop h
    have hj2 : l.length ≤ j → skipP blankB l i = j := fun h => by rw [← y3]; exact skipP_end h
    have hq1 := quoG_le (l.drop j) _ 1 [] rfl
    rw [List.length_drop] at hq1
    have hq2 := fun h => (quoG_lt (l.drop j) _ 1 [] rfl h).1
    simp only [tokE]
    repeat' (first | refine esem_seqK 40565128694674494057601248043005 ?_ | refine esem_block ?_ | (refine stp ?_; simp only [go_sem]) | (refine inlH_go (rest := _) rfl (by decide) ?_) | (refine Pure.at (blank_c _ _) (by simp) (by simp) rfl ?_; (try simp only [go_sem])) | (refine Pure.at (quoted_c _ t u h3 h4 (l.drop j) (by rw [List.length_drop]; omega)) (by simp) (by simp) rfl ?_; (try simp only [go_sem])) | (simp (disch := omega) only [wE]) | (refine spl (fun h => ?_) (fun h => ?_) <;> first | (exfalso; omega) | ((try simp only [opRun, opSkip, stepRun, pickZ]); (try simp only [go_sem, h]))) | (refine and_om ?_ ?_; focus omega))
    all_goals try
      first
      | ((refine ⟨(j + 1), ?_, ?_, rfl, rfl, ?_, ?_⟩; rotate_left; (focus (first | omega | (simp only []; omega))); (focus (first | (simp only [go_sem, weakL, tokE]; done) | ((try simp only [go_sem, weakL, tokE]); ((repeat' apply And.intro) <;> (first | rfl | trivial | ((try simp only [EV.int.injEq, EV.str.injEq, EV.bool.injEq, EV.tuple.injEq, EV.slice.injEq, List.cons.injEq, true_and, and_true]); first | rfl | omega)))))); (focus (first | trivial | (simp only [go_sem, lessL, tokE]; done) | ((try simp only [go_sem, lessL, tokE]); ((repeat' apply And.intro) <;> (first | rfl | trivial | ((try simp only [EV.int.injEq, EV.str.injEq, EV.bool.injEq, EV.tuple.injEq, EV.slice.injEq, List.cons.injEq, true_and, and_true]); first | rfl | omega)))))); (try simp only [])); exact ⟨by omega, by omega, by rw [← hst (by omega) (by assumption), y3]⟩)
      | (have he := scanG_end (out := ([] : List Tok)) (hj2 (by omega)) (by omega); rw [he]; simp only [scanV, scanB, scanN, toksE, accB_nil, List.length_nil, accE_zero, if_true]; exact done_ef2 [] (by simp) rfl (by simp [mA]) (by simp [bC]); done)
      | (have he := scanG_quo (out := ([] : List Tok)) (hj (by assumption)) (by omega) (by omega); rw [if_neg (not_t (by assumption))] at he; rw [he]; simp only [scanV, scanB, scanN]; exact done_ef2 [b + 2] (by simp) rfl (by simp [mA]) (by simp [bC]); done)
      | (have he := scanG_quo (out := ([] : List Tok)) (hj (by assumption)) (by omega) (by omega); rw [if_pos (not_f (by assumption)), if_neg (endsB_no2 (by omega) (by assumption))] at he; rw [he]; simp only [scanV, scanB, scanN]; exact done_ef2 [b + 2] (by simp) rfl (by simp [mA]) (by simp [bC]); done)
      | (have hq3 := hq2 (not_f (by assumption))
         have he := scanG_quo (out := ([] : List Tok)) (hj (by assumption)) (by omega) (by omega); rw [if_pos (not_f (by assumption)), if_pos (by first | exact endsB_yes2 (by assumption) | exact endsB_end (by omega))] at he
         (refine ⟨(j + (quoG (l.drop j) 1 []).2.1, b + 2, ([] : List Tok) ++ [Tok.mk 3 j (quoG (l.drop j) 1 []).1 0], Tok.mk 3 j (quoG (l.drop j) 1 []).1 0), ?_, ?_, rfl, rfl, ?_, ?_⟩; rotate_left; (focus (first | omega | (simp only []; omega))); (focus (first | (simp only [go_sem, weakL, accE_one, accE_add1, accB_cons, accB_app, List.length_append, List.length_cons, List.length_nil, toksE_append, toksE_one, toksE, tokE, List.nil_append]; done) | ((try simp only [go_sem, weakL, accE_one, accE_add1, accB_cons, accB_app, List.length_append, List.length_cons, List.length_nil, toksE_append, toksE_one, toksE, tokE, List.nil_append]); ((repeat' apply And.intro) <;> (first | rfl | trivial | ((try simp only [EV.int.injEq, EV.str.injEq, EV.bool.injEq, EV.tuple.injEq, EV.slice.injEq, List.cons.injEq, true_and, and_true]); first | rfl | omega)))))); (focus (first | trivial | (simp only [go_sem, lessL, accE_one, accE_add1, accB_cons, accB_app, List.length_append, List.length_cons, List.length_nil, toksE_append, toksE_one, toksE, tokE, List.nil_append]; done) | ((try simp only [go_sem, lessL, accE_one, accE_add1, accB_cons, accB_app, List.length_append, List.length_cons, List.length_nil, toksE_append, toksE_one, toksE, tokE, List.nil_append]); ((repeat' apply And.intro) <;> (first | rfl | trivial | ((try simp only [EV.int.injEq, EV.str.injEq, EV.bool.injEq, EV.tuple.injEq, EV.slice.injEq, List.cons.injEq, true_and, and_true]); first | rfl | omega)))))); (try simp only []))
         refine ⟨?_, ?_, ?_⟩; · omega
         · simp only [List.length_append, List.length_cons, List.length_nil]; omega
         · rw [he])
    all_goals
      have hjb := hj (by assumption)
      refine esem_loopS (fun z : Nat => [(0, .str l), (4, .slice none 0 0), (5, .ptr (some ⟨0, 0⟩)), (7, .int .i64 j), (6, .int .i64 z)]) (fun z : Nat => (0, .cells [.int .i64 0, .int .i64 j, .str [], .int .i64 0] 72 0 true 0) :: []) (fun z : Nat => b + 2) (fun z : Nat => j ≤ z ∧ z ≤ l.length ∧ skipP runB l z = skipP runB l j) (fun z : Nat => l.length - z) (j) (fun z hz => ⟨by simp [frBel], by first | trivial | simp, by first | exact Nat.le_refl _ | exact Nat.zero_le _ | omega | (simp only []; omega)⟩) (by exact ⟨Nat.le_refl _, y2, rfl⟩) (by first | (simp only [go_sem, weakL]; done) | ((try simp only [go_sem, weakL]); ((repeat' apply And.intro) <;> (first | rfl | trivial | ((try simp only [EV.int.injEq, EV.str.injEq, EV.bool.injEq, EV.tuple.injEq, EV.slice.injEq, List.cons.injEq, true_and, and_true]); first | rfl | omega))))) (by first | trivial | (simp only [go_sem, lessL]; done) | ((try simp only [go_sem, lessL]); ((repeat' apply And.intro) <;> (first | rfl | trivial | ((try simp only [EV.int.injEq, EV.str.injEq, EV.bool.injEq, EV.tuple.injEq, EV.slice.injEq, List.cons.injEq, true_and, and_true]); first | rfl | omega))))) ?_
      rintro k ⟨x1, x2, x3⟩
      try simp only at x1 x2 x3
      try simp only []
      have hrt := @skipP_step runB l k
      have hk : runB (l.getD k 0) = false → skipP runB l j = k := fun h => by rw [← x3]; exact skipP_stop h
      have hk2 : l.length ≤ k → skipP runB l j = k := fun h => by rw [← x3]; exact skipP_end h
      have hnum := number_c G ((l.drop j).take (k - j)) (by rw [List.length_take, List.length_drop]; omega)
      have hcl := clone_c G ((l.drop j).take (k - j)) (by rw [List.length_take, List.length_drop]; omega)
      have hrun := fun h => scanG_run (out := ([] : List Tok)) hjb (by omega) h
      have hrt2 : runTok l j k = runTok l j k := rfl
      conv at hrt2 => rhs; unfold runTok
      rcases hn : isNum ((l.drop j).take (k - j)) with _ | n
      · obtain ⟨hx, -⟩ := number_none hn
        rw [hx] at hnum
        simp only [hn] at hrt2
        repeat' (first | refine esem_seqK 40565128694674494057601248043005 ?_ | refine esem_block ?_ | (refine stp ?_; simp only [go_sem]) | (refine inlH_go (rest := _) rfl (by decide) ?_) | (refine Pure.at (runs_c _ _) (by simp) (by simp) rfl ?_; (try simp only [go_sem])) | (refine Pure.at (blank_c _ _) (by simp) (by simp) rfl ?_; (try simp only [go_sem])) | (refine Pure.at (hcl) (by simp) (by simp) rfl ?_; (try simp only [go_sem])) | (refine Pure.at (hnum) (by simp) (by simp) rfl ?_; (try simp only [go_sem])) | (simp (disch := omega) only [wE]) | (refine spl (fun h => ?_) (fun h => ?_) <;> first | (exfalso; omega) | ((try simp only [opRun, opSkip, stepRun, pickZ]); (try simp only [go_sem, h]))) | (refine and_om ?_ ?_; focus omega))
        all_goals try
          first
          | ((refine ⟨(k + 1), ?_, ?_, rfl, rfl, ?_, ?_⟩; rotate_left; (focus (first | omega | (simp only []; omega))); (focus (first | (simp only [go_sem, weakL]; done) | ((try simp only [go_sem, weakL]); ((repeat' apply And.intro) <;> (first | rfl | trivial | ((try simp only [EV.int.injEq, EV.str.injEq, EV.bool.injEq, EV.tuple.injEq, EV.slice.injEq, List.cons.injEq, true_and, and_true]); first | rfl | omega)))))); (focus (first | trivial | (simp only [go_sem, lessL]; done) | ((try simp only [go_sem, lessL]); ((repeat' apply And.intro) <;> (first | rfl | trivial | ((try simp only [EV.int.injEq, EV.str.injEq, EV.bool.injEq, EV.tuple.injEq, EV.slice.injEq, List.cons.injEq, true_and, and_true]); first | rfl | omega)))))); (try simp only [])); exact ⟨by omega, by omega, by rw [← hrt (by omega) (by first | assumption | exact decide_eq_true (by assumption)), x3]⟩)
          | (have hkk : skipP runB l j = k := by first | exact hk (by first | assumption | exact decide_eq_false (by assumption)) | exact hk2 (by omega)
             specialize hrun (by omega)
             rw [hkk] at hrun
             first
             | (rw [if_pos (by omega)] at hrun; rw [hrun]; simp only [scanV, scanB, scanN]; exact done_ef2 [b + 2] (by simp) rfl (by simp [mA]) (by simp [bC]); done)
             | (rw [if_neg (by omega), if_neg (endsB_no2 (by omega) (by assumption))] at hrun; rw [hrun]; simp only [scanV, scanB, scanN]; exact done_ef2 [b + 2] (by simp) rfl (by simp [mA]) (by simp [bC]); done)
             | (rw [if_neg (by omega), if_pos (by first | exact endsB_yes2 (by assumption) | exact endsB_end (by omega)), hrt2] at hrun
                (refine ⟨(k, b + 2, ([] : List Tok) ++ [Tok.mk 1 j ((l.drop j).take (k - j)) 0], Tok.mk 1 j ((l.drop j).take (k - j)) 0), ?_, ?_, rfl, rfl, ?_, ?_⟩; rotate_left; (focus (first | omega | (simp only []; omega))); (focus (first | (simp only [go_sem, weakL, accE_one, accE_add1, accB_cons, accB_app, List.length_append, List.length_cons, List.length_nil, toksE_append, toksE_one, toksE, tokE, List.nil_append]; done) | ((try simp only [go_sem, weakL, accE_one, accE_add1, accB_cons, accB_app, List.length_append, List.length_cons, List.length_nil, toksE_append, toksE_one, toksE, tokE, List.nil_append]); ((repeat' apply And.intro) <;> (first | rfl | trivial | ((try simp only [EV.int.injEq, EV.str.injEq, EV.bool.injEq, EV.tuple.injEq, EV.slice.injEq, List.cons.injEq, true_and, and_true]); first | rfl | omega)))))); (focus (first | trivial | (simp only [go_sem, lessL, accE_one, accE_add1, accB_cons, accB_app, List.length_append, List.length_cons, List.length_nil, toksE_append, toksE_one, toksE, tokE, List.nil_append]; done) | ((try simp only [go_sem, lessL, accE_one, accE_add1, accB_cons, accB_app, List.length_append, List.length_cons, List.length_nil, toksE_append, toksE_one, toksE, tokE, List.nil_append]); ((repeat' apply And.intro) <;> (first | rfl | trivial | ((try simp only [EV.int.injEq, EV.str.injEq, EV.bool.injEq, EV.tuple.injEq, EV.slice.injEq, List.cons.injEq, true_and, and_true]); first | rfl | omega)))))); (try simp only []))
                refine ⟨?_, ?_, ?_⟩; · omega
                · simp only [List.length_append, List.length_cons, List.length_nil]; omega
                · rw [hrun]))
      · obtain ⟨hx, -, hn9⟩ := number_some hn
        rw [hx] at hnum
        simp only [hn] at hrt2
        repeat' (first | refine esem_seqK 40565128694674494057601248043005 ?_ | refine esem_block ?_ | (refine stp ?_; simp only [go_sem]) | (refine inlH_go (rest := _) rfl (by decide) ?_) | (refine Pure.at (runs_c _ _) (by simp) (by simp) rfl ?_; (try simp only [go_sem])) | (refine Pure.at (blank_c _ _) (by simp) (by simp) rfl ?_; (try simp only [go_sem])) | (refine Pure.at (hcl) (by simp) (by simp) rfl ?_; (try simp only [go_sem])) | (refine Pure.at (hnum) (by simp) (by simp) rfl ?_; (try simp only [go_sem])) | (simp (disch := omega) only [wE]) | (refine spl (fun h => ?_) (fun h => ?_) <;> first | (exfalso; omega) | ((try simp only [opRun, opSkip, stepRun, pickZ]); (try simp only [go_sem, h]))) | (refine and_om ?_ ?_; focus omega))
        all_goals try
          first
          | ((refine ⟨(k + 1), ?_, ?_, rfl, rfl, ?_, ?_⟩; rotate_left; (focus (first | omega | (simp only []; omega))); (focus (first | (simp only [go_sem, weakL]; done) | ((try simp only [go_sem, weakL]); ((repeat' apply And.intro) <;> (first | rfl | trivial | ((try simp only [EV.int.injEq, EV.str.injEq, EV.bool.injEq, EV.tuple.injEq, EV.slice.injEq, List.cons.injEq, true_and, and_true]); first | rfl | omega)))))); (focus (first | trivial | (simp only [go_sem, lessL]; done) | ((try simp only [go_sem, lessL]); ((repeat' apply And.intro) <;> (first | rfl | trivial | ((try simp only [EV.int.injEq, EV.str.injEq, EV.bool.injEq, EV.tuple.injEq, EV.slice.injEq, List.cons.injEq, true_and, and_true]); first | rfl | omega)))))); (try simp only [])); exact ⟨by omega, by omega, by rw [← hrt (by omega) (by first | assumption | exact decide_eq_true (by assumption)), x3]⟩)
          | (have hkk : skipP runB l j = k := by first | exact hk (by first | assumption | exact decide_eq_false (by assumption)) | exact hk2 (by omega)
             specialize hrun (by omega)
             rw [hkk] at hrun
             first
             | (rw [if_pos (by omega)] at hrun; rw [hrun]; simp only [scanV, scanB, scanN]; exact done_ef2 [b + 2] (by simp) rfl (by simp [mA]) (by simp [bC]); done)
             | (rw [if_neg (by omega), if_neg (endsB_no2 (by omega) (by assumption))] at hrun; rw [hrun]; simp only [scanV, scanB, scanN]; exact done_ef2 [b + 2] (by simp) rfl (by simp [mA]) (by simp [bC]); done)
             | (rw [if_neg (by omega), if_pos (by first | exact endsB_yes2 (by assumption) | exact endsB_end (by omega)), hrt2] at hrun
                (refine ⟨(k, b + 2, ([] : List Tok) ++ [Tok.mk 2 j [] n], Tok.mk 2 j [] n), ?_, ?_, rfl, rfl, ?_, ?_⟩; rotate_left; (focus (first | omega | (simp only []; omega))); (focus (first | (simp only [go_sem, weakL, accE_one, accE_add1, accB_cons, accB_app, List.length_append, List.length_cons, List.length_nil, toksE_append, toksE_one, toksE, tokE, List.nil_append]; done) | ((try simp only [go_sem, weakL, accE_one, accE_add1, accB_cons, accB_app, List.length_append, List.length_cons, List.length_nil, toksE_append, toksE_one, toksE, tokE, List.nil_append]); ((repeat' apply And.intro) <;> (first | rfl | trivial | ((try simp only [EV.int.injEq, EV.str.injEq, EV.bool.injEq, EV.tuple.injEq, EV.slice.injEq, List.cons.injEq, true_and, and_true]); first | rfl | omega)))))); (focus (first | trivial | (simp only [go_sem, lessL, accE_one, accE_add1, accB_cons, accB_app, List.length_append, List.length_cons, List.length_nil, toksE_append, toksE_one, toksE, tokE, List.nil_append]; done) | ((try simp only [go_sem, lessL, accE_one, accE_add1, accB_cons, accB_app, List.length_append, List.length_cons, List.length_nil, toksE_append, toksE_one, toksE, tokE, List.nil_append]); ((repeat' apply And.intro) <;> (first | rfl | trivial | ((try simp only [EV.int.injEq, EV.str.injEq, EV.bool.injEq, EV.tuple.injEq, EV.slice.injEq, List.cons.injEq, true_and, and_true]); first | rfl | omega)))))); (try simp only []))
                refine ⟨?_, ?_, ?_⟩; · omega
                · simp only [List.length_append, List.length_cons, List.length_nil]; omega
                · rw [hrun]))
  · rw [accE_pos (n := ts.length) (by omega), accB_pos (c := toksE ts) (by rw [toksE_length]; omega)]
    repeat' (first | refine esem_seqK 40565128694674494057601248043005 ?_ | refine esem_block ?_ | (refine stp ?_; simp only [go_sem]) | (refine inlH_go (rest := _) rfl (by decide) ?_) | (simp (disch := omega) only [wE]) | (refine spl (fun h => ?_) (fun h => ?_) <;> first | (exfalso; omega) | ((try simp only [opRun, opSkip, stepRun, pickZ]); (try simp only [go_sem, h]))) | (refine and_om ?_ ?_; focus omega))
    refine esem_loopS (fun z : Nat => [(0, .str l), (4, .slice (some ⟨b + 1, 0⟩) ts.length ts.length), (5, .ptr (some ⟨0, 0⟩)), (6, .int .i64 z)]) (fun z : Nat => (0, .cells (tokE tk) 72 0 true 0) :: [(b + 1, .cells (toksE ts) 72 4 true 0)]) (fun z : Nat => b + 2) (fun z : Nat => i ≤ z ∧ z ≤ l.length ∧ skipP blankB l z = skipP blankB l i) (fun z : Nat => l.length - z) (i) (fun z hz => ⟨by simp [frBel], by first | trivial | simp, by first | exact Nat.le_refl _ | exact Nat.zero_le _ | omega | (simp only []; omega)⟩) (by exact ⟨Nat.le_refl _, z1, rfl⟩) (by first | (simp only [go_sem, weakL]; done) | ((try simp only [go_sem, weakL]); ((repeat' apply And.intro) <;> (first | rfl | trivial | ((try simp only [EV.int.injEq, EV.str.injEq, EV.bool.injEq, EV.tuple.injEq, EV.slice.injEq, List.cons.injEq, true_and, and_true]); first | rfl | omega))))) (by first | trivial | (simp only [go_sem, lessL]; done) | ((try simp only [go_sem, lessL]); ((repeat' apply And.intro) <;> (first | rfl | trivial | ((try simp only [EV.int.injEq, EV.str.injEq, EV.bool.injEq, EV.tuple.injEq, EV.slice.injEq, List.cons.injEq, true_and, and_true]); first | rfl | omega))))) ?_
    rintro j ⟨y1, y2, y3⟩
    try simp only at y1 y2 y3
    try simp only []
    have hst := @skipP_step blankB l j
    have hj : blankB (l.getD j 0) = false → skipP blankB l i = j := fun h => by rw [← y3]; exact skipP_stop h
    have hj2 : l.length ≤ j → skipP blankB l i = j := fun h => by rw [← y3]; exact skipP_end h
    have hq1 := quoG_le (l.drop j) _ 1 [] rfl
    rw [List.length_drop] at hq1
    have hq2 := fun h => (quoG_lt (l.drop j) _ 1 [] rfl h).1
    simp only [tokE]
    repeat' (first | refine esem_seqK 40565128694674494057601248043005 ?_ | refine esem_block ?_ | (refine stp ?_; simp only [go_sem]) | (refine inlH_go (rest := _) rfl (by decide) ?_) | (refine Pure.at (blank_c _ _) (by simp) (by simp) rfl ?_; (try simp only [go_sem])) | (refine Pure.at (quoted_c _ t u h3 h4 (l.drop j) (by rw [List.length_drop]; omega)) (by simp) (by simp) rfl ?_; (try simp only [go_sem])) | (simp (disch := omega) only [wE]) | (refine spl (fun h => ?_) (fun h => ?_) <;> first | (exfalso; omega) | ((try simp only [opRun, opSkip, stepRun, pickZ]); (try simp only [go_sem, h]))) | (refine and_om ?_ ?_; focus omega))
    all_goals try
      first
      | ((refine ⟨(j + 1), ?_, ?_, rfl, rfl, ?_, ?_⟩; rotate_left; (focus (first | omega | (simp only []; omega))); (focus (first | (simp only [go_sem, weakL, tokE]; done) | ((try simp only [go_sem, weakL, tokE]); ((repeat' apply And.intro) <;> (first | rfl | trivial | ((try simp only [EV.int.injEq, EV.str.injEq, EV.bool.injEq, EV.tuple.injEq, EV.slice.injEq, List.cons.injEq, true_and, and_true]); first | rfl | omega)))))); (focus (first | trivial | (simp only [go_sem, lessL, tokE]; done) | ((try simp only [go_sem, lessL, tokE]); ((repeat' apply And.intro) <;> (first | rfl | trivial | ((try simp only [EV.int.injEq, EV.str.injEq, EV.bool.injEq, EV.tuple.injEq, EV.slice.injEq, List.cons.injEq, true_and, and_true]); first | rfl | omega)))))); (try simp only [])); exact ⟨by omega, by omega, by rw [← hst (by omega) (by assumption), y3]⟩)
      | (have he := scanG_end (out := ts) (hj2 (by omega)) (by omega); rw [he]; simp only [scanV, scanB, scanN, accE_pos (b := 0) (show 0 < ts.length by omega), accB_pos (b := 0) (t := 72) (z := 4) (show 0 < (toksE ts).length by rw [toksE_length]; omega), if_neg ho, if_true]; exact done_ef2 [b + 1] (by simp) rfl (by simp [mA]) (by simp [bC]); done)
      | (have he := scanG_quo (out := ts) (hj (by assumption)) (by omega) (by omega); rw [if_neg (not_t (by assumption))] at he; rw [he]; simp only [scanV, scanB, scanN]; exact done_ef2 [b + 2] (by simp) rfl (by simp [mA]) (by simp [bC]); done)
      | (have he := scanG_quo (out := ts) (hj (by assumption)) (by omega) (by omega); rw [if_pos (not_f (by assumption)), if_neg (endsB_no2 (by omega) (by assumption))] at he; rw [he]; simp only [scanV, scanB, scanN]; exact done_ef2 [b + 2] (by simp) rfl (by simp [mA]) (by simp [bC]); done)
      | (have hq3 := hq2 (not_f (by assumption))
         have he := scanG_quo (out := ts) (hj (by assumption)) (by omega) (by omega); rw [if_pos (not_f (by assumption)), if_pos (by first | exact endsB_yes2 (by assumption) | exact endsB_end (by omega))] at he
         (refine ⟨(j + (quoG (l.drop j) 1 []).2.1, b + 2, ts ++ [Tok.mk 3 j (quoG (l.drop j) 1 []).1 0], Tok.mk 3 j (quoG (l.drop j) 1 []).1 0), ?_, ?_, rfl, rfl, ?_, ?_⟩; rotate_left; (focus (first | omega | (simp only []; omega))); (focus (first | (simp only [go_sem, weakL, accE_one, accE_add1, accB_cons, accB_app, List.length_append, List.length_cons, List.length_nil, toksE_append, toksE_one, toksE, tokE, List.nil_append]; done) | ((try simp only [go_sem, weakL, accE_one, accE_add1, accB_cons, accB_app, List.length_append, List.length_cons, List.length_nil, toksE_append, toksE_one, toksE, tokE, List.nil_append]); ((repeat' apply And.intro) <;> (first | rfl | trivial | ((try simp only [EV.int.injEq, EV.str.injEq, EV.bool.injEq, EV.tuple.injEq, EV.slice.injEq, List.cons.injEq, true_and, and_true]); first | rfl | omega)))))); (focus (first | trivial | (simp only [go_sem, lessL, accE_one, accE_add1, accB_cons, accB_app, List.length_append, List.length_cons, List.length_nil, toksE_append, toksE_one, toksE, tokE, List.nil_append]; done) | ((try simp only [go_sem, lessL, accE_one, accE_add1, accB_cons, accB_app, List.length_append, List.length_cons, List.length_nil, toksE_append, toksE_one, toksE, tokE, List.nil_append]); ((repeat' apply And.intro) <;> (first | rfl | trivial | ((try simp only [EV.int.injEq, EV.str.injEq, EV.bool.injEq, EV.tuple.injEq, EV.slice.injEq, List.cons.injEq, true_and, and_true]); first | rfl | omega)))))); (try simp only []))
         refine ⟨?_, ?_, ?_⟩; · omega
         · simp only [List.length_append, List.length_cons, List.length_nil]; omega
         · rw [he])
    all_goals
      have hjb := hj (by assumption)
      refine esem_loopS (fun z : Nat => [(0, .str l), (4, .slice (some ⟨b + 1, 0⟩) ts.length ts.length), (5, .ptr (some ⟨0, 0⟩)), (7, .int .i64 j), (6, .int .i64 z)]) (fun z : Nat => (0, .cells [.int .i64 0, .int .i64 j, .str [], .int .i64 0] 72 0 true 0) :: [(b + 1, .cells (toksE ts) 72 4 true 0)]) (fun z : Nat => b + 2) (fun z : Nat => j ≤ z ∧ z ≤ l.length ∧ skipP runB l z = skipP runB l j) (fun z : Nat => l.length - z) (j) (fun z hz => ⟨by simp [frBel], by first | trivial | simp, by first | exact Nat.le_refl _ | exact Nat.zero_le _ | omega | (simp only []; omega)⟩) (by exact ⟨Nat.le_refl _, y2, rfl⟩) (by first | (simp only [go_sem, weakL]; done) | ((try simp only [go_sem, weakL]); ((repeat' apply And.intro) <;> (first | rfl | trivial | ((try simp only [EV.int.injEq, EV.str.injEq, EV.bool.injEq, EV.tuple.injEq, EV.slice.injEq, List.cons.injEq, true_and, and_true]); first | rfl | omega))))) (by first | trivial | (simp only [go_sem, lessL]; done) | ((try simp only [go_sem, lessL]); ((repeat' apply And.intro) <;> (first | rfl | trivial | ((try simp only [EV.int.injEq, EV.str.injEq, EV.bool.injEq, EV.tuple.injEq, EV.slice.injEq, List.cons.injEq, true_and, and_true]); first | rfl | omega))))) ?_
      rintro k ⟨x1, x2, x3⟩
      try simp only at x1 x2 x3
      try simp only []
      have hrt := @skipP_step runB l k
      have hk : runB (l.getD k 0) = false → skipP runB l j = k := fun h => by rw [← x3]; exact skipP_stop h
      have hk2 : l.length ≤ k → skipP runB l j = k := fun h => by rw [← x3]; exact skipP_end h
      have hnum := number_c G ((l.drop j).take (k - j)) (by rw [List.length_take, List.length_drop]; omega)
      have hcl := clone_c G ((l.drop j).take (k - j)) (by rw [List.length_take, List.length_drop]; omega)
      have hrun := fun h => scanG_run (out := ts) hjb (by omega) h
      have hrt2 : runTok l j k = runTok l j k := rfl
      conv at hrt2 => rhs; unfold runTok
      rcases hn : isNum ((l.drop j).take (k - j)) with _ | n
      · obtain ⟨hx, -⟩ := number_none hn
        rw [hx] at hnum
        simp only [hn] at hrt2
        repeat' (first | refine esem_seqK 40565128694674494057601248043005 ?_ | refine esem_block ?_ | (refine stp ?_; simp only [go_sem]) | (refine inlH_go (rest := _) rfl (by decide) ?_) | (refine Pure.at (runs_c _ _) (by simp) (by simp) rfl ?_; (try simp only [go_sem])) | (refine Pure.at (blank_c _ _) (by simp) (by simp) rfl ?_; (try simp only [go_sem])) | (refine Pure.at (hcl) (by simp) (by simp) rfl ?_; (try simp only [go_sem])) | (refine Pure.at (hnum) (by simp) (by simp) rfl ?_; (try simp only [go_sem])) | (simp (disch := omega) only [wE]) | (refine spl (fun h => ?_) (fun h => ?_) <;> first | (exfalso; omega) | ((try simp only [opRun, opSkip, stepRun, pickZ]); (try simp only [go_sem, h]))) | (refine and_om ?_ ?_; focus omega))
        all_goals try
          first
          | ((refine ⟨(k + 1), ?_, ?_, rfl, rfl, ?_, ?_⟩; rotate_left; (focus (first | omega | (simp only []; omega))); (focus (first | (simp only [go_sem, weakL]; done) | ((try simp only [go_sem, weakL]); ((repeat' apply And.intro) <;> (first | rfl | trivial | ((try simp only [EV.int.injEq, EV.str.injEq, EV.bool.injEq, EV.tuple.injEq, EV.slice.injEq, List.cons.injEq, true_and, and_true]); first | rfl | omega)))))); (focus (first | trivial | (simp only [go_sem, lessL]; done) | ((try simp only [go_sem, lessL]); ((repeat' apply And.intro) <;> (first | rfl | trivial | ((try simp only [EV.int.injEq, EV.str.injEq, EV.bool.injEq, EV.tuple.injEq, EV.slice.injEq, List.cons.injEq, true_and, and_true]); first | rfl | omega)))))); (try simp only [])); exact ⟨by omega, by omega, by rw [← hrt (by omega) (by first | assumption | exact decide_eq_true (by assumption)), x3]⟩)
          | (have hkk : skipP runB l j = k := by first | exact hk (by first | assumption | exact decide_eq_false (by assumption)) | exact hk2 (by omega)
             specialize hrun (by omega)
             rw [hkk] at hrun
             first
             | (rw [if_pos (by omega)] at hrun; rw [hrun]; simp only [scanV, scanB, scanN]; exact done_ef2 [b + 2] (by simp) rfl (by simp [mA]) (by simp [bC]); done)
             | (rw [if_neg (by omega), if_neg (endsB_no2 (by omega) (by assumption))] at hrun; rw [hrun]; simp only [scanV, scanB, scanN]; exact done_ef2 [b + 2] (by simp) rfl (by simp [mA]) (by simp [bC]); done)
             | (rw [if_neg (by omega), if_pos (by first | exact endsB_yes2 (by assumption) | exact endsB_end (by omega)), hrt2] at hrun
                (refine ⟨(k, b + 2, ts ++ [Tok.mk 1 j ((l.drop j).take (k - j)) 0], Tok.mk 1 j ((l.drop j).take (k - j)) 0), ?_, ?_, rfl, rfl, ?_, ?_⟩; rotate_left; (focus (first | omega | (simp only []; omega))); (focus (first | (simp only [go_sem, weakL, accE_one, accE_add1, accB_cons, accB_app, List.length_append, List.length_cons, List.length_nil, toksE_append, toksE_one, toksE, tokE, List.nil_append]; done) | ((try simp only [go_sem, weakL, accE_one, accE_add1, accB_cons, accB_app, List.length_append, List.length_cons, List.length_nil, toksE_append, toksE_one, toksE, tokE, List.nil_append]); ((repeat' apply And.intro) <;> (first | rfl | trivial | ((try simp only [EV.int.injEq, EV.str.injEq, EV.bool.injEq, EV.tuple.injEq, EV.slice.injEq, List.cons.injEq, true_and, and_true]); first | rfl | omega)))))); (focus (first | trivial | (simp only [go_sem, lessL, accE_one, accE_add1, accB_cons, accB_app, List.length_append, List.length_cons, List.length_nil, toksE_append, toksE_one, toksE, tokE, List.nil_append]; done) | ((try simp only [go_sem, lessL, accE_one, accE_add1, accB_cons, accB_app, List.length_append, List.length_cons, List.length_nil, toksE_append, toksE_one, toksE, tokE, List.nil_append]); ((repeat' apply And.intro) <;> (first | rfl | trivial | ((try simp only [EV.int.injEq, EV.str.injEq, EV.bool.injEq, EV.tuple.injEq, EV.slice.injEq, List.cons.injEq, true_and, and_true]); first | rfl | omega)))))); (try simp only []))
                refine ⟨?_, ?_, ?_⟩; · omega
                · simp only [List.length_append, List.length_cons, List.length_nil]; omega
                · rw [hrun]))
      · obtain ⟨hx, -, hn9⟩ := number_some hn
        rw [hx] at hnum
        simp only [hn] at hrt2
        repeat' (first | refine esem_seqK 40565128694674494057601248043005 ?_ | refine esem_block ?_ | (refine stp ?_; simp only [go_sem]) | (refine inlH_go (rest := _) rfl (by decide) ?_) | (refine Pure.at (runs_c _ _) (by simp) (by simp) rfl ?_; (try simp only [go_sem])) | (refine Pure.at (blank_c _ _) (by simp) (by simp) rfl ?_; (try simp only [go_sem])) | (refine Pure.at (hcl) (by simp) (by simp) rfl ?_; (try simp only [go_sem])) | (refine Pure.at (hnum) (by simp) (by simp) rfl ?_; (try simp only [go_sem])) | (simp (disch := omega) only [wE]) | (refine spl (fun h => ?_) (fun h => ?_) <;> first | (exfalso; omega) | ((try simp only [opRun, opSkip, stepRun, pickZ]); (try simp only [go_sem, h]))) | (refine and_om ?_ ?_; focus omega))
        all_goals try
          first
          | ((refine ⟨(k + 1), ?_, ?_, rfl, rfl, ?_, ?_⟩; rotate_left; (focus (first | omega | (simp only []; omega))); (focus (first | (simp only [go_sem, weakL]; done) | ((try simp only [go_sem, weakL]); ((repeat' apply And.intro) <;> (first | rfl | trivial | ((try simp only [EV.int.injEq, EV.str.injEq, EV.bool.injEq, EV.tuple.injEq, EV.slice.injEq, List.cons.injEq, true_and, and_true]); first | rfl | omega)))))); (focus (first | trivial | (simp only [go_sem, lessL]; done) | ((try simp only [go_sem, lessL]); ((repeat' apply And.intro) <;> (first | rfl | trivial | ((try simp only [EV.int.injEq, EV.str.injEq, EV.bool.injEq, EV.tuple.injEq, EV.slice.injEq, List.cons.injEq, true_and, and_true]); first | rfl | omega)))))); (try simp only [])); exact ⟨by omega, by omega, by rw [← hrt (by omega) (by first | assumption | exact decide_eq_true (by assumption)), x3]⟩)
          | (have hkk : skipP runB l j = k := by first | exact hk (by first | assumption | exact decide_eq_false (by assumption)) | exact hk2 (by omega)
             specialize hrun (by omega)
             rw [hkk] at hrun
             first
             | (rw [if_pos (by omega)] at hrun; rw [hrun]; simp only [scanV, scanB, scanN]; exact done_ef2 [b + 2] (by simp) rfl (by simp [mA]) (by simp [bC]); done)
             | (rw [if_neg (by omega), if_neg (endsB_no2 (by omega) (by assumption))] at hrun; rw [hrun]; simp only [scanV, scanB, scanN]; exact done_ef2 [b + 2] (by simp) rfl (by simp [mA]) (by simp [bC]); done)
             | (rw [if_neg (by omega), if_pos (by first | exact endsB_yes2 (by assumption) | exact endsB_end (by omega)), hrt2] at hrun
                (refine ⟨(k, b + 2, ts ++ [Tok.mk 2 j [] n], Tok.mk 2 j [] n), ?_, ?_, rfl, rfl, ?_, ?_⟩; rotate_left; (focus (first | omega | (simp only []; omega))); (focus (first | (simp only [go_sem, weakL, accE_one, accE_add1, accB_cons, accB_app, List.length_append, List.length_cons, List.length_nil, toksE_append, toksE_one, toksE, tokE, List.nil_append]; done) | ((try simp only [go_sem, weakL, accE_one, accE_add1, accB_cons, accB_app, List.length_append, List.length_cons, List.length_nil, toksE_append, toksE_one, toksE, tokE, List.nil_append]); ((repeat' apply And.intro) <;> (first | rfl | trivial | ((try simp only [EV.int.injEq, EV.str.injEq, EV.bool.injEq, EV.tuple.injEq, EV.slice.injEq, List.cons.injEq, true_and, and_true]); first | rfl | omega)))))); (focus (first | trivial | (simp only [go_sem, lessL, accE_one, accE_add1, accB_cons, accB_app, List.length_append, List.length_cons, List.length_nil, toksE_append, toksE_one, toksE, tokE, List.nil_append]; done) | ((try simp only [go_sem, lessL, accE_one, accE_add1, accB_cons, accB_app, List.length_append, List.length_cons, List.length_nil, toksE_append, toksE_one, toksE, tokE, List.nil_append]); ((repeat' apply And.intro) <;> (first | rfl | trivial | ((try simp only [EV.int.injEq, EV.str.injEq, EV.bool.injEq, EV.tuple.injEq, EV.slice.injEq, List.cons.injEq, true_and, and_true]); first | rfl | omega)))))); (try simp only []))
                refine ⟨?_, ?_, ?_⟩; · omega
                · simp only [List.length_append, List.length_cons, List.length_nil]; omega
                · rw [hrun]))
end Go.Proofs.YtnjbdcdjcfhooaaGreatDoor
