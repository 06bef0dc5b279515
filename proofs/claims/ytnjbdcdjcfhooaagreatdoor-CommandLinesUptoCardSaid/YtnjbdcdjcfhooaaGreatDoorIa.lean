/-
  Own work: walks and laws of the functions that the statement reaches; the statement itself stands in the last text.
-/
import Derived.Test.YtnjbdcdjcfhooaaGreatDoorHy
import Derived.Test.YtnjbdcdjcfhooaaGreatDoorHz
namespace Go.Proofs.YtnjbdcdjcfhooaaGreatDoor
open Go.E
set_option linter.all false
set_option maxRecDepth 20000
set_option maxHeartbeats 8000000
def goodB (b : UInt8) : Bool := decide (32 ≤ b.toNat) && decide (b.toNat ≠ 127)
def goodL (s : List UInt8) : Prop := ∀ b ∈ s, goodB b = true
theorem goodL.app {a b : List UInt8} (h : goodL a) (k : goodL b) : goodL (a ++ b) := fun x hx => by
  rcases List.mem_append.1 hx with h1 | h1
  · exact h x h1
  · exact k x h1
theorem goodL.cons {a : UInt8} {b : List UInt8} (h : goodB a = true) (k : goodL b) : goodL (a :: b) := fun x hx => by
  rcases List.mem_cons.1 hx with rfl | h1
  · exact h
  · exact k x h1
theorem goodL.nil : goodL [] := fun x hx => by cases hx
theorem digits_good : ∀ n, goodL (Lib.decDigits n) := by
  intro n
  induction n using Nat.strongRecOn with
  | _ n ih =>
    rw [Lib.decDigits]
    have hd : ∀ d, d < 10 → goodB (UInt8.ofNat (48 + d)) = true := fun d hd => (by decide : ∀ i : Fin 10, goodB (UInt8.ofNat (48 + i.1)) = true) ⟨d, hd⟩
    split
    · exact goodL.cons (hd _ (by omega)) goodL.nil
    · exact (ih (n / 10) (by omega)).app (goodL.cons (hd _ (by omega)) goodL.nil)
theorem itoa_good (n : Int) : goodL (Lib.itoa n) := by
  unfold Lib.itoa
  split
  · exact goodL.cons (by decide) (digits_good _)
  · exact digits_good _
theorem join_good (sep : List UInt8) (hs : goodL sep) (ps : List (List UInt8)) (h : ∀ p ∈ ps, goodL p) : goodL (Lib.join ps sep) := by
  have ht : ∀ l : List (List UInt8), (∀ p ∈ l, goodL p) → goodL (Lib.joinTail sep l) := fun l => by
    induction l with
    | nil => intro _; exact goodL.nil
    | cons p r ih =>
      intro hl
      simp only [Lib.joinTail, List.map_cons, List.flatten_cons] at ih ⊢
      exact (hs.app (hl p (.head _))).app (ih fun q hq => hl q (.tail _ hq))
  cases ps with
  | nil => rw [Lib.join_nil]; exact goodL.nil
  | cons p r => rw [Lib.join_cons]; exact (h p (.head _)).app (ht r fun q hq => h q (.tail _ hq))
theorem dec_high (l : List UInt8) (h : 0 < l.length) (hr : rightB l = true) (h0 : 128 ≤ byt l 0) : ∀ b ∈ l.take (decE l).2, 128 ≤ b.toNat := by
  have key : ∀ w, (∀ k, k < w → 128 ≤ byt l k) → ∀ b ∈ l.take w, 128 ≤ b.toNat := fun w hk b hb => by
    obtain ⟨k, hk1⟩ := List.getElem?_of_mem hb
    rw [List.getElem?_take] at hk1
    split at hk1
    · rename_i hkw
      have := hk k hkw
      unfold byt at this
      rw [List.getD_eq_getElem?_getD, hk1] at this
      exact this
    · cases hk1
  simp only [rightB, decide_eq_true_eq] at hr
  have e := decE_eq l
  rw [if_neg (by omega)] at e
  split at e
  · rename_i h2
    split at e
    · rw [e]; exact key _ fun k hk => by
        rcases (show k = 0 ∨ k = 1 by omega) with rfl | rfl <;> omega
    · rw [e] at hr; simp at hr
  split at e
  · rename_i h3
    split at e
    · rw [e]; exact key _ fun k hk => by
        rcases (show k = 0 ∨ k = 1 ∨ k = 2 by omega) with rfl | rfl | rfl <;> omega
    · rw [e] at hr; simp at hr
  split at e
  · rename_i h4
    split at e
    · rw [e]; exact key _ fun k hk => by
        rcases (show k = 0 ∨ k = 1 ∨ k = 2 ∨ k = 3 by omega) with rfl | rfl | rfl | rfl <;> omega
    · rw [e] at hr; simp at hr
  · rw [e] at hr; simp at hr
theorem hexD_good (k : Nat) (h : k < 16) : goodB (hexD.getD k 0) = true := (by decide : ∀ i : Fin 16, goodB (hexD.getD i.1 0) = true) ⟨k, h⟩
theorem byte_good {b : UInt8} (h : 32 ≤ b.toNat) (h2 : b.toNat ≠ 127) : goodB b = true := by unfold goodB; rw [decide_eq_true h, decide_eq_true h2]; rfl
theorem chQ_good (l : List UInt8) (h : 0 < l.length) : goodL (chQ l) := by
  unfold chQ
  split
  · rename_i h1
    have := (decE_ascii l (by omega)).1
    exact goodL.cons (by decide) (goodL.cons (byte_good (by omega) (by omega)) goodL.nil)
  split
  · exact goodL.cons (by decide) (goodL.cons (by decide) goodL.nil)
  split
  · exact goodL.cons (by decide) (goodL.cons (by decide) goodL.nil)
  split
  · exact goodL.cons (by decide) (goodL.cons (by decide) goodL.nil)
  split
  · have hc := UInt8.toNat_lt (l.getD 0 0)
    exact goodL.cons (by decide) (goodL.cons (by decide) (goodL.cons (hexD_good _ (by omega)) (goodL.cons (hexD_good _ (by omega)) goodL.nil)))
  rename_i n1 n2 n3 n4 n5
  have hr : rightB l = true := by cases hq : rightB l with
    | true => rfl
    | false => exact absurd (.inl hq) n5
  split
  · rename_i h6
    rcases not_plain h6 (fun h => n5 (.inr (.inl h))) (fun h => n1 (.inl h)) (fun h => n1 (.inr h)) (fun h => n5 (.inr (.inr h))) with e | e | e <;> rw [e] <;> (unfold goodL; decide)
  · by_cases h0 : byt l 0 < 128
    · have hl := (dec_low l).1 h0
      obtain ⟨e1, e2⟩ := decE_ascii l hl
      rw [e2]
      cases l with
      | nil => cases h
      | cons a r =>
        simp only [List.getD_cons_zero] at e1
        rw [List.take_succ_cons, List.take_zero]
        exact goodL.cons (byte_good (by rw [e1]; exact Nat.le_of_not_lt fun hh => n5 (.inr (.inl hh))) (by rw [e1]; exact fun hh => n5 (.inr (.inr hh)))) goodL.nil
    · exact fun b hb => by
        have := dec_high l h hr (by omega) b hb
        exact byte_good (by omega) (by omega)
theorem quoL_good (s : List UInt8) : ∀ n i, s.length - i = n → goodL (quoL s i) := by
  intro n
  induction n using Nat.strongRecOn with
  | _ n ih =>
    intro i hi
    by_cases h : i < s.length
    · rw [quoL_step h]
      have := decE_pos (s.drop i)
      exact (chQ_good _ (by rw [List.length_drop]; omega)).app (ih (s.length - (i + (decE (s.drop i)).2)) (by omega) _ rfl)
    · rw [quoL_end (by omega)]; exact goodL.cons (by decide) goodL.nil
theorem quoteL_good (s : List UInt8) : goodL (quoteL s) := goodL.cons (by decide) (quoL_good s _ 0 rfl)
theorem namesS_good (s : List UInt8) : goodL (namesS s) := by
  unfold namesS
  split
  · rename_i hw
    unfold wordB at hw
    simp only [Bool.and_eq_true] at hw
    intro b hb
    have := List.all_eq_true.1 hw.2 b hb
    unfold runB at this
    simp only [decide_eq_true_eq, Bool.or_eq_true, Bool.and_eq_true] at this
    exact byte_good (by omega) (by omega)
  · exact quoteL_good s
theorem rowL_good (l : List Int) : goodL (rowL l) := join_good _ (by unfold goodL; decide) _ fun p hp => by
  obtain ⟨n, -, rfl⟩ := List.mem_map.1 hp
  exact itoa_good n
theorem gravS_good (g : Int) : goodL (gravS g) := by
  unfold gravS
  split
  · rename_i h
    rcases (show g = 0 ∨ g = 1 by omega) with rfl | rfl <;> (unfold goodL; decide)
  · exact itoa_good g
theorem joinS_good {ps : List (List UInt8)} (h : ∀ p ∈ ps, goodL p) : goodL (joinS ps) := by
  unfold joinS
  split
  · unfold goodL; decide
  · exact join_good _ (by unfold goodL; decide) _ h
theorem showL_good (k : Int) (r : Rp) (ms : List Mk) (cs : List Cu) (ns : List (List UInt8)) : goodL (showL k r ms cs ns) := by
  unfold showL
  split
  · exact goodL.app (by unfold goodL; decide) (itoa_good _)
  split
  · exact quoteL_good _
  split
  · exact itoa_good _
  split
  · exact rowL_good _
  split
  · exact joinS_good fun p hp => by
      obtain ⟨m, -, rfl⟩ := List.mem_map.1 hp
      exact ((rowL_good _).app (goodL.cons (by decide) goodL.nil)).app (gravS_good _)
  split
  · exact joinS_good fun p hp => by
      obtain ⟨m, -, rfl⟩ := List.mem_map.1 hp
      exact rowL_good _
  split
  · exact joinS_good fun p hp => by
      obtain ⟨m, -, rfl⟩ := List.mem_map.1 hp
      exact namesS_good _
  split
  · refine joinS_good fun p hp => ?_
    split at hp
    · obtain rfl := List.mem_singleton.1 hp; exact rowL_good _
    · cases hp
  split
  · refine join_good _ (by unfold goodL; decide) _ fun p hp => ?_
    unfold stsP at hp
    simp only [List.mem_cons, List.not_mem_nil, or_false] at hp
    rcases hp with rfl | rfl | rfl | rfl | rfl | rfl | rfl | rfl | rfl
    all_goals exact goodL.app (by unfold goodL; decide) (goodL.app (by unfold goodL; decide) (itoa_good _))
  · unfold goodL; decide
end Go.Proofs.YtnjbdcdjcfhooaaGreatDoor
namespace Go.Proofs.YtnjbdcdjcfhooaaGreatDoor
open Go.E Go.ChangeShapes Go.WideShapes Go.ChangeAt Go.RowKit
set_option linter.all false
set_option maxRecDepth 20000
set_option maxHeartbeats 16000000
theorem itoa_pos (n : Int) : 0 < (Lib.itoa n).length := by
  have hd : ∀ m, 0 < (Lib.decDigits m).length := fun m => by
    rw [Lib.decDigits]; split <;> simp
  unfold Lib.itoa
  split
  · simp
  · exact hd _
theorem join_pos {sep : List UInt8} {ps : List (List UInt8)} (h : ps ≠ []) (hp : ∀ p ∈ ps, 0 < p.length) : 0 < (Lib.join ps sep).length := by
  cases ps with
  | nil => exact absurd rfl h
  | cons p r => rw [Lib.join_cons, List.length_append]; have := hp p (.head _); omega
theorem joinS_pos {ps : List (List UInt8)} (hp : ∀ p ∈ ps, 0 < p.length) : 0 < (joinS ps).length := by
  unfold joinS
  split
  · decide
  · rename_i h; exact join_pos h hp
theorem rowL_pos {a : Int} {l : List Int} : 0 < (rowL (a :: l)).length := join_pos (by simp) fun p hp => by
  obtain ⟨n, -, rfl⟩ := List.mem_map.1 hp
  exact itoa_pos n
theorem namesS_pos (s : List UInt8) : 0 < (namesS s).length := by
  unfold namesS
  split
  · rename_i hw
    unfold wordB at hw
    simp only [Bool.and_eq_true, decide_eq_true_eq] at hw
    exact List.length_pos_iff.2 hw.1.1
  · simp [quoteL]
theorem showL_pos (k : Int) (r : Rp) (ms : List Mk) (cs : List Cu) (ns : List (List UInt8)) : 0 < (showL k r ms cs ns).length := by
  unfold showL
  split
  · simp [errL]
  split
  · simp [quoteL]
  split
  · exact itoa_pos _
  split
  · exact rowL_pos
  split
  · exact joinS_pos fun p hp => by
      obtain ⟨m, -, rfl⟩ := List.mem_map.1 hp
      simp [markS]; omega
  split
  · exact joinS_pos fun p hp => by
      obtain ⟨m, -, rfl⟩ := List.mem_map.1 hp
      exact rowL_pos
  split
  · exact joinS_pos fun p hp => by
      obtain ⟨m, -, rfl⟩ := List.mem_map.1 hp
      exact namesS_pos _
  split
  · refine joinS_pos fun p hp => ?_
    split at hp
    · obtain rfl := List.mem_singleton.1 hp; exact rowL_pos
    · cases hp
  split
  · simp [statL, stsP, Lib.join_cons]
  · decide
theorem line_c (G : List Gl) (s : List UInt8) (h63 : s.length ≤ 9223372036854775806) (h0 : 0 < s.length) (hg : goodL s) : E.Pure G Tryz.prog 22 [.str s] (.bool true) := by
  refine pure_hid fun V hV => ?_
  refine ecalls_in 23 [.tmp 2] Tryz.func22 rfl rfl rfl (by kernel_rfl) (le_ble rfl) ?_
  repeat' (first | refine esem_seqK 524429 ?_ | refine esem_block ?_ | (refine stp ?_; simp only [go_sem]) | (simp (disch := omega) only [wE]) | (refine spl (fun h => ?_) (fun h => ?_) <;> first | (exfalso; omega) | ((try simp only [opRun, opSkip, stepRun, pickZ]); (try simp only [go_sem, h]))) | (refine and_om ?_ ?_; focus omega))
  refine esem_loopS (fun x : Nat => [(0, .str s), (3, .int .i64 x)]) (fun x : Nat => []) (fun x : Nat => 0) (fun x : Nat => x ≤ s.length) (fun x : Nat => s.length - x) ((0 : Nat)) (fun z hz => ⟨by simp [frBel], by first | trivial | simp, by first | exact Nat.le_refl _ | exact Nat.zero_le _ | omega | (simp only []; omega)⟩) (by exact Nat.zero_le _) (by first | (simp only [go_sem, weakL]; done) | ((try simp only [go_sem, weakL]); ((repeat' apply And.intro) <;> (first | rfl | trivial | ((try simp only [EV.int.injEq, EV.str.injEq, EV.bool.injEq, EV.tuple.injEq, EV.slice.injEq, List.cons.injEq, true_and, and_true]); first | rfl | omega))))) (by first | trivial | (simp only [go_sem, lessL]; done) | ((try simp only [go_sem, lessL]); ((repeat' apply And.intro) <;> (first | rfl | trivial | ((try simp only [EV.int.injEq, EV.str.injEq, EV.bool.injEq, EV.tuple.injEq, EV.slice.injEq, List.cons.injEq, true_and, and_true]); first | rfl | omega))))) ?_
  rintro i zz
  try simp only []
  by_cases hi : i < s.length
  · have hb := hg (s.getD i 0) (by rw [List.getD_eq_getElem?_getD, List.getElem?_eq_getElem hi]; exact List.getElem_mem hi)
    unfold goodB at hb
    simp only [Bool.and_eq_true, decide_eq_true_eq] at hb
    obtain ⟨hb1, hb2⟩ := hb
    repeat' (first | refine esem_seqK 524429 ?_ | refine esem_block ?_ | (refine stp ?_; simp only [go_sem]) | (simp (disch := omega) only [wE]) | (refine spl (fun h => ?_) (fun h => ?_) <;> first | (exfalso; omega) | ((try simp only [opRun, opSkip, stepRun, pickZ]); (try simp only [go_sem, h]))) | (refine and_om ?_ ?_; focus omega))
    all_goals
      (refine ⟨(i + 1), ?_, ?_, rfl, rfl, ?_, ?_⟩; rotate_left; (focus (first | omega | (simp only []; omega))); (focus (first | (simp only [go_sem, weakL]; done) | ((try simp only [go_sem, weakL]); ((repeat' apply And.intro) <;> (first | rfl | trivial | ((try simp only [EV.int.injEq, EV.str.injEq, EV.bool.injEq, EV.tuple.injEq, EV.slice.injEq, List.cons.injEq, true_and, and_true]); first | rfl | omega)))))); (focus (first | trivial | (simp only [go_sem, lessL]; done) | ((try simp only [go_sem, lessL]); ((repeat' apply And.intro) <;> (first | rfl | trivial | ((try simp only [EV.int.injEq, EV.str.injEq, EV.bool.injEq, EV.tuple.injEq, EV.slice.injEq, List.cons.injEq, true_and, and_true]); first | rfl | omega)))))); (try simp only []))
      omega
  · obtain rfl : i = s.length := by omega
    repeat' (first | refine esem_seqK 524429 ?_ | refine esem_block ?_ | (refine stp ?_; simp only [go_sem]) | (simp (disch := omega) only [wE]) | (refine spl (fun h => ?_) (fun h => ?_) <;> first | (exfalso; omega) | ((try simp only [opRun, opSkip, stepRun, pickZ]); (try simp only [go_sem, h]))) | (refine and_om ?_ ?_; focus omega))
    all_goals ((refine done_zero (by simp [EV.bel, allBelow]) ?_; rw [hV]); rw [decide_eq_true (by omega)])
theorem unquote_c (G : List Gl) (t u : TypeId) (h3 : gFirst t ∈ G) (h4 : gAcc u ∈ G) (s : List UInt8) (h63 : s.length ≤ 16384) (x : List UInt8) (hs : s = quoteL x) : E.Pure G Tryz.prog 23 [.str s] (.tuple [.str x, .nilIface]) := by
  refine pure_hid fun V hV => ?_
  have qc := quoted_c G t u h3 h4 s (by omega)
  have hq := quoG_quote x []
  rw [List.append_nil, ← hs] at hq
  rw [hq] at qc
  have h0 : s ≠ [] := by rw [hs]; simp [quoteL]
  have h1 : (s.getD 0 0).toNat = 34 := by rw [hs]; rfl
  have h2 : 0 < s.length := List.length_pos_iff.2 h0
  clear hs hq
  refine ecalls_in 42 [.tmp 2, .tmp 3] Tryz.func23 rfl rfl rfl (by kernel_rfl) (le_ble rfl) ?_
  repeat' (first | refine esem_seqK 68720001661 ?_ | refine esem_block ?_ | (refine stp ?_; simp only [go_sem, quoE, h1]) | (refine Pure.at (qc) (by simp) (by simp) rfl ?_; (try simp only [go_sem, quoE, h1])) | (simp (disch := omega) only [wE]) | (refine spl (fun h => ?_) (fun h => ?_) <;> first | (exfalso; omega) | ((try simp only [opRun, opSkip, stepRun, pickZ]); (try simp only [go_sem, quoE, h1, h]))) | (refine and_om ?_ ?_; focus omega))
  all_goals first | (exfalso; exact h0 ‹_›) | (refine done_zero (by simp [EV.bel, allBelow]) ?_; rw [hV])
theorem unquote_long (G : List Gl) (s : List UInt8) (h : 16384 < s.length) (h63 : s.length ≤ 9223372036854775806) : Eff G Tryz.prog 23 [.str s] [] 0 (.tuple [.str [], .iface 68 (.ptr (some ⟨0, 0⟩))]) [(0, faultC 4 0)] 1 := by
  unfold Eff faultC
  refine ecalls_in 42 [.tmp 2, .tmp 3] Tryz.func23 rfl rfl rfl (by kernel_rfl) (le_ble rfl) ?_
  repeat' (first | refine esem_seqK 68720001661 ?_ | refine esem_block ?_ | (refine stp ?_; simp only [go_sem]) | (simp (disch := omega) only [wE]) | (refine spl (fun h => ?_) (fun h => ?_) <;> first | (exfalso; omega) | ((try simp only [opRun, opSkip, stepRun, pickZ]); (try simp only [go_sem, h]))) | (refine and_om ?_ ?_; focus omega))
  all_goals exact done_ef2 [0] (by simp) rfl (by simp [mA]) (by simp [bC])
theorem joinS_len {ps : List (List UInt8)} (n B : Nat) (hn : ps.length ≤ n) (h : ∀ p ∈ ps, p.length ≤ B) : (joinS ps).length ≤ n * (B + 2) + 4 := by
  unfold joinS
  split
  · simp [noneL]
  · have h1 := join_lenS B [44, 32] ps h
    simp only [List.length_cons, List.length_nil] at h1
    have h2 : ps.length * (B + (0 + 1 + 1)) ≤ n * (B + 2) := Nat.mul_le_mul hn (Nat.le_refl _)
    omega
theorem showL_len (k : Int) (r : Rp) (hr : rpOK r) (ms : List Mk) (cs : List Cu) (ns : List (List UInt8)) (hm : ∀ m ∈ ms, mkOK m) (hc : ∀ m ∈ cs, cuOK m) (hn : ∀ m ∈ ns, m.length ≤ 1048577) (hMn : ms.length ≤ 1048577) (hCn : cs.length ≤ 1048577) (hNn : ns.length ≤ 1048577) : (showL k r ms cs ns).length ≤ 9000000000000 := by
  obtain ⟨o1, o2, o3, o4, o5, o6, o7, o8⟩ := hr
  unfold showL
  split
  · have := itoa_lenI _ o1
    simp only [errL, List.length_append, List.length_cons, List.length_nil]; omega
  split
  · have := quoteL_len r.text; omega
  split
  · have := itoa_lenI _ o2; omega
  split
  · have := rowL_len2 _ _ o3 o4; omega
  split
  · have := joinS_len 1048577 66 (ps := ms.map markS) (by simpa using hMn) (fun p hp => by
      obtain ⟨m, h, rfl⟩ := List.mem_map.1 hp
      exact markS_len (hm m h))
    omega
  split
  · have := joinS_len 1048577 88 (ps := cs.map curS) (by simpa using hCn) (fun p hp => by
      obtain ⟨m, h, rfl⟩ := List.mem_map.1 hp
      exact curS_len (hc m h))
    omega
  split
  · have := joinS_len 1048577 8388618 (ps := ns.map namesS) (by simpa using hNn) (fun p hp => by
      obtain ⟨m, h, rfl⟩ := List.mem_map.1 hp
      have h1 := namesS_len m
      have h2 := hn m h
      omega)
    omega
  split
  · have := joinS_len 1 44 (ps := if r.found = true then [rowL [r.frm, r.to]] else []) (by split <;> simp) (fun p hp => by
      split at hp
      · obtain rfl := List.mem_singleton.1 hp; exact rowL_len2 _ _ o6 o7
      · cases hp)
    omega
  split
  · obtain ⟨h0, h1, h2, h3, h4, h5, h6, h7, h8⟩ := o8
    have l0 := itoa_lenI _ h0
    have l1 := itoa_lenI _ h1
    have l2 := itoa_lenI _ h2
    have l3 := itoa_lenI _ h3
    have l4 := itoa_lenI _ h4
    have l5 := itoa_lenI _ h5
    have l6 := itoa_lenI _ h6
    have l7 := itoa_lenI _ h7
    have l8 := itoa_lenI _ h8
    have hl := join_len 40 (stsP r.st) (by
      intro p hp
      simp only [stsP, List.mem_cons, List.not_mem_nil, or_false] at hp
      rcases hp with rfl | rfl | rfl | rfl | rfl | rfl | rfl | rfl | rfl <;> simp only [List.length_append, List.length_cons, List.length_nil] <;> omega)
    have e : (stsP r.st).length = 9 := rfl
    rw [e] at hl
    unfold statL; omega
  · decide
theorem lines_law (G : List Gl) (te t u tz tp : TypeId) (v : List Value) (hGe : gErr te ∈ G) (h3 : gFirst t ∈ G) (h4 : gAcc u ∈ G) (hv : v[15]? = some (.int .u8 4)) (hG : gTz v tz ∈ G) (hp : gPow tp ∈ G) (c : Cmd) (r : Rp) (hr : rpOK r) (mk cu na : EV) (ms : List Mk) (cs : List Cu) (ns : List (List UInt8)) (A B C : List (Nat × EO)) (hA0 : Arg3 mk 0 ms (mksE ms) A) (hB0 : Arg3 cu 1 cs (cusE cs) B) (hC0 : Arg3 na 2 ns (strsE ns) C)
    (hm : ∀ m ∈ ms, mkOK m) (hc : ∀ m ∈ cs, cuOK m) (hn : ∀ m ∈ ns, m.length ≤ 1048577) (hMn : ms.length ≤ 1048577) (hCn : cs.length ≤ 1048577) (hNn : ns.length ≤ 1048577) :
    Eff G Tryz.prog 9 [.agg (cmdE c), .agg (rpE r mk cu na)] (A ++ (B ++ C)) 3 (.bool true) [] 3 := by
  have aw := awake_c G te t u tz tp v hGe h3 h4 hv hG hp
  have hA := hA0.sl (fun h => by rw [List.length_eq_zero_iff.1 h]; rfl)
  have hB := hB0.sl (fun h => by rw [List.length_eq_zero_iff.1 h]; rfl)
  have hC := hC0.sl (fun h => by rw [List.length_eq_zero_iff.1 h]; rfl)
  have sh := show_all G t u tz tp v h3 h4 hv hG hp c r hr mk cu na ms cs ns A B C hA hB hC hm hc hn hMn hCn hNn
  have ln := showL_len c.kind r hr ms cs ns hm hc hn hMn hCn hNn
  have lc := line_c G _ (by omega) (showL_pos c.kind r ms cs ns) (showL_good c.kind r ms cs ns)
  clear hm hc hn hA0 hB0 hC0
  obtain ⟨k, d, id, fr, to, tx, g⟩ := c
  obtain ⟨err, num, line, col, text, found, frm, rto, st⟩ := r
  obtain ⟨o1, o2, o3, o4, o5, o6, o7, o8⟩ := hr
  simp only at sh ln lc o1 o5
  unfold Eff
  by_cases he : err = 0
  · subst he
    by_cases h14 : k = 14
    · subst h14
      have e : showL 14 ⟨0, num, line, col, text, found, frm, rto, st⟩ ms cs ns = quoteL text := by simp [showL]
      rw [e] at sh ln lc
      have uq := fun h => unquote_c G t u h3 h4 (quoteL text) h text rfl
      have ul := fun h => unquote_long G (quoteL text) h (by omega)
      generalize quoteL text = out at sh ln lc uq ul
      by_cases hl : 16384 < out.length
      · replace ul := ul hl
        clear uq
        rcases hA with ⟨rfl, -, rfl⟩ | ⟨rfl, y, z, w, rfl⟩ <;> rcases hB with ⟨rfl, -, rfl⟩ | ⟨rfl, y2, z2, w2, rfl⟩ <;> rcases hC with ⟨rfl, -, rfl⟩ | ⟨rfl, y3, z3, w3, rfl⟩ <;> simp only [List.nil_append, List.cons_append] at sh ⊢
        all_goals
          refine ecalls_in 64 [.tmp 4] Tryz.func9 rfl rfl rfl (by kernel_rfl) (le_ble rfl) ?_
          repeat' (first | refine esem_seqK 8590230271 ?_ | refine esem_block ?_ | (refine stp ?_; simp only [go_sem]) | (refine Pure.at (aw) (by simp) (by simp) rfl ?_; (try simp only [go_sem])) | (refine Eff.at2 (sh ) [0, 1, 2] rfl (by first | (simp; done) | (simp; omega) | (simp [bC]; done) | omega) rfl ?_; (try simp only [go_sem])) | (refine Pure.at (lc) (by simp) (by simp) rfl ?_; (try simp only [go_sem])) | (refine Eff.at2 (ul ) [] rfl (by first | (simp; done) | (simp; omega) | (simp [bC]; done) | omega) rfl ?_; (try simp only [go_sem])) | (simp (disch := omega) only [wE]) | (refine spl (fun h => ?_) (fun h => ?_) <;> first | (exfalso; omega) | ((try simp only [opRun, opSkip, stepRun, pickZ]); (try simp only [go_sem, h]))) | (refine and_om ?_ ?_; focus omega))
          all_goals exact done_ef2 [] (by simp) rfl (by simp [mA]) (by simp [bC])
      · replace uq := uq (by omega)
        clear ul
        rcases hA with ⟨rfl, -, rfl⟩ | ⟨rfl, y, z, w, rfl⟩ <;> rcases hB with ⟨rfl, -, rfl⟩ | ⟨rfl, y2, z2, w2, rfl⟩ <;> rcases hC with ⟨rfl, -, rfl⟩ | ⟨rfl, y3, z3, w3, rfl⟩ <;> simp only [List.nil_append, List.cons_append] at sh ⊢
        all_goals
          refine ecalls_in 64 [.tmp 4] Tryz.func9 rfl rfl rfl (by kernel_rfl) (le_ble rfl) ?_
          repeat' (first | refine esem_seqK 8590230271 ?_ | refine esem_block ?_ | (refine stp ?_; simp only [go_sem]) | (refine Pure.at (aw) (by simp) (by simp) rfl ?_; (try simp only [go_sem])) | (refine Eff.at2 (sh ) [0, 1, 2] rfl (by first | (simp; done) | (simp; omega) | (simp [bC]; done) | omega) rfl ?_; (try simp only [go_sem])) | (refine Pure.at (lc) (by simp) (by simp) rfl ?_; (try simp only [go_sem])) | (refine Pure.at (uq) (by simp) (by simp) rfl ?_; (try simp only [go_sem])) | (simp (disch := omega) only [wE]) | (refine spl (fun h => ?_) (fun h => ?_) <;> first | (exfalso; omega) | ((try simp only [opRun, opSkip, stepRun, pickZ]); (try simp only [go_sem, h]))) | (refine and_om ?_ ?_; focus omega))
          all_goals exact done_ef2 [] (by simp) rfl (by simp [mA]) (by simp [bC])
    · by_cases hk : 14 ≤ k ∧ k ≤ 22
      · generalize showL k ⟨0, num, line, col, text, found, frm, rto, st⟩ ms cs ns = out at sh ln lc
        rcases hA with ⟨rfl, -, rfl⟩ | ⟨rfl, y, z, w, rfl⟩ <;> rcases hB with ⟨rfl, -, rfl⟩ | ⟨rfl, y2, z2, w2, rfl⟩ <;> rcases hC with ⟨rfl, -, rfl⟩ | ⟨rfl, y3, z3, w3, rfl⟩ <;> simp only [List.nil_append, List.cons_append] at sh ⊢
        all_goals
          refine ecalls_in 64 [.tmp 4] Tryz.func9 rfl rfl rfl (by kernel_rfl) (le_ble rfl) ?_
          repeat' (first | refine esem_seqK 8590230271 ?_ | refine esem_block ?_ | (refine stp ?_; simp only [go_sem]) | (refine Pure.at (aw) (by simp) (by simp) rfl ?_; (try simp only [go_sem])) | (refine Eff.at2 (sh ) [0, 1, 2] rfl (by first | (simp; done) | (simp; omega) | (simp [bC]; done) | omega) rfl ?_; (try simp only [go_sem])) | (refine Pure.at (lc) (by simp) (by simp) rfl ?_; (try simp only [go_sem])) | (simp (disch := omega) only [wE]) | (refine spl (fun h => ?_) (fun h => ?_) <;> first | (exfalso; omega) | ((try simp only [opRun, opSkip, stepRun, pickZ]); (try simp only [go_sem, h]))) | (refine and_om ?_ ?_; focus omega))
          all_goals first | (exfalso; omega) | exact done_ef2 [] (by simp) rfl (by simp [mA]) (by simp [bC])
      · have e : showL k ⟨0, num, line, col, text, found, frm, rto, st⟩ ms cs ns = [111, 107] := by
          simp only [showL, ne_eq, not_true_eq_false, if_false]
          (repeat (first | rw [if_pos (by omega)] | rw [if_neg (by omega)]))
        rw [e] at sh ln lc
        rcases hA with ⟨rfl, -, rfl⟩ | ⟨rfl, y, z, w, rfl⟩ <;> rcases hB with ⟨rfl, -, rfl⟩ | ⟨rfl, y2, z2, w2, rfl⟩ <;> rcases hC with ⟨rfl, -, rfl⟩ | ⟨rfl, y3, z3, w3, rfl⟩ <;> simp only [List.nil_append, List.cons_append] at sh ⊢
        all_goals
          refine ecalls_in 64 [.tmp 4] Tryz.func9 rfl rfl rfl (by kernel_rfl) (le_ble rfl) ?_
          repeat' (first | refine esem_seqK 8590230271 ?_ | refine esem_block ?_ | (refine stp ?_; simp only [go_sem]) | (refine Pure.at (aw) (by simp) (by simp) rfl ?_; (try simp only [go_sem])) | (refine Eff.at2 (sh ) [0, 1, 2] rfl (by first | (simp; done) | (simp; omega) | (simp [bC]; done) | omega) rfl ?_; (try simp only [go_sem])) | (refine Pure.at (lc) (by simp) (by simp) rfl ?_; (try simp only [go_sem])) | (simp (disch := omega) only [wE]) | (refine spl (fun h => ?_) (fun h => ?_) <;> first | (exfalso; omega) | ((try simp only [opRun, opSkip, stepRun, pickZ]); (try simp only [go_sem, h]))) | (refine and_om ?_ ?_; focus omega))
          all_goals first | (exfalso; omega) | exact done_ef2 [] (by simp) rfl (by simp [mA]) (by simp [bC])
  · have e : showL k ⟨err, num, line, col, text, found, frm, rto, st⟩ ms cs ns = errL ++ Lib.itoa err := by
      simp only [showL]; rw [if_pos he]
    have se := show_err G tp hp zCmd err he o1
    rw [e] at sh ln lc
    have h6 : List.take 6 (errL ++ Lib.itoa err) = errL := rfl
    have h7 : 6 ≤ (errL ++ Lib.itoa err).length := by simp [errL]
    generalize errL ++ Lib.itoa err = out at sh ln lc se h6 h7
    simp only [zCmd, cmdE] at se
    simp only [errL] at h6
    rcases hA with ⟨rfl, -, rfl⟩ | ⟨rfl, y, z, w, rfl⟩ <;> rcases hB with ⟨rfl, -, rfl⟩ | ⟨rfl, y2, z2, w2, rfl⟩ <;> rcases hC with ⟨rfl, -, rfl⟩ | ⟨rfl, y3, z3, w3, rfl⟩ <;> simp only [List.nil_append, List.cons_append] at sh ⊢
    all_goals
      refine ecalls_in 64 [.tmp 4] Tryz.func9 rfl rfl rfl (by kernel_rfl) (le_ble rfl) ?_
      repeat' (first | refine esem_seqK 8590230271 ?_ | refine esem_block ?_ | (refine stp ?_; simp only [go_sem, h6]) | (refine Pure.at (aw) (by simp) (by simp) rfl ?_; (try simp only [go_sem, h6])) | (refine Eff.at2 (sh ) [0, 1, 2] rfl (by first | (simp; done) | (simp; omega) | (simp [bC]; done) | omega) rfl ?_; (try simp only [go_sem, h6])) | (refine Pure.at (lc) (by simp) (by simp) rfl ?_; (try simp only [go_sem, h6])) | (refine Pure.at (se) (by simp) (by simp) rfl ?_; (try simp only [go_sem, h6])) | (simp (disch := omega) only [wE]) | (refine spl (fun h => ?_) (fun h => ?_) <;> first | (exfalso; omega) | ((try simp only [opRun, opSkip, stepRun, pickZ]); (try simp only [go_sem, h6, h]))) | (refine and_om ?_ ?_; focus omega))
      all_goals exact done_ef2 [] (by simp) rfl (by simp [mA]) (by simp [bC])
end Go.Proofs.YtnjbdcdjcfhooaaGreatDoor
namespace Go.Proofs.YtnjbdcdjcfhooaaGreatDoor
open Go.E Go.ChangeShapes Go.WideShapes Go.ChangeAt Go.RowKit
set_option linter.all false
set_option maxRecDepth 100000
set_option maxHeartbeats 8000000
theorem commandLines_lifted (os : Os) (started : os.Started) (H : Type) (enc : TypeId × Value → H) (F : Stop.Interp) :
    ReturnsInHanded {} Tryz.checked os 9 .any ((Rows.OpenSpec.upto Rows.commandLinesSpec).preRow enc Tryz.prog Tryz.f9 Rows.commandLinesUptoRow.domain false Rows.commandLinesUptoRow.laid) (((Rows.OpenSpec.upto Rows.commandLinesSpec).at F).post enc Tryz.prog Tryz.f9 false true false false) := by
  have hx : DataW.whole enc Tryz.prog ((witW os).forCall (fun _ _ => 0) ⟨#[], #[cmdWit, rpWit], []⟩).memory Tryz.f9.params.toList Rows.commandLinesSpec.vars false #[cmdWit, rpWit].toList 8 =
      some ([.agg [.lit (.int .i64 0), .lit (.string []), .lit (.int .u32 0), .lit (.int .i64 0), .lit (.int .i64 0), .lit (.string []), .lit (.int .u8 0)], .agg [.lit (.int .i64 0), .lit (.int .i64 0), .agg [.lit (.int .i64 0), .lit (.int .i64 0)], .lit (.string []), .lit (.bool false), .agg [.lit (.int .i64 0), .lit (.int .i64 0)], .nil, .nil, .nil, .agg [.lit (.int .i64 0), .lit (.int .i64 0), .lit (.int .i64 0), .lit (.int .i64 0), .lit (.int .i64 0), .lit (.int .i64 0), .lit (.int .i64 0), .lit (.int .i64 0), .lit (.int .i64 0)]]], [], []) := by kernel_rfl
  have hok : Input.okWideB Tryz.prog ((witW os).forCall (fun _ _ => 0) ⟨#[], #[cmdWit, rpWit], []⟩) 9 ⟨#[], #[cmdWit, rpWit], []⟩ = true := by kernel_rfl
  refine returnsInHanded_of_row (C := Tryz.checked) (s := Rows.OpenSpec.upto Rows.commandLinesSpec) own started (by kernel_rfl) Tryz.func9
    ⟨witW os, fun _ _ => 0, ⟨#[], #[cmdWit, rpWit], []⟩, witW_os os, World.shaped_of_ZipB (by kernel_rfl) (by kernel_rfl), rfl, (Input.okWide_of_okWideB hok).2,
      OpenSpec.preRow_of_cond 8 hx (by kernel_rfl) (fun k hk => by cases hk; kernel_rfl) (by kernel_rfl) (witW_met os _), by
        simp only [Assume.holds]
        exact ⟨by simp, by simp, fun h => by simp at h, by simp, by simp⟩⟩ ?_
  intro W base args ds gs before hval0 hW _ hcond _ hL _ _
  have hval : ∀ (j : Nat) t v, Tryz.f9.params[j]? = some t → args[j]? = some v → Value.okWide Tryz.prog W .any base t v := hval0
  have hW' := hW
  obtain ⟨p, q, hA0, hV, rfl, hfz, hnd⟩ := hW
  have hA : DataW.TrodAll enc Tryz.prog W 0 (fun _ => true) true Tryz.f9.params.toList args.toList ds p := hA0
  rw [Tryz.params9] at hA hval
  have hstay := hA
  obtain ⟨v0, vs0, d0, ds0, p0, q0, hargs, rfl, rfl, h0, r0⟩ := trodAll_cons hA
  obtain ⟨v1, vs1, d1, ds1, p1, q1, rfl, rfl, rfl, h1, r1⟩ := trodAll_cons r0
  obtain ⟨rfl, rfl, rfl⟩ := trodAll_nil r1
  obtain rfl : args = #[v0, v1] := by cases args; simp_all
  obtain ⟨rfl, rfl⟩ := trodVars_none hV
  have hb := of_decide_eq_true (hcond _ rfl)
  simp only [List.append_nil, Rows.uptoBulkAll] at hb
  obtain ⟨k, i, f, t, g, a, b, rfl, b1, b2, b3, b4, b5, b6⟩ := cmdIn (hval 0 24 v0 rfl rfl) h0
  obtain ⟨r, text, vm, vc, vn, ms, cs, ns, rfl, hrt, hro, hrl, hm, hc, hn, lm, lc, ln, sm, sc, sn⟩ := replyIn (hval 1 49 v1 rfl rfl) h1 (by omega)
  obtain ⟨te, tu, u, tz, tp, hg⟩ := glob_of_laid hL
  refine (pair_calls Tryz.func9 rfl (by kernel_rfl) (G := [gErr te, gFirst tu, gAcc u, gTz tzV tz, gPow tp]) hrt hg sm sc sn (fun mk cu na A B C a1 a2 a3 => lines_law _ te tu u tz tp tzV (by simp) (by simp) (by simp) tz15 (by simp) (by simp) _ r hro mk cu na ms cs ns A B C a1 a2 a3 hm hc hn lm lc ln)).mono fun e W' ⟨he, bel⟩ => ?_
  subst he
  exact ⟨_, rfl, _, _, _, [], _, [], hW', trodAll_mk1 (shut_bool Tryz.underlying4 _), args_stay laidOut bel hstay (by intro t ht; simp at ht; rcases ht with rfl | rfl <;> exact ⟨by kernel_rfl, of_decide_eq_true (by kernel_rfl)⟩), rfl, bel.frame _, fun h => by cases h⟩
theorem commandLines_over : Rows.commandLinesUptoRow.holds Tryz.pinned (Rows.OpenSpec.upto Rows.commandLinesSpec) :=
  OpenClaim.holds_of_cond 9 Tryz.f9 rfl rfl rfl rfl rfl rfl rfl ⟨rfl, rfl, rfl, rfl, rfl⟩ rfl rfl rfl rfl rfl (by kernel_rfl) Tryz.func9 (by kernel_rfl)
    (of_decide_eq_true (by kernel_rfl)) (by unfold Func.isWrapper; first | (rw [if_pos (by decide +kernel)]; kernel_rfl) | (rw [if_neg (by decide +kernel)]; exact ⟨rfl, rfl⟩))
    (fun os started H enc _ F => by rw [OpenClaim.pre_eq_preRow]; exact commandLines_lifted os started H enc F)
theorem commandLinesUpto_card : Rows.CommandLinesUptoCardSaid :=
  Claim7.holds_tied_plain_at .later [] _ _ _ _ commandLines_over (fun _ h => by cases h) (by kernel_rfl) (fun _ h => by cases h) commandLinesUpto_row_tie rfl ⟨rfl, rfl⟩ (by kernel_rfl) rfl
    (fun f fn hf hfn => by
      obtain rfl : f = 9 := Option.some.inj ((show Tryz.prog.funcNamed "vellum/vellumlaw26.CommandLines" = some 9 by kernel_rfl).symm.trans hf) |>.symm
      obtain rfl : fn = Tryz.f9 := (Option.some.inj (Tryz.func9.symm.trans hfn)).symm
      exact ⟨by kernel_rfl, fun j t ht => by
        rw [Tryz.params9] at ht
        have hm : t ∈ [24, 49] := by simpa using Array.mem_of_getElem? ht
        have hall : ([24, 49].all fun u => !Tryz.prog.wantsStandIn u) = true := by kernel_rfl
        exact (show Tryz.prog.wantsStandIn t = false by simpa using List.all_eq_true.1 hall t hm)⟩)
    (by kernel_rfl)
end Go.Proofs.YtnjbdcdjcfhooaaGreatDoor
