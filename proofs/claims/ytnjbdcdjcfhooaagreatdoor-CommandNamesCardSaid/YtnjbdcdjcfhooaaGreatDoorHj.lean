/-
  Own work: walks and laws of the functions that the statement reaches; the statement itself stands in the last text.
-/
import Derived.Test.YtnjbdcdjcfhooaaGreatDoorHi
import Derived.Test.YtnjbdcdjcfhooaaGreatDoorEd
namespace Go.Proofs.YtnjbdcdjcfhooaaGreatDoor
open Go.E
set_option linter.all false
set_option maxRecDepth 20000
set_option maxHeartbeats 8000000
theorem decE_ascii (l : List UInt8) (h : (decE l).1 < 128) : (l.getD 0 0).toNat = (decE l).1 ∧ (decE l).2 = 1 := by
  have h0 : (ByteArray.mk l.toArray).get! 0 = l.getD 0 0 := by
    cases l with
    | nil => rfl
    | cons a r => rfl
  revert h
  simp only [decE, Utf8.decode, Utf8.runeError, Nat.zero_add, h0]
  repeat' split
  all_goals (intro h; first | exact ⟨rfl, rfl⟩ | (exfalso; omega) | (exfalso; simp_all; done) | (exfalso; simp_all; omega))
theorem decE_bd (l : List UInt8) : (decE l).1 ≤ 2097151 := by
  have h0 : ∀ k, ((ByteArray.mk l.toArray).get! k).toNat < 256 := fun k => UInt8.toNat_lt _
  simp only [decE, Utf8.decode, Utf8.runeError, Nat.zero_add]
  have a := h0 0; have b := h0 1; have c := h0 2; have d := h0 3
  repeat' split
  all_goals (simp only []; omega)
def hexD : List UInt8 := [48, 49, 50, 51, 52, 53, 54, 55, 56, 57, 97, 98, 99, 100, 101, 102]
def hexP (c : UInt8) : List UInt8 := [hexD.getD (c.toNat / 16) 0, hexD.getD (c.toNat % 16) 0]
theorem hexP_length (c : UInt8) : (hexP c).length = 2 := rfl
def chQ (l : List UInt8) : List UInt8 :=
  if (decE l).1 = 34 ∨ (decE l).1 = 92 then [92, l.getD 0 0] else
  if (decE l).1 = 10 then [92, 110] else if (decE l).1 = 13 then [92, 114] else if (decE l).1 = 9 then [92, 116] else
  if rightB l = false ∨ (decE l).1 < 32 ∨ (decE l).1 = 127 then [92, 120] ++ hexP (l.getD 0 0) else
  if plainB ((decE l).1 : Nat) = false then [92, 117, 123] ++ hexS (decE l).1 ++ [125] else l.take (decE l).2
def quoL (s : List UInt8) (i : Nat) : List UInt8 :=
  if h : i < s.length then chQ (s.drop i) ++ quoL s (i + (decE (s.drop i)).2) else [34]
termination_by s.length - i
decreasing_by have := decE_pos (s.drop i); omega
theorem quoL_step {s : List UInt8} {i : Nat} (h : i < s.length) : quoL s i = chQ (s.drop i) ++ quoL s (i + (decE (s.drop i)).2) := by rw [quoL, dif_pos h]
theorem quoL_end {s : List UInt8} {i : Nat} (h : s.length ≤ i) : quoL s i = [34] := by rw [quoL, dif_neg (by omega)]
def quoteL (s : List UInt8) : List UInt8 := 34 :: quoL s 0
theorem not_plain {r : Nat} (h : plainB (r : Nat) = false) (h1 : ¬ r < 32) (h2 : r ≠ 34) (h3 : r ≠ 92) (h4 : r ≠ 127) : r = 133 ∨ r = 8232 ∨ r = 8233 := by
  unfold plainB at h
  rw [decide_eq_false_iff_not] at h
  omega
theorem chQ_len (l : List UInt8) (h : 0 < l.length) : 0 < (chQ l).length ∧ (chQ l).length ≤ 8 := by
  have := decE_pos l
  have h4 : (decE l).2 ≤ 4 := by
    simp only [decE, Utf8.decode, Utf8.runeError, Utf8.valid, Nat.zero_add]
    repeat' split
    all_goals simp
  have hh : ∀ r, (hexS r).length ≤ 4 := fun r => by unfold hexS; (repeat' split) <;> simp
  have := hh (decE l).1
  unfold chQ
  repeat' split
  all_goals (simp [hexP]; try omega)
theorem chQ_bs {l : List UInt8} {r : Nat} (hr : (decE l).1 = r) (h : r = 34 ∨ r = 92) : chQ l = [92, UInt8.ofNat r] := by
  have := (decE_ascii l (by omega)).1
  have e : l.getD 0 0 = UInt8.ofNat r := by
    apply UInt8.toNat_inj.1
    rw [this, hr]
    rcases h with rfl | rfl <;> rfl
  unfold chQ
  rw [if_pos (by omega), e]
theorem chQ_x {l : List UInt8} (h1 : ¬ ((decE l).1 = 34 ∨ (decE l).1 = 92)) (h2 : (decE l).1 ≠ 10) (h3 : (decE l).1 ≠ 13) (h4 : (decE l).1 ≠ 9) (h : rightB l = false ∨ (decE l).1 < 32 ∨ (decE l).1 = 127) : chQ l = [92, 120] ++ hexP (l.getD 0 0) := by
  unfold chQ; rw [if_neg h1, if_neg h2, if_neg h3, if_neg h4, if_pos h]
theorem chQ_u {l : List UInt8} (h1 : ¬ ((decE l).1 = 34 ∨ (decE l).1 = 92)) (h2 : (decE l).1 ≠ 10) (h3 : (decE l).1 ≠ 13) (h4 : (decE l).1 ≠ 9) (h5 : rightB l = true) (h6 : ¬ (decE l).1 < 32) (h7 : (decE l).1 ≠ 127) : chQ l = if plainB ((decE l).1 : Nat) = false then [92, 117, 123] ++ hexS (decE l).1 ++ [125] else l.take (decE l).2 := by
  unfold chQ; rw [if_neg h1, if_neg h2, if_neg h3, if_neg h4, if_neg (fun h => h.elim (fun h => Bool.noConfusion (h5.symm.trans h)) (fun h => h.elim h6 h7))]
theorem chQ_split (l : List UInt8) :
    ((decE l).1 = 34 ∧ chQ l = [92, 34]) ∨ ((decE l).1 = 92 ∧ chQ l = [92, 92]) ∨ ((decE l).1 = 10 ∧ chQ l = [92, 110]) ∨ ((decE l).1 = 13 ∧ chQ l = [92, 114]) ∨ ((decE l).1 = 9 ∧ chQ l = [92, 116]) ∨
    (((decE l).1 ≠ 34 ∧ (decE l).1 ≠ 92 ∧ (decE l).1 ≠ 10 ∧ (decE l).1 ≠ 13 ∧ (decE l).1 ≠ 9) ∧ rightB l = false ∧ chQ l = [92, 120] ++ hexP (l.getD 0 0)) ∨
    (((decE l).1 ≠ 34 ∧ (decE l).1 ≠ 92 ∧ (decE l).1 ≠ 10 ∧ (decE l).1 ≠ 13 ∧ (decE l).1 ≠ 9) ∧ rightB l = true ∧ (decE l).1 < 32 ∧ chQ l = [92, 120] ++ hexP (l.getD 0 0)) ∨
    (((decE l).1 ≠ 34 ∧ (decE l).1 ≠ 92 ∧ (decE l).1 ≠ 10 ∧ (decE l).1 ≠ 13 ∧ (decE l).1 ≠ 9) ∧ rightB l = true ∧ (decE l).1 = 127 ∧ chQ l = [92, 120] ++ hexP (l.getD 0 0)) ∨
    (((decE l).1 ≠ 34 ∧ (decE l).1 ≠ 92 ∧ (decE l).1 ≠ 10 ∧ (decE l).1 ≠ 13 ∧ (decE l).1 ≠ 9) ∧ rightB l = true ∧ 32 ≤ (decE l).1 ∧ (decE l).1 ≠ 127 ∧ plainB ((decE l).1 : Nat) = false ∧ chQ l = [92, 117, 123] ++ hexS (decE l).1 ++ [125]) ∨
    (((decE l).1 ≠ 34 ∧ (decE l).1 ≠ 92 ∧ (decE l).1 ≠ 10 ∧ (decE l).1 ≠ 13 ∧ (decE l).1 ≠ 9) ∧ rightB l = true ∧ 32 ≤ (decE l).1 ∧ (decE l).1 ≠ 127 ∧ plainB ((decE l).1 : Nat) = true ∧ chQ l = l.take (decE l).2) := by
  by_cases h1 : (decE l).1 = 34
  · exact .inl ⟨h1, chQ_bs (r := 34) h1 (.inl rfl)⟩
  by_cases h2 : (decE l).1 = 92
  · exact .inr (.inl ⟨h2, chQ_bs (r := 92) h2 (.inr rfl)⟩)
  have h12 : ¬ ((decE l).1 = 34 ∨ (decE l).1 = 92) := by omega
  by_cases h3 : (decE l).1 = 10
  · exact .inr (.inr (.inl ⟨h3, by unfold chQ; rw [if_neg h12, if_pos h3]⟩))
  by_cases h4 : (decE l).1 = 13
  · exact .inr (.inr (.inr (.inl ⟨h4, by unfold chQ; rw [if_neg h12, if_neg h3, if_pos h4]⟩)))
  by_cases h5 : (decE l).1 = 9
  · exact .inr (.inr (.inr (.inr (.inl ⟨h5, by unfold chQ; rw [if_neg h12, if_neg h3, if_neg h4, if_pos h5]⟩))))
  cases hR : rightB l with
  | false => exact .inr (.inr (.inr (.inr (.inr (.inl ⟨⟨h1, h2, h3, h4, h5⟩, rfl, chQ_x h12 h3 h4 h5 (.inl hR)⟩)))))
  | true =>
    by_cases h6 : (decE l).1 < 32
    · exact .inr (.inr (.inr (.inr (.inr (.inr (.inl ⟨⟨h1, h2, h3, h4, h5⟩, rfl, h6, chQ_x h12 h3 h4 h5 (.inr (.inl h6))⟩))))))
    by_cases h7 : (decE l).1 = 127
    · exact .inr (.inr (.inr (.inr (.inr (.inr (.inr (.inl ⟨⟨h1, h2, h3, h4, h5⟩, rfl, h7, chQ_x h12 h3 h4 h5 (.inr (.inr h7))⟩)))))))
    have hu := chQ_u h12 h3 h4 h5 hR h6 h7
    cases hP : plainB ((decE l).1 : Nat) with
    | false => exact .inr (.inr (.inr (.inr (.inr (.inr (.inr (.inr (.inl ⟨⟨h1, h2, h3, h4, h5⟩, rfl, by omega, h7, rfl, by rw [hu, if_pos hP]⟩))))))))
    | true => exact .inr (.inr (.inr (.inr (.inr (.inr (.inr (.inr (.inr ⟨⟨h1, h2, h3, h4, h5⟩, rfl, by omega, h7, rfl, by rw [hu, if_neg (fun h => Bool.noConfusion (h.symm.trans hP))]⟩))))))))
theorem hexS_len (r : Nat) : (hexS r).length ≤ 4 ∧ 0 < (hexS r).length := by unfold hexS; (repeat' split) <;> simp
end Go.Proofs.YtnjbdcdjcfhooaaGreatDoor
