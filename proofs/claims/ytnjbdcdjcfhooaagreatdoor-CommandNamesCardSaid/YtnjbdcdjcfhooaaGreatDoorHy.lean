/-
  Own work: walks and laws of the functions that the statement reaches; the statement itself stands in the last text.
-/
import Derived.Test.YtnjbdcdjcfhooaaGreatDoorHx
namespace Go.Proofs.YtnjbdcdjcfhooaaGreatDoor
open Go.E Go.ChangeShapes Go.WideShapes Go.ChangeAt Go.RowKit
set_option linter.all false
set_option maxRecDepth 20000
set_option maxHeartbeats 16000000
def Arg3 {α : Type} (sv : EV) (b : Nat) (l : List α) (c : List EV) (B : List (Nat × EO)) : Prop :=
  (sv = .slice none 0 0 ∧ l = [] ∧ B = []) ∨ (sv = .slice (some ⟨b, 0⟩) 0 0 ∧ l = [] ∧ ∃ ty z wr, B = [(b, .cells [] ty z wr 0)]) ∨
  (∃ n ty z wr, sv = .slice (some ⟨b, 0⟩) n n ∧ l.length = n ∧ 0 < n ∧ B = [(b, .cells c ty z wr 0)])
end Go.Proofs.YtnjbdcdjcfhooaaGreatDoor
namespace Go.Proofs.YtnjbdcdjcfhooaaGreatDoor
open Go.E Go.ChangeShapes Go.WideShapes Go.ChangeAt Go.RowKit
set_option linter.all false
set_option maxRecDepth 20000
set_option maxHeartbeats 16000000
theorem Arg3.sl {α : Type} {sv : EV} {b : Nat} {l : List α} {c : List EV} {A : List (Nat × EO)} (hc : l.length = 0 → c = []) (h : Arg3 sv b l c A) : ArgSl sv b l.length c A := by
  rcases h with ⟨rfl, rfl, rfl⟩ | ⟨rfl, rfl, y, z3, w, rfl⟩ | ⟨n, y, z2, w, rfl, hn, h0, rfl⟩
  · exact .inl ⟨rfl, rfl, rfl⟩
  · exact .inr ⟨rfl, y, z3, w, by rw [hc rfl]⟩
  · exact .inr ⟨by rw [hn], y, z2, w, rfl⟩
end Go.Proofs.YtnjbdcdjcfhooaaGreatDoor
