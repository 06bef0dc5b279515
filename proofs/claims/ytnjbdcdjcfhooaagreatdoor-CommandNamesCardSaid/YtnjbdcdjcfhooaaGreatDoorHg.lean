/-
  Own work: walks and laws of the functions that the statement reaches; the statement itself stands in the last text.
-/
import Derived.Test.YtnjbdcdjcfhooaaGreatDoorHf
import Derived.Test.YtnjbdcdjcfhooaaGreatDoorEd
namespace Go.Proofs.YtnjbdcdjcfhooaaGreatDoor
open Go.E
set_option linter.all false
set_option maxRecDepth 20000
set_option maxHeartbeats 8000000
def formL : List (List UInt8 × Int × List Nat) := [([110, 101, 119], 1, [60]),
  ([100, 114, 111, 112], 2, [60]),
  ([114, 101, 110, 97, 109, 101], 3, [60, 61]),
  ([105, 110, 115, 101, 114, 116], 4, [60, 62, 63]),
  ([100, 101, 108, 101, 116, 101], 5, [60, 62, 64]),
  ([114, 101, 112, 108, 97, 99, 101], 6, [60, 62, 64, 63]),
  ([109, 97, 114, 107], 7, [60, 65, 62, 66]),
  ([117, 110, 109, 97, 114, 107], 8, [60, 65]),
  ([99, 117, 114, 115, 111, 114], 9, [60, 65, 62, 64]),
  ([109, 111, 118, 101], 10, [60, 65, 67, 64]),
  ([117, 110, 99, 117, 114, 115, 111, 114], 11, [60, 65]),
  ([117, 110, 100, 111], 12, [60]),
  ([114, 101, 100, 111], 13, [60]),
  ([114, 101, 97, 100], 14, [60, 62, 64]),
  ([108, 101, 110, 103, 116, 104], 15, [60]),
  ([119, 104, 101, 114, 101], 16, [60, 62]),
  ([112, 108, 97, 99, 101], 17, [60, 62, 64]),
  ([109, 97, 114, 107, 115], 18, [60]),
  ([99, 117, 114, 115, 111, 114, 115], 19, [60]),
  ([100, 111, 99, 115], 20, []),
  ([102, 105, 110, 100], 21, [60, 62, 63]),
  ([115, 116, 97, 116], 22, [68])]
def fnsE (ps : List Nat) : List EV := ps.map fun g => .fn (.func g) [] []
abbrev formsM (m : Nat) : List (EV × EV) := [(.str [110, 101, 119], .agg [.int .i64 1, .slice (some ⟨m + 1, 0⟩) 1 1]),
  (.str [100, 114, 111, 112], .agg [.int .i64 2, .slice (some ⟨m + 2, 0⟩) 1 1]),
  (.str [114, 101, 110, 97, 109, 101], .agg [.int .i64 3, .slice (some ⟨m + 3, 0⟩) 2 2]),
  (.str [105, 110, 115, 101, 114, 116], .agg [.int .i64 4, .slice (some ⟨m + 4, 0⟩) 3 3]),
  (.str [100, 101, 108, 101, 116, 101], .agg [.int .i64 5, .slice (some ⟨m + 5, 0⟩) 3 3]),
  (.str [114, 101, 112, 108, 97, 99, 101], .agg [.int .i64 6, .slice (some ⟨m + 6, 0⟩) 4 4]),
  (.str [109, 97, 114, 107], .agg [.int .i64 7, .slice (some ⟨m + 7, 0⟩) 4 4]),
  (.str [117, 110, 109, 97, 114, 107], .agg [.int .i64 8, .slice (some ⟨m + 8, 0⟩) 2 2]),
  (.str [99, 117, 114, 115, 111, 114], .agg [.int .i64 9, .slice (some ⟨m + 9, 0⟩) 4 4]),
  (.str [109, 111, 118, 101], .agg [.int .i64 10, .slice (some ⟨m + 10, 0⟩) 4 4]),
  (.str [117, 110, 99, 117, 114, 115, 111, 114], .agg [.int .i64 11, .slice (some ⟨m + 11, 0⟩) 2 2]),
  (.str [117, 110, 100, 111], .agg [.int .i64 12, .slice (some ⟨m + 12, 0⟩) 1 1]),
  (.str [114, 101, 100, 111], .agg [.int .i64 13, .slice (some ⟨m + 13, 0⟩) 1 1]),
  (.str [114, 101, 97, 100], .agg [.int .i64 14, .slice (some ⟨m + 14, 0⟩) 3 3]),
  (.str [108, 101, 110, 103, 116, 104], .agg [.int .i64 15, .slice (some ⟨m + 15, 0⟩) 1 1]),
  (.str [119, 104, 101, 114, 101], .agg [.int .i64 16, .slice (some ⟨m + 16, 0⟩) 2 2]),
  (.str [112, 108, 97, 99, 101], .agg [.int .i64 17, .slice (some ⟨m + 17, 0⟩) 3 3]),
  (.str [109, 97, 114, 107, 115], .agg [.int .i64 18, .slice (some ⟨m + 18, 0⟩) 1 1]),
  (.str [99, 117, 114, 115, 111, 114, 115], .agg [.int .i64 19, .slice (some ⟨m + 19, 0⟩) 1 1]),
  (.str [100, 111, 99, 115], .agg [.int .i64 20, .slice none 0 0]),
  (.str [102, 105, 110, 100], .agg [.int .i64 21, .slice (some ⟨m + 20, 0⟩) 3 3]),
  (.str [115, 116, 97, 116], .agg [.int .i64 22, .slice (some ⟨m + 21, 0⟩) 1 1])]
theorem forms_c (G : List Gl) : Eff G Tryz.prog 25 [] [] 0 (.map (some 0)) [(0, .map (formsM 0)), (1, .cells [.fn (.func 60) [] []] 83 0 true 0), (2, .cells [.fn (.func 60) [] []] 83 0 true 0), (3, .cells [.fn (.func 60) [] [], .fn (.func 61) [] []] 83 0 true 0), (4, .cells [.fn (.func 60) [] [], .fn (.func 62) [] [], .fn (.func 63) [] []] 83 0 true 0), (5, .cells [.fn (.func 60) [] [], .fn (.func 62) [] [], .fn (.func 64) [] []] 83 0 true 0), (6, .cells [.fn (.func 60) [] [], .fn (.func 62) [] [], .fn (.func 64) [] [], .fn (.func 63) [] []] 83 0 true 0), (7, .cells [.fn (.func 60) [] [], .fn (.func 65) [] [], .fn (.func 62) [] [], .fn (.func 66) [] []] 83 0 true 0), (8, .cells [.fn (.func 60) [] [], .fn (.func 65) [] []] 83 0 true 0), (9, .cells [.fn (.func 60) [] [], .fn (.func 65) [] [], .fn (.func 62) [] [], .fn (.func 64) [] []] 83 0 true 0), (10, .cells [.fn (.func 60) [] [], .fn (.func 65) [] [], .fn (.func 67) [] [], .fn (.func 64) [] []] 83 0 true 0), (11, .cells [.fn (.func 60) [] [], .fn (.func 65) [] []] 83 0 true 0), (12, .cells [.fn (.func 60) [] []] 83 0 true 0), (13, .cells [.fn (.func 60) [] []] 83 0 true 0), (14, .cells [.fn (.func 60) [] [], .fn (.func 62) [] [], .fn (.func 64) [] []] 83 0 true 0), (15, .cells [.fn (.func 60) [] []] 83 0 true 0), (16, .cells [.fn (.func 60) [] [], .fn (.func 62) [] []] 83 0 true 0), (17, .cells [.fn (.func 60) [] [], .fn (.func 62) [] [], .fn (.func 64) [] []] 83 0 true 0), (18, .cells [.fn (.func 60) [] []] 83 0 true 0), (19, .cells [.fn (.func 60) [] []] 83 0 true 0), (20, .cells [.fn (.func 60) [] [], .fn (.func 62) [] [], .fn (.func 63) [] []] 83 0 true 0), (21, .cells [.fn (.func 68) [] []] 83 0 true 0)] 22 := by
  unfold Eff
  refine ecalls_in 46 [.tmp 0] Tryz.func25 rfl rfl rfl (by kernel_rfl) (le_ble rfl) ?_
  repeat' (first | refine esem_seqK 1 ?_ | refine esem_block ?_ | (refine stp ?_; simp only [go_sem]) | (simp only [List.append_eq, List.cons_append, List.nil_append, go_sem]) | (refine eop_makeMap ?_; simp only [go_sem]) | (refine eop_insert ?_; simp only [go_sem]) | (refine and_om rfl ?_; simp only [go_sem, Op.operands]) | (refine and_om rfl ?_) | (simp (disch := omega) only [wE]) | (refine spl (fun h => ?_) (fun h => ?_) <;> first | (exfalso; omega) | ((try simp only [opRun, opSkip, stepRun, pickZ]); (try simp only [go_sem, h]))) | (refine and_om ?_ ?_; focus omega))
  exact done_ef2 [0, 1, 2, 3, 4, 5, 6, 7, 8, 9, 10, 11, 12, 13, 14, 15, 16, 17, 18, 19, 20, 21] (by simp) rfl (by simp [mA]) (by simp [bC])
def formOf (s : List UInt8) : Option (Int × List Nat) := (formL.find? fun x => s == x.1).map fun x => x.2
theorem look_c {a b : Operand} {m nx : Nat} {L : List (Nat × EO)} {G : List Gl} {K : EV → ES → Prop} {ok : Bool} (s : List UInt8)
    (hs : ∀ (f : Nat) (k : Int) (ps : List Nat), formOf s = some (k, ps) → (∀ g ∈ ps, g ∈ partL) → ps.length ≤ 4 → 0 < ps.length → m < f → f < m + 22 → K (lookE ok (some (0, .agg [.int .i64 k, .slice (some ⟨f, 0⟩) ps.length ps.length])) .unk) ⟨(m, .map (formsM m)) :: (L ++ [(f, .cells (fnsE ps) 83 0 true 0)]), nx, G⟩)
    (h0 : ∀ (k : Int), formOf s = some (k, []) → K (lookE ok (some (0, .agg [.int .i64 k, .slice none 0 0])) .unk) ⟨(m, .map (formsM m)) :: L, nx, G⟩)
    (hn : formOf s = none → K (lookE ok none (.agg [.int .i64 0, .slice none 0 0])) ⟨(m, .map (formsM m)) :: L, nx, G⟩)
    (hnx : m + 22 ≤ nx) (hL : (L.all fun x => Nat.blt x.1 m || Nat.ble (m + 22) x.1) = true) :
    EOp Tryz.prog (.lookup 79 a b ok) [.map (some m), .str s] ⟨(m, .map (formsM m)) :: (m + 1, .cells [.fn (.func 60) [] []] 83 0 true 0) :: (m + 2, .cells [.fn (.func 60) [] []] 83 0 true 0) :: (m + 3, .cells [.fn (.func 60) [] [], .fn (.func 61) [] []] 83 0 true 0) :: (m + 4, .cells [.fn (.func 60) [] [], .fn (.func 62) [] [], .fn (.func 63) [] []] 83 0 true 0) :: (m + 5, .cells [.fn (.func 60) [] [], .fn (.func 62) [] [], .fn (.func 64) [] []] 83 0 true 0) :: (m + 6, .cells [.fn (.func 60) [] [], .fn (.func 62) [] [], .fn (.func 64) [] [], .fn (.func 63) [] []] 83 0 true 0) :: (m + 7, .cells [.fn (.func 60) [] [], .fn (.func 65) [] [], .fn (.func 62) [] [], .fn (.func 66) [] []] 83 0 true 0) :: (m + 8, .cells [.fn (.func 60) [] [], .fn (.func 65) [] []] 83 0 true 0) :: (m + 9, .cells [.fn (.func 60) [] [], .fn (.func 65) [] [], .fn (.func 62) [] [], .fn (.func 64) [] []] 83 0 true 0) :: (m + 10, .cells [.fn (.func 60) [] [], .fn (.func 65) [] [], .fn (.func 67) [] [], .fn (.func 64) [] []] 83 0 true 0) :: (m + 11, .cells [.fn (.func 60) [] [], .fn (.func 65) [] []] 83 0 true 0) :: (m + 12, .cells [.fn (.func 60) [] []] 83 0 true 0) :: (m + 13, .cells [.fn (.func 60) [] []] 83 0 true 0) :: (m + 14, .cells [.fn (.func 60) [] [], .fn (.func 62) [] [], .fn (.func 64) [] []] 83 0 true 0) :: (m + 15, .cells [.fn (.func 60) [] []] 83 0 true 0) :: (m + 16, .cells [.fn (.func 60) [] [], .fn (.func 62) [] []] 83 0 true 0) :: (m + 17, .cells [.fn (.func 60) [] [], .fn (.func 62) [] [], .fn (.func 64) [] []] 83 0 true 0) :: (m + 18, .cells [.fn (.func 60) [] []] 83 0 true 0) :: (m + 19, .cells [.fn (.func 60) [] []] 83 0 true 0) :: (m + 20, .cells [.fn (.func 60) [] [], .fn (.func 62) [] [], .fn (.func 63) [] []] 83 0 true 0) :: (m + 21, .cells [.fn (.func 68) [] []] 83 0 true 0) :: L, nx, G⟩ K := by
  have hzk : zOK Tryz.prog 77 ⟨(.struct [(0, 3), (1, 75)]), 2, 32, [(.int .i64 0), (.slice none 0 0)]⟩ = true := by kernel_rfl
  have hall : (formsM m).all (fun x => E.keyOf UT.str x.1) = true := rfl
  have key : ∀ (L' : List (Nat × EO)), (K (lookE ok (findE (.str s) (formsM m)) (.agg [.int .i64 0, .slice none 0 0])) ⟨(m, .map (formsM m)) :: L', nx, G⟩) → EOp Tryz.prog (.lookup 79 a b ok) [.map (some m), .str s] ⟨(m, .map (formsM m)) :: L', nx, G⟩ K := by
    intro L' hK
    refine eop_lookup ?_
    simp only [eLook, T79, T9, T77, ES.get, lkp, show m < nx by omega, if_true]
    refine ⟨⟨rfl, hzk, hall⟩, ?_⟩
    exact hK
  have drop : ∀ (L1 L2 : List (Nat × EO)), (∀ b o, lkp ((m, EO.map (formsM m)) :: L2) b = some o → lkp ((m, EO.map (formsM m)) :: L1) b = some o) → EOp Tryz.prog (.lookup 79 a b ok) [.map (some m), .str s] ⟨(m, .map (formsM m)) :: L2, nx, G⟩ K → EOp Tryz.prog (.lookup 79 a b ok) [.map (some m), .str s] ⟨(m, .map (formsM m)) :: L1, nx, G⟩ K := by
    intro L1 L2 h hK
    refine eop_less (s' := ⟨(m, .map (formsM m)) :: L2, nx, G⟩) ?_ rfl rfl hK
    intro b o hb
    obtain ⟨h1, h2⟩ := ES.get_lt hb
    have := h b o h2
    simp only [ES.get]
    rw [if_pos h1]; exact this
  have hLn : ∀ b o, lkp L b = some o → b < m ∨ m + 22 ≤ b := fun b o h => by
    have := List.all_eq_true.1 hL _ (lkp_mem h)
    simp only [Bool.or_eq_true] at this
    rcases this with h | h
    · exact .inl (Nat.le_of_ble_eq_true h)
    · exact .inr (Nat.le_of_ble_eq_true h)
  by_cases w0 : s = [110, 101, 119]
  · subst w0
    refine drop _ (L ++ [(m + 1, .cells (fnsE [60]) 83 0 true 0)]) ?_ (key _ ?_)
    · intro b o hb
      simp only [lkp] at hb ⊢
      by_cases hm : m = b
      · simpa [hm] using hb
      · rw [if_neg hm] at hb ⊢
        rw [lkp_append] at hb
        cases hl : lkp L b with
        | some o2 =>
          have := hLn b o2 hl
          rw [hl] at hb; simp at hb; subst hb
          repeat rw [if_neg (by omega)]
        | none =>
          rw [hl] at hb
          simp only [lkp] at hb
          by_cases hmb : m + 1 = b
          · rw [if_pos hmb] at hb
            simp at hb
            subst hb
            repeat rw [if_neg (by omega)]
            rw [if_pos hmb]; rfl
          · rw [if_neg hmb] at hb; simp at hb
    · exact hs (m + 1) 1 [60] rfl (by decide) (by decide) (by decide) (by omega) (by omega)
  by_cases w1 : s = [100, 114, 111, 112]
  · subst w1
    refine drop _ (L ++ [(m + 2, .cells (fnsE [60]) 83 0 true 0)]) ?_ (key _ ?_)
    · intro b o hb
      simp only [lkp] at hb ⊢
      by_cases hm : m = b
      · simpa [hm] using hb
      · rw [if_neg hm] at hb ⊢
        rw [lkp_append] at hb
        cases hl : lkp L b with
        | some o2 =>
          have := hLn b o2 hl
          rw [hl] at hb; simp at hb; subst hb
          repeat rw [if_neg (by omega)]
        | none =>
          rw [hl] at hb
          simp only [lkp] at hb
          by_cases hmb : m + 2 = b
          · rw [if_pos hmb] at hb
            simp at hb
            subst hb
            repeat rw [if_neg (by omega)]
            rw [if_pos hmb]; rfl
          · rw [if_neg hmb] at hb; simp at hb
    · exact hs (m + 2) 2 [60] rfl (by decide) (by decide) (by decide) (by omega) (by omega)
  by_cases w2 : s = [114, 101, 110, 97, 109, 101]
  · subst w2
    refine drop _ (L ++ [(m + 3, .cells (fnsE [60, 61]) 83 0 true 0)]) ?_ (key _ ?_)
    · intro b o hb
      simp only [lkp] at hb ⊢
      by_cases hm : m = b
      · simpa [hm] using hb
      · rw [if_neg hm] at hb ⊢
        rw [lkp_append] at hb
        cases hl : lkp L b with
        | some o2 =>
          have := hLn b o2 hl
          rw [hl] at hb; simp at hb; subst hb
          repeat rw [if_neg (by omega)]
        | none =>
          rw [hl] at hb
          simp only [lkp] at hb
          by_cases hmb : m + 3 = b
          · rw [if_pos hmb] at hb
            simp at hb
            subst hb
            repeat rw [if_neg (by omega)]
            rw [if_pos hmb]; rfl
          · rw [if_neg hmb] at hb; simp at hb
    · exact hs (m + 3) 3 [60, 61] rfl (by decide) (by decide) (by decide) (by omega) (by omega)
  by_cases w3 : s = [105, 110, 115, 101, 114, 116]
  · subst w3
    refine drop _ (L ++ [(m + 4, .cells (fnsE [60, 62, 63]) 83 0 true 0)]) ?_ (key _ ?_)
    · intro b o hb
      simp only [lkp] at hb ⊢
      by_cases hm : m = b
      · simpa [hm] using hb
      · rw [if_neg hm] at hb ⊢
        rw [lkp_append] at hb
        cases hl : lkp L b with
        | some o2 =>
          have := hLn b o2 hl
          rw [hl] at hb; simp at hb; subst hb
          repeat rw [if_neg (by omega)]
        | none =>
          rw [hl] at hb
          simp only [lkp] at hb
          by_cases hmb : m + 4 = b
          · rw [if_pos hmb] at hb
            simp at hb
            subst hb
            repeat rw [if_neg (by omega)]
            rw [if_pos hmb]; rfl
          · rw [if_neg hmb] at hb; simp at hb
    · exact hs (m + 4) 4 [60, 62, 63] rfl (by decide) (by decide) (by decide) (by omega) (by omega)
  by_cases w4 : s = [100, 101, 108, 101, 116, 101]
  · subst w4
    refine drop _ (L ++ [(m + 5, .cells (fnsE [60, 62, 64]) 83 0 true 0)]) ?_ (key _ ?_)
    · intro b o hb
      simp only [lkp] at hb ⊢
      by_cases hm : m = b
      · simpa [hm] using hb
      · rw [if_neg hm] at hb ⊢
        rw [lkp_append] at hb
        cases hl : lkp L b with
        | some o2 =>
          have := hLn b o2 hl
          rw [hl] at hb; simp at hb; subst hb
          repeat rw [if_neg (by omega)]
        | none =>
          rw [hl] at hb
          simp only [lkp] at hb
          by_cases hmb : m + 5 = b
          · rw [if_pos hmb] at hb
            simp at hb
            subst hb
            repeat rw [if_neg (by omega)]
            rw [if_pos hmb]; rfl
          · rw [if_neg hmb] at hb; simp at hb
    · exact hs (m + 5) 5 [60, 62, 64] rfl (by decide) (by decide) (by decide) (by omega) (by omega)
  by_cases w5 : s = [114, 101, 112, 108, 97, 99, 101]
  · subst w5
    refine drop _ (L ++ [(m + 6, .cells (fnsE [60, 62, 64, 63]) 83 0 true 0)]) ?_ (key _ ?_)
    · intro b o hb
      simp only [lkp] at hb ⊢
      by_cases hm : m = b
      · simpa [hm] using hb
      · rw [if_neg hm] at hb ⊢
        rw [lkp_append] at hb
        cases hl : lkp L b with
        | some o2 =>
          have := hLn b o2 hl
          rw [hl] at hb; simp at hb; subst hb
          repeat rw [if_neg (by omega)]
        | none =>
          rw [hl] at hb
          simp only [lkp] at hb
          by_cases hmb : m + 6 = b
          · rw [if_pos hmb] at hb
            simp at hb
            subst hb
            repeat rw [if_neg (by omega)]
            rw [if_pos hmb]; rfl
          · rw [if_neg hmb] at hb; simp at hb
    · exact hs (m + 6) 6 [60, 62, 64, 63] rfl (by decide) (by decide) (by decide) (by omega) (by omega)
  by_cases w6 : s = [109, 97, 114, 107]
  · subst w6
    refine drop _ (L ++ [(m + 7, .cells (fnsE [60, 65, 62, 66]) 83 0 true 0)]) ?_ (key _ ?_)
    · intro b o hb
      simp only [lkp] at hb ⊢
      by_cases hm : m = b
      · simpa [hm] using hb
      · rw [if_neg hm] at hb ⊢
        rw [lkp_append] at hb
        cases hl : lkp L b with
        | some o2 =>
          have := hLn b o2 hl
          rw [hl] at hb; simp at hb; subst hb
          repeat rw [if_neg (by omega)]
        | none =>
          rw [hl] at hb
          simp only [lkp] at hb
          by_cases hmb : m + 7 = b
          · rw [if_pos hmb] at hb
            simp at hb
            subst hb
            repeat rw [if_neg (by omega)]
            rw [if_pos hmb]; rfl
          · rw [if_neg hmb] at hb; simp at hb
    · exact hs (m + 7) 7 [60, 65, 62, 66] rfl (by decide) (by decide) (by decide) (by omega) (by omega)
  by_cases w7 : s = [117, 110, 109, 97, 114, 107]
  · subst w7
    refine drop _ (L ++ [(m + 8, .cells (fnsE [60, 65]) 83 0 true 0)]) ?_ (key _ ?_)
    · intro b o hb
      simp only [lkp] at hb ⊢
      by_cases hm : m = b
      · simpa [hm] using hb
      · rw [if_neg hm] at hb ⊢
        rw [lkp_append] at hb
        cases hl : lkp L b with
        | some o2 =>
          have := hLn b o2 hl
          rw [hl] at hb; simp at hb; subst hb
          repeat rw [if_neg (by omega)]
        | none =>
          rw [hl] at hb
          simp only [lkp] at hb
          by_cases hmb : m + 8 = b
          · rw [if_pos hmb] at hb
            simp at hb
            subst hb
            repeat rw [if_neg (by omega)]
            rw [if_pos hmb]; rfl
          · rw [if_neg hmb] at hb; simp at hb
    · exact hs (m + 8) 8 [60, 65] rfl (by decide) (by decide) (by decide) (by omega) (by omega)
  by_cases w8 : s = [99, 117, 114, 115, 111, 114]
  · subst w8
    refine drop _ (L ++ [(m + 9, .cells (fnsE [60, 65, 62, 64]) 83 0 true 0)]) ?_ (key _ ?_)
    · intro b o hb
      simp only [lkp] at hb ⊢
      by_cases hm : m = b
      · simpa [hm] using hb
      · rw [if_neg hm] at hb ⊢
        rw [lkp_append] at hb
        cases hl : lkp L b with
        | some o2 =>
          have := hLn b o2 hl
          rw [hl] at hb; simp at hb; subst hb
          repeat rw [if_neg (by omega)]
        | none =>
          rw [hl] at hb
          simp only [lkp] at hb
          by_cases hmb : m + 9 = b
          · rw [if_pos hmb] at hb
            simp at hb
            subst hb
            repeat rw [if_neg (by omega)]
            rw [if_pos hmb]; rfl
          · rw [if_neg hmb] at hb; simp at hb
    · exact hs (m + 9) 9 [60, 65, 62, 64] rfl (by decide) (by decide) (by decide) (by omega) (by omega)
  by_cases w9 : s = [109, 111, 118, 101]
  · subst w9
    refine drop _ (L ++ [(m + 10, .cells (fnsE [60, 65, 67, 64]) 83 0 true 0)]) ?_ (key _ ?_)
    · intro b o hb
      simp only [lkp] at hb ⊢
      by_cases hm : m = b
      · simpa [hm] using hb
      · rw [if_neg hm] at hb ⊢
        rw [lkp_append] at hb
        cases hl : lkp L b with
        | some o2 =>
          have := hLn b o2 hl
          rw [hl] at hb; simp at hb; subst hb
          repeat rw [if_neg (by omega)]
        | none =>
          rw [hl] at hb
          simp only [lkp] at hb
          by_cases hmb : m + 10 = b
          · rw [if_pos hmb] at hb
            simp at hb
            subst hb
            repeat rw [if_neg (by omega)]
            rw [if_pos hmb]; rfl
          · rw [if_neg hmb] at hb; simp at hb
    · exact hs (m + 10) 10 [60, 65, 67, 64] rfl (by decide) (by decide) (by decide) (by omega) (by omega)
  by_cases w10 : s = [117, 110, 99, 117, 114, 115, 111, 114]
  · subst w10
    refine drop _ (L ++ [(m + 11, .cells (fnsE [60, 65]) 83 0 true 0)]) ?_ (key _ ?_)
    · intro b o hb
      simp only [lkp] at hb ⊢
      by_cases hm : m = b
      · simpa [hm] using hb
      · rw [if_neg hm] at hb ⊢
        rw [lkp_append] at hb
        cases hl : lkp L b with
        | some o2 =>
          have := hLn b o2 hl
          rw [hl] at hb; simp at hb; subst hb
          repeat rw [if_neg (by omega)]
        | none =>
          rw [hl] at hb
          simp only [lkp] at hb
          by_cases hmb : m + 11 = b
          · rw [if_pos hmb] at hb
            simp at hb
            subst hb
            repeat rw [if_neg (by omega)]
            rw [if_pos hmb]; rfl
          · rw [if_neg hmb] at hb; simp at hb
    · exact hs (m + 11) 11 [60, 65] rfl (by decide) (by decide) (by decide) (by omega) (by omega)
  by_cases w11 : s = [117, 110, 100, 111]
  · subst w11
    refine drop _ (L ++ [(m + 12, .cells (fnsE [60]) 83 0 true 0)]) ?_ (key _ ?_)
    · intro b o hb
      simp only [lkp] at hb ⊢
      by_cases hm : m = b
      · simpa [hm] using hb
      · rw [if_neg hm] at hb ⊢
        rw [lkp_append] at hb
        cases hl : lkp L b with
        | some o2 =>
          have := hLn b o2 hl
          rw [hl] at hb; simp at hb; subst hb
          repeat rw [if_neg (by omega)]
        | none =>
          rw [hl] at hb
          simp only [lkp] at hb
          by_cases hmb : m + 12 = b
          · rw [if_pos hmb] at hb
            simp at hb
            subst hb
            repeat rw [if_neg (by omega)]
            rw [if_pos hmb]; rfl
          · rw [if_neg hmb] at hb; simp at hb
    · exact hs (m + 12) 12 [60] rfl (by decide) (by decide) (by decide) (by omega) (by omega)
  by_cases w12 : s = [114, 101, 100, 111]
  · subst w12
    refine drop _ (L ++ [(m + 13, .cells (fnsE [60]) 83 0 true 0)]) ?_ (key _ ?_)
    · intro b o hb
      simp only [lkp] at hb ⊢
      by_cases hm : m = b
      · simpa [hm] using hb
      · rw [if_neg hm] at hb ⊢
        rw [lkp_append] at hb
        cases hl : lkp L b with
        | some o2 =>
          have := hLn b o2 hl
          rw [hl] at hb; simp at hb; subst hb
          repeat rw [if_neg (by omega)]
        | none =>
          rw [hl] at hb
          simp only [lkp] at hb
          by_cases hmb : m + 13 = b
          · rw [if_pos hmb] at hb
            simp at hb
            subst hb
            repeat rw [if_neg (by omega)]
            rw [if_pos hmb]; rfl
          · rw [if_neg hmb] at hb; simp at hb
    · exact hs (m + 13) 13 [60] rfl (by decide) (by decide) (by decide) (by omega) (by omega)
  by_cases w13 : s = [114, 101, 97, 100]
  · subst w13
    refine drop _ (L ++ [(m + 14, .cells (fnsE [60, 62, 64]) 83 0 true 0)]) ?_ (key _ ?_)
    · intro b o hb
      simp only [lkp] at hb ⊢
      by_cases hm : m = b
      · simpa [hm] using hb
      · rw [if_neg hm] at hb ⊢
        rw [lkp_append] at hb
        cases hl : lkp L b with
        | some o2 =>
          have := hLn b o2 hl
          rw [hl] at hb; simp at hb; subst hb
          repeat rw [if_neg (by omega)]
        | none =>
          rw [hl] at hb
          simp only [lkp] at hb
          by_cases hmb : m + 14 = b
          · rw [if_pos hmb] at hb
            simp at hb
            subst hb
            repeat rw [if_neg (by omega)]
            rw [if_pos hmb]; rfl
          · rw [if_neg hmb] at hb; simp at hb
    · exact hs (m + 14) 14 [60, 62, 64] rfl (by decide) (by decide) (by decide) (by omega) (by omega)
  by_cases w14 : s = [108, 101, 110, 103, 116, 104]
  · subst w14
    refine drop _ (L ++ [(m + 15, .cells (fnsE [60]) 83 0 true 0)]) ?_ (key _ ?_)
    · intro b o hb
      simp only [lkp] at hb ⊢
      by_cases hm : m = b
      · simpa [hm] using hb
      · rw [if_neg hm] at hb ⊢
        rw [lkp_append] at hb
        cases hl : lkp L b with
        | some o2 =>
          have := hLn b o2 hl
          rw [hl] at hb; simp at hb; subst hb
          repeat rw [if_neg (by omega)]
        | none =>
          rw [hl] at hb
          simp only [lkp] at hb
          by_cases hmb : m + 15 = b
          · rw [if_pos hmb] at hb
            simp at hb
            subst hb
            repeat rw [if_neg (by omega)]
            rw [if_pos hmb]; rfl
          · rw [if_neg hmb] at hb; simp at hb
    · exact hs (m + 15) 15 [60] rfl (by decide) (by decide) (by decide) (by omega) (by omega)
  by_cases w15 : s = [119, 104, 101, 114, 101]
  · subst w15
    refine drop _ (L ++ [(m + 16, .cells (fnsE [60, 62]) 83 0 true 0)]) ?_ (key _ ?_)
    · intro b o hb
      simp only [lkp] at hb ⊢
      by_cases hm : m = b
      · simpa [hm] using hb
      · rw [if_neg hm] at hb ⊢
        rw [lkp_append] at hb
        cases hl : lkp L b with
        | some o2 =>
          have := hLn b o2 hl
          rw [hl] at hb; simp at hb; subst hb
          repeat rw [if_neg (by omega)]
        | none =>
          rw [hl] at hb
          simp only [lkp] at hb
          by_cases hmb : m + 16 = b
          · rw [if_pos hmb] at hb
            simp at hb
            subst hb
            repeat rw [if_neg (by omega)]
            rw [if_pos hmb]; rfl
          · rw [if_neg hmb] at hb; simp at hb
    · exact hs (m + 16) 16 [60, 62] rfl (by decide) (by decide) (by decide) (by omega) (by omega)
  by_cases w16 : s = [112, 108, 97, 99, 101]
  · subst w16
    refine drop _ (L ++ [(m + 17, .cells (fnsE [60, 62, 64]) 83 0 true 0)]) ?_ (key _ ?_)
    · intro b o hb
      simp only [lkp] at hb ⊢
      by_cases hm : m = b
      · simpa [hm] using hb
      · rw [if_neg hm] at hb ⊢
        rw [lkp_append] at hb
        cases hl : lkp L b with
        | some o2 =>
          have := hLn b o2 hl
          rw [hl] at hb; simp at hb; subst hb
          repeat rw [if_neg (by omega)]
        | none =>
          rw [hl] at hb
          simp only [lkp] at hb
          by_cases hmb : m + 17 = b
          · rw [if_pos hmb] at hb
            simp at hb
            subst hb
            repeat rw [if_neg (by omega)]
            rw [if_pos hmb]; rfl
          · rw [if_neg hmb] at hb; simp at hb
    · exact hs (m + 17) 17 [60, 62, 64] rfl (by decide) (by decide) (by decide) (by omega) (by omega)
  by_cases w17 : s = [109, 97, 114, 107, 115]
  · subst w17
    refine drop _ (L ++ [(m + 18, .cells (fnsE [60]) 83 0 true 0)]) ?_ (key _ ?_)
    · intro b o hb
      simp only [lkp] at hb ⊢
      by_cases hm : m = b
      · simpa [hm] using hb
      · rw [if_neg hm] at hb ⊢
        rw [lkp_append] at hb
        cases hl : lkp L b with
        | some o2 =>
          have := hLn b o2 hl
          rw [hl] at hb; simp at hb; subst hb
          repeat rw [if_neg (by omega)]
        | none =>
          rw [hl] at hb
          simp only [lkp] at hb
          by_cases hmb : m + 18 = b
          · rw [if_pos hmb] at hb
            simp at hb
            subst hb
            repeat rw [if_neg (by omega)]
            rw [if_pos hmb]; rfl
          · rw [if_neg hmb] at hb; simp at hb
    · exact hs (m + 18) 18 [60] rfl (by decide) (by decide) (by decide) (by omega) (by omega)
  by_cases w18 : s = [99, 117, 114, 115, 111, 114, 115]
  · subst w18
    refine drop _ (L ++ [(m + 19, .cells (fnsE [60]) 83 0 true 0)]) ?_ (key _ ?_)
    · intro b o hb
      simp only [lkp] at hb ⊢
      by_cases hm : m = b
      · simpa [hm] using hb
      · rw [if_neg hm] at hb ⊢
        rw [lkp_append] at hb
        cases hl : lkp L b with
        | some o2 =>
          have := hLn b o2 hl
          rw [hl] at hb; simp at hb; subst hb
          repeat rw [if_neg (by omega)]
        | none =>
          rw [hl] at hb
          simp only [lkp] at hb
          by_cases hmb : m + 19 = b
          · rw [if_pos hmb] at hb
            simp at hb
            subst hb
            repeat rw [if_neg (by omega)]
            rw [if_pos hmb]; rfl
          · rw [if_neg hmb] at hb; simp at hb
    · exact hs (m + 19) 19 [60] rfl (by decide) (by decide) (by decide) (by omega) (by omega)
  by_cases w19 : s = [100, 111, 99, 115]
  · subst w19
    refine drop _ L ?_ (key _ (h0 20 rfl))
    intro b o hb
    simp only [lkp] at hb ⊢
    by_cases hm : m = b
    · simpa [hm] using hb
    · rw [if_neg hm] at hb ⊢
      have := hLn b o hb
      repeat rw [if_neg (by omega)]
      exact hb
  by_cases w20 : s = [102, 105, 110, 100]
  · subst w20
    refine drop _ (L ++ [(m + 20, .cells (fnsE [60, 62, 63]) 83 0 true 0)]) ?_ (key _ ?_)
    · intro b o hb
      simp only [lkp] at hb ⊢
      by_cases hm : m = b
      · simpa [hm] using hb
      · rw [if_neg hm] at hb ⊢
        rw [lkp_append] at hb
        cases hl : lkp L b with
        | some o2 =>
          have := hLn b o2 hl
          rw [hl] at hb; simp at hb; subst hb
          repeat rw [if_neg (by omega)]
        | none =>
          rw [hl] at hb
          simp only [lkp] at hb
          by_cases hmb : m + 20 = b
          · rw [if_pos hmb] at hb
            simp at hb
            subst hb
            repeat rw [if_neg (by omega)]
            rw [if_pos hmb]; rfl
          · rw [if_neg hmb] at hb; simp at hb
    · exact hs (m + 20) 21 [60, 62, 63] rfl (by decide) (by decide) (by decide) (by omega) (by omega)
  by_cases w21 : s = [115, 116, 97, 116]
  · subst w21
    refine drop _ (L ++ [(m + 21, .cells (fnsE [68]) 83 0 true 0)]) ?_ (key _ ?_)
    · intro b o hb
      simp only [lkp] at hb ⊢
      by_cases hm : m = b
      · simpa [hm] using hb
      · rw [if_neg hm] at hb ⊢
        rw [lkp_append] at hb
        cases hl : lkp L b with
        | some o2 =>
          have := hLn b o2 hl
          rw [hl] at hb; simp at hb; subst hb
          repeat rw [if_neg (by omega)]
        | none =>
          rw [hl] at hb
          simp only [lkp] at hb
          by_cases hmb : m + 21 = b
          · rw [if_pos hmb] at hb
            simp at hb
            subst hb
            repeat rw [if_neg (by omega)]
            rw [if_pos hmb]; rfl
          · rw [if_neg hmb] at hb; simp at hb
    · exact hs (m + 21) 22 [68] rfl (by decide) (by decide) (by decide) (by omega) (by omega)
  refine drop _ L ?_ (key _ ?_)
  · intro b o hb
    simp only [lkp] at hb ⊢
    by_cases hm : m = b
    · simpa [hm] using hb
    · rw [if_neg hm] at hb ⊢
      have := hLn b o hb
      repeat rw [if_neg (by omega)]
      exact hb
  · have e : findE (.str s) (formsM m) = none := by simp [findE, sameE, w0, w1, w2, w3, w4, w5, w6, w7, w8, w9, w10, w11, w12, w13, w14, w15, w16, w17, w18, w19, w20, w21]
    rw [e]
    exact hn (by simp [formOf, formL, w0, w1, w2, w3, w4, w5, w6, w7, w8, w9, w10, w11, w12, w13, w14, w15, w16, w17, w18, w19, w20, w21])
end Go.Proofs.YtnjbdcdjcfhooaaGreatDoor
namespace Go.Proofs.YtnjbdcdjcfhooaaGreatDoor
open Go.E
set_option linter.all false
set_option maxRecDepth 20000
set_option maxHeartbeats 8000000
abbrev zCmd : Cmd := ⟨0, [], 0, 0, 0, [], 0⟩
def orO (a b : Option Nat) : Option Nat := match a with
  | some x => some x
  | none => b
def stepP (all : List Tok) (size : Nat) (s : Cmd × Nat × Option Nat) (g : Nat) : Cmd × Nat × Option Nat := ((partS g all size s.1 s.2.1).1, (partS g all size s.1 s.2.1).2.1, orO s.2.2 (partS g all size s.1 s.2.1).2.2)
def runP (all : List Tok) (size : Nat) (ps : List Nat) (s : Cmd × Nat × Option Nat) : Cmd × Nat × Option Nat := ps.foldl (stepP all size) s
def endP (all : List Tok) (r : Cmd × Nat × Option Nat) : Cmd × Option Nat := (r.1, if r.2.1 < all.length then orO r.2.2 (some (tokAt all r.2.1).at_) else r.2.2)
def parseT (all : List Tok) (size : Nat) : Cmd × Option Nat :=
  match formOf (tokAt all 0).text with
  | some (k, ps) => endP all (runP all size ps ({zCmd with kind := k}, 1, if (tokAt all 0).kind = 1 then none else some (tokAt all 0).at_))
  | none => endP all (zCmd, 1, some (tokAt all 0).at_)
def parseP (l : List UInt8) : Cmd × Nat × Nat :=
  if (scanL l).2.1 ≠ 0 then (zCmd, (scanL l).2.1, (scanL l).2.2)
  else if (scanL l).1.length = 0 then (zCmd, 260, l.length)
  else match (parseT (scanL l).1 l.length).2 with
    | some a => (zCmd, 260, a)
    | none => ((parseT (scanL l).1 l.length).1, 0, 0)
def parseV (r : Cmd × Nat × Nat) : EV := if r.2.1 = 0 then .tuple [.agg (cmdE r.1), .nilIface] else .tuple [.agg (cmdE zCmd), .iface 68 (.ptr (some ⟨0, 0⟩))]
def parseB (r : Cmd × Nat × Nat) : List (Nat × EO) := if r.2.1 = 0 then [] else [(0, faultC r.2.1 r.2.2)]
def parseN (r : Cmd × Nat × Nat) : Nat := if r.2.1 = 0 then 0 else 1
def fnsB (ts : List Tok) (size f fb z : Nat) (ps : List Nat) (X : List (Nat × EO)) (s : Cmd × Nat × Option Nat) : List (Nat × EO) := match s.2.2 with
  | none => (2, rdE s.1 (slT ts s.2.1) size none) :: tkB ts z :: X ++ [(f, .cells (fnsE ps) 83 0 true 0)]
  | some a => (2, rdE s.1 (slT ts s.2.1) size (some ⟨fb, 0⟩)) :: tkB ts z :: X ++ [(f, .cells (fnsE ps) 83 0 true 0), (fb, faultC 260 a)]
@[simp] theorem allBelow_fns (k : Nat) (ps : List Nat) : allBelow k (fnsE ps) := by
  induction ps with
  | nil => trivial
  | cons g r ih => simp only [fnsE, List.map_cons, allBelow, EV.bel, true_and] at ih ⊢; exact ih
theorem fnsE_length (ps : List Nat) : (fnsE ps).length = ps.length := by simp [fnsE]
attribute [go_sem] fnsE_length
theorem fnsE_get {ps : List Nat} {j : Nat} (h : j < ps.length) : (fnsE ps)[j]? = some (.fn (.func (ps.getD j 0)) [] []) := by
  simp [fnsE, List.getD_eq_getElem?_getD, List.getElem?_eq_getElem h]
theorem getD_mem {ps : List Nat} {j : Nat} (h : j < ps.length) : ps.getD j 0 ∈ ps := by
  rw [List.getD_eq_getElem?_getD, List.getElem?_eq_getElem h]; exact List.getElem_mem h
theorem drop_cons {ps : List Nat} {j : Nat} (h : j < ps.length) : ps.drop j = ps.getD j 0 :: ps.drop (j + 1) := by
  rw [List.drop_eq_getElem_cons h, List.getD_eq_getElem?_getD, List.getElem?_eq_getElem h]; rfl
theorem next_nil (G : List Gl) (c : Cmd) (size : Nat) (a : Int) : Eff G Tryz.prog 24 [.ptr (some ⟨0, 0⟩), .slice (some ⟨1, 0⟩) 1 1] [(0, rdE c (.slice none 0 0) size none), (1, .cells [.int .i64 a] 3 0 true 0)] 2 (.tuple [.agg [.int .i64 0, .int .i64 0, .str [], .int .i64 0], .bool false]) [(0, rdE c (.slice none 0 0) size (some ⟨2, 0⟩)), (2, faultC 260 size)] 3 := by
  unfold Eff
  refine ecalls_in 44 [.cell 4 72, .tmp 5] Tryz.func24 rfl rfl rfl (by kernel_rfl) (le_ble rfl) ?_
  repeat' (first | refine esem_seqK 137438955571 ?_ | refine esem_block ?_ | (refine stp ?_; simp only [go_sem]) | (refine drawQ (id := 4) mixed [(0, []), (1, []), (2, []), (3, []), (7, []), (8, []), (9, []), (4, []), (5, []), (6, []), (10, []), (11, []), (12, [10, 11]), (13, []), (14, []), (15, [])] (by kernel_rfl) ?_; simp only [go_sem]) | (refine Eff.at2 (fails_new _ c (.slice none 0 0) (.inl rfl) size size ) [0, 1] rfl (by first | (simp; done) | (simp; omega) | (simp [bC]; done) | omega) rfl ?_; (try simp only [go_sem])) | (simp (disch := omega) only [wE]) | (refine spl (fun h => ?_) (fun h => ?_) <;> first | (exfalso; omega) | ((try simp only [opRun, opSkip, stepRun, pickZ]); (try simp only [go_sem, h]))) | (refine and_om ?_ ?_; focus omega))
  exact done_ef2 [3] (by simp) rfl (by simp [mA]) (by simp [bC])
theorem toks_at1 {l : List Tok} {i : Nat} (h : i < l.length) : (toksE l)[i * 4 + 1]? = some (.int .i64 (tokAt l i).at_) := by
  have := toks_at h
  have h2 : (((toksE l).drop (i * 4)).take 4)[1]? = (toksE l)[i * 4 + 1]? := by simp [List.getElem?_take, List.getElem?_drop]
  rw [← h2, this]; rfl
theorem parse_ok (G : List Gl) (l : List UInt8) (ts : List Tok) (hts : 0 < ts.length) (hal : ts.length ≤ 16384) (hlen : l.length ≤ 9223372036854775807)
    (hsc : Eff G Tryz.prog 20 [.str l] [] 0 (.tuple [.slice (some ⟨0, 0⟩) ts.length ts.length, .nilIface]) [(0, .cells (toksE ts) 72 4 true 0)] 1)
    (hp : parseP l = match (parseT ts l.length).2 with
      | some a => (zCmd, 260, a)
      | none => ((parseT ts l.length).1, 0, 0)) (hk : ((tokAt ts 0).kind : Int) = 1) : Eff G Tryz.prog 10 [.str l] [] 0 (parseV (parseP l)) (parseB (parseP l)) (parseN (parseP l)) := by
  unfold Eff
  have hk' : (tokAt ts 0).kind = 1 := by omega
  refine ecalls_in 96 [.cell 2 24, .tmp 3] Tryz.func10 rfl rfl rfl (by kernel_rfl) (le_ble rfl) ?_
  repeat' (first | refine esem_seqK 38687988491791071168698365 ?_ | refine esem_block ?_ | (refine stp ?_; simp only [go_sem]) | (refine drawQ (id := 6) mixed [(1, []), (2, []), (0, [2]), (3, []), (4, []), (5, []), (6, []), (7, []), (8, []), (9, [])] (by kernel_rfl) ?_; simp only [go_sem]) | (refine drawQ (id := 18) mixed [(0, []), (1, []), (2, []), (3, []), (4, []), (5, []), (6, [4]), (7, [])] (by kernel_rfl) ?_; simp only [go_sem]) | (refine Eff.at2 (hsc ) [] rfl (by first | (simp; done) | (simp; omega) | (simp [bC]; done) | omega) rfl ?_; (try simp only [go_sem])) | (refine Eff.at2 (next1_ok _ ts zCmd 0 l.length 4 (.inr rfl) hal 1 (by omega) hk ) [2, 1, 3] rfl (by first | (simp; done) | (simp; omega) | (simp [bC]; done) | omega) rfl ?_; (try simp only [go_sem])) | (refine Eff.at2 (forms_c _ ) [] rfl (by first | (simp; done) | (simp; omega) | (simp [bC]; done) | omega) rfl ?_; (try simp only [go_sem])) | (simp only [go_sem, Op.operands]) | (simp (disch := omega) only [wE]) | (refine spl (fun h => ?_) (fun h => ?_) <;> first | (exfalso; omega) | ((try simp only [opRun, opSkip, stepRun, pickZ]); (try simp only [go_sem, h]))) | (refine and_om ?_ ?_; focus omega))
  refine look_c (m := 15) _ (fun f k ps hf hps hp4 hp0 hf1 hf2 => ?_) (fun k hf => ?_) (fun hf => ?_) (by decide) rfl
  · simp only [go_sem, lookE, List.cons_append, List.nil_append]
    have e0 : (0 = f) = False := eq_false (by omega)
    have e0' : (f = 0) = False := eq_false (by omega)
    have e1 : (1 = f) = False := eq_false (by omega)
    have e1' : (f = 1) = False := eq_false (by omega)
    have e2 : (2 = f) = False := eq_false (by omega)
    have e2' : (f = 2) = False := eq_false (by omega)
    have e4 : (4 = f) = False := eq_false (by omega)
    have e4' : (f = 4) = False := eq_false (by omega)
    have e12 : (12 = f) = False := eq_false (by omega)
    have e12' : (f = 12) = False := eq_false (by omega)
    have e15 : (15 = f) = False := eq_false (by omega)
    have e15' : (f = 15) = False := eq_false (by omega)
    have e100 : (100 = f) = False := eq_false (by omega)
    have e100' : (f = 100) = False := eq_false (by omega)
    have e37l : (f < 37) = True := eq_true (by omega)
    have e100l : (f < 100) = True := eq_true (by omega)
    have e101l : (f < 101) = True := eq_true (by omega)
    repeat' (first | refine esem_seqK 38687988491791071168698365 ?_ | refine esem_block ?_ | (refine stp ?_; simp only [go_sem]) | (refine drawQ (id := 6) mixed [(1, []), (2, []), (0, [2]), (3, []), (4, []), (5, []), (6, []), (7, []), (8, []), (9, [])] (by kernel_rfl) ?_; simp only [go_sem]) | (refine drawQ (id := 18) mixed [(0, []), (1, []), (2, []), (3, []), (4, []), (5, []), (6, [4]), (7, [])] (by kernel_rfl) ?_; simp only [go_sem]) | (simp (disch := omega) only [wE]) | (refine spl (fun h => ?_) (fun h => ?_) <;> first | (exfalso; omega) | ((try simp only [opRun, opSkip, stepRun, pickZ]); (try simp only [go_sem, h]))) | (refine and_om ?_ ?_; focus omega))
    refine esem_loopS (fun z : Nat × Cmd × Nat × Option Nat => [(2, .ptr (some ⟨0, 0⟩)), (6, .ptr (some ⟨2, 0⟩)), (56, .slice (some ⟨f, 0⟩) ps.length ps.length), (57, .int .i64 ps.length), (58, .int .i64 z.1)]) (fun z : Nat × Cmd × Nat × Option Nat => fnsB ts l.length f 100 4 ps [(0, .cells (cmdE zCmd) 24 0 true 0)] z.2) (fun z : Nat × Cmd × Nat × Option Nat => (match z.2.2.2 with | none => 100 | some _ => 101)) (fun z : Nat × Cmd × Nat × Option Nat => z.1 ≤ ps.length ∧ runP ts l.length (ps.drop z.1) z.2 = runP ts l.length ps (⟨k, [], 0, 0, 0, [], 0⟩, 1, none)) (fun z : Nat × Cmd × Nat × Option Nat => ps.length - z.1) (((0 : Nat), (⟨k, [], 0, 0, 0, [], 0⟩ : Cmd), (1 : Nat), (none : Option Nat))) (fun z hz => (by obtain ⟨j, c, i, bad⟩ := z; cases bad <;> exact ⟨by simp [frBel, EV.bel, allBelow]; omega, by simp [fnsB, blBelow, EO.bel, allBelow, EV.bel]; omega, Nat.zero_le _⟩)) (by exact ⟨Nat.zero_le _, rfl⟩) (by first | (simp only [go_sem, weakL]; done) | ((try simp only [go_sem, weakL]); ((repeat' apply And.intro) <;> (first | rfl | trivial | ((try simp only [EV.int.injEq, EV.str.injEq, EV.bool.injEq, EV.tuple.injEq, EV.slice.injEq, List.cons.injEq, true_and, and_true]); first | rfl | omega))))) ?_ ?_
    · first
      | (simp only [fnsB, lessL, ES.get, lkp, e0, e0', e1, e1', e2, e2', e4, e4', e12, e12', e15, e15', e100, e100', e37l, e100l, e101l, List.cons_append, List.nil_append, go_sem]; done)
      | (simp only [fnsB, lessL, ES.get, lkp, e0, e0', e1, e1', e2, e2', e4, e4', e12, e12', e15, e15', e100, e100', e37l, e100l, e101l, List.cons_append, List.nil_append, go_sem]; rfl)
    rintro ⟨j, c, i, bad⟩ ⟨hj, hrun⟩
    simp only at hj hrun
    by_cases hjl : j < ps.length
    · have hget := fnsE_get hjl
      have hstep : runP ts l.length (ps.drop j) (c, i, bad) = runP ts l.length (ps.drop (j + 1)) (stepP ts l.length (c, i, bad) (ps.getD j 0)) := by rw [drop_cons hjl]; rfl
      rw [hrun] at hstep
      cases bad with
      | none =>
        have hpart := part_n G ts c i l.length 4 (.inr rfl) hal (ps.getD j 0) (hps _ (getD_mem hjl))
        simp only [fnsB, List.cons_append, List.nil_append]
        rcases hb : (partS (ps.getD j 0) ts l.length c i).2.2 with _ | a
        · simp only [partPost, partN, hb] at hpart
          repeat' (first | refine esem_seqK 38687988491791071168698365 ?_ | refine esem_block ?_ | (refine stp ?_; simp only [go_sem, hget, e0, e0', e1, e1', e2, e2', e4, e4', e12, e12', e15, e15', e100, e100', e37l, e100l, e101l, List.cons_append, List.nil_append]) | (refine drawQ (id := 6) mixed [(1, []), (2, []), (0, [2]), (3, []), (4, []), (5, []), (6, []), (7, []), (8, []), (9, [])] (by kernel_rfl) ?_; simp only [go_sem, hget, e0, e0', e1, e1', e2, e2', e4, e4', e12, e12', e15, e15', e100, e100', e37l, e100l, e101l, List.cons_append, List.nil_append]) | (refine drawQ (id := 18) mixed [(0, []), (1, []), (2, []), (3, []), (4, []), (5, []), (6, [4]), (7, [])] (by kernel_rfl) ?_; simp only [go_sem, hget, e0, e0', e1, e1', e2, e2', e4, e4', e12, e12', e15, e15', e100, e100', e37l, e100l, e101l, List.cons_append, List.nil_append]) | (refine Eff.at2 (hpart ) [2, 1] rfl (by first | (simp; done) | (simp; omega) | (simp [bC]; done) | omega) rfl ?_; (try simp only [go_sem, hget, e0, e0', e1, e1', e2, e2', e4, e4', e12, e12', e15, e15', e100, e100', e37l, e100l, e101l, List.cons_append, List.nil_append])) | (simp (disch := omega) only [wE]) | (refine spl (fun h => ?_) (fun h => ?_) <;> first | (exfalso; omega) | ((try simp only [opRun, opSkip, stepRun, pickZ]); (try simp only [go_sem, hget, e0, e0', e1, e1', e2, e2', e4, e4', e12, e12', e15, e15', e100, e100', e37l, e100l, e101l, List.cons_append, List.nil_append, h]))) | (refine and_om ?_ ?_; focus omega))
          · (refine ⟨(j + 1, (partS (ps.getD j 0) ts l.length c i).1, (partS (ps.getD j 0) ts l.length c i).2.1, none), ?_, ?_, rfl, rfl, ?_, ?_⟩; rotate_left; (focus (first | omega | (simp only []; omega))); (focus (first | (simp only [go_sem, weakL, fnsB, e0, e0', e1, e1', e2, e2', e4, e4', e12, e12', e15, e15', e100, e100', e37l, e100l, e101l, List.cons_append, List.nil_append]; done) | ((try simp only [go_sem, weakL, fnsB, e0, e0', e1, e1', e2, e2', e4, e4', e12, e12', e15, e15', e100, e100', e37l, e100l, e101l, List.cons_append, List.nil_append]); ((repeat' apply And.intro) <;> (first | rfl | trivial | ((try simp only [EV.int.injEq, EV.str.injEq, EV.bool.injEq, EV.tuple.injEq, EV.slice.injEq, List.cons.injEq, true_and, and_true]); first | rfl | omega)))))); (focus (first | trivial | (simp only [go_sem, lessL, fnsB, e0, e0', e1, e1', e2, e2', e4, e4', e12, e12', e15, e15', e100, e100', e37l, e100l, e101l, List.cons_append, List.nil_append]; done) | ((try simp only [go_sem, lessL, fnsB, e0, e0', e1, e1', e2, e2', e4, e4', e12, e12', e15, e15', e100, e100', e37l, e100l, e101l, List.cons_append, List.nil_append]); ((repeat' apply And.intro) <;> (first | rfl | trivial | ((try simp only [EV.int.injEq, EV.str.injEq, EV.bool.injEq, EV.tuple.injEq, EV.slice.injEq, List.cons.injEq, true_and, and_true]); first | rfl | omega)))))); (try simp only []))
            exact ⟨by omega, by rw [hstep]; simp only [stepP, hb, orO]⟩
        · simp only [partPost, partN, hb] at hpart
          repeat' (first | refine esem_seqK 38687988491791071168698365 ?_ | refine esem_block ?_ | (refine stp ?_; simp only [go_sem, hget, e0, e0', e1, e1', e2, e2', e4, e4', e12, e12', e15, e15', e100, e100', e37l, e100l, e101l, List.cons_append, List.nil_append]) | (refine drawQ (id := 6) mixed [(1, []), (2, []), (0, [2]), (3, []), (4, []), (5, []), (6, []), (7, []), (8, []), (9, [])] (by kernel_rfl) ?_; simp only [go_sem, hget, e0, e0', e1, e1', e2, e2', e4, e4', e12, e12', e15, e15', e100, e100', e37l, e100l, e101l, List.cons_append, List.nil_append]) | (refine drawQ (id := 18) mixed [(0, []), (1, []), (2, []), (3, []), (4, []), (5, []), (6, [4]), (7, [])] (by kernel_rfl) ?_; simp only [go_sem, hget, e0, e0', e1, e1', e2, e2', e4, e4', e12, e12', e15, e15', e100, e100', e37l, e100l, e101l, List.cons_append, List.nil_append]) | (refine Eff.at2 (hpart ) [2, 1] rfl (by first | (simp; done) | (simp; omega) | (simp [bC]; done) | omega) rfl ?_; (try simp only [go_sem, hget, e0, e0', e1, e1', e2, e2', e4, e4', e12, e12', e15, e15', e100, e100', e37l, e100l, e101l, List.cons_append, List.nil_append])) | (simp (disch := omega) only [wE]) | (refine spl (fun h => ?_) (fun h => ?_) <;> first | (exfalso; omega) | ((try simp only [opRun, opSkip, stepRun, pickZ]); (try simp only [go_sem, hget, e0, e0', e1, e1', e2, e2', e4, e4', e12, e12', e15, e15', e100, e100', e37l, e100l, e101l, List.cons_append, List.nil_append, h]))) | (refine and_om ?_ ?_; focus omega))
          · (refine ⟨(j + 1, (partS (ps.getD j 0) ts l.length c i).1, (partS (ps.getD j 0) ts l.length c i).2.1, some a), ?_, ?_, rfl, rfl, ?_, ?_⟩; rotate_left; (focus (first | omega | (simp only []; omega))); (focus (first | (simp only [go_sem, weakL, fnsB, e0, e0', e1, e1', e2, e2', e4, e4', e12, e12', e15, e15', e100, e100', e37l, e100l, e101l, List.cons_append, List.nil_append]; done) | ((try simp only [go_sem, weakL, fnsB, e0, e0', e1, e1', e2, e2', e4, e4', e12, e12', e15, e15', e100, e100', e37l, e100l, e101l, List.cons_append, List.nil_append]); ((repeat' apply And.intro) <;> (first | rfl | trivial | ((try simp only [EV.int.injEq, EV.str.injEq, EV.bool.injEq, EV.tuple.injEq, EV.slice.injEq, List.cons.injEq, true_and, and_true]); first | rfl | omega)))))); (focus (first | trivial | (simp only [go_sem, lessL, fnsB, e0, e0', e1, e1', e2, e2', e4, e4', e12, e12', e15, e15', e100, e100', e37l, e100l, e101l, List.cons_append, List.nil_append]; done) | ((try simp only [go_sem, lessL, fnsB, e0, e0', e1, e1', e2, e2', e4, e4', e12, e12', e15, e15', e100, e100', e37l, e100l, e101l, List.cons_append, List.nil_append]); ((repeat' apply And.intro) <;> (first | rfl | trivial | ((try simp only [EV.int.injEq, EV.str.injEq, EV.bool.injEq, EV.tuple.injEq, EV.slice.injEq, List.cons.injEq, true_and, and_true]); first | rfl | omega)))))); (try simp only []))
            exact ⟨by omega, by rw [hstep]; simp only [stepP, hb, orO]⟩
      | some a =>
        have hpart := part_b G ts c i l.length 4 (.inr rfl) hal (ps.getD j 0) (hps _ (getD_mem hjl))
        simp only [fnsB, List.cons_append, List.nil_append]
        repeat' (first | refine esem_seqK 38687988491791071168698365 ?_ | refine esem_block ?_ | (refine stp ?_; simp only [go_sem, hget, e0, e0', e1, e1', e2, e2', e4, e4', e12, e12', e15, e15', e100, e100', e37l, e100l, e101l, List.cons_append, List.nil_append]) | (refine drawQ (id := 6) mixed [(1, []), (2, []), (0, [2]), (3, []), (4, []), (5, []), (6, []), (7, []), (8, []), (9, [])] (by kernel_rfl) ?_; simp only [go_sem, hget, e0, e0', e1, e1', e2, e2', e4, e4', e12, e12', e15, e15', e100, e100', e37l, e100l, e101l, List.cons_append, List.nil_append]) | (refine drawQ (id := 18) mixed [(0, []), (1, []), (2, []), (3, []), (4, []), (5, []), (6, [4]), (7, [])] (by kernel_rfl) ?_; simp only [go_sem, hget, e0, e0', e1, e1', e2, e2', e4, e4', e12, e12', e15, e15', e100, e100', e37l, e100l, e101l, List.cons_append, List.nil_append]) | (refine Eff.at2 (hpart ) [2, 1, 100] rfl (by first | (simp; done) | (simp; omega) | (simp [bC]; done) | omega) rfl ?_; (try simp only [go_sem, hget, e0, e0', e1, e1', e2, e2', e4, e4', e12, e12', e15, e15', e100, e100', e37l, e100l, e101l, List.cons_append, List.nil_append])) | (simp (disch := omega) only [wE]) | (refine spl (fun h => ?_) (fun h => ?_) <;> first | (exfalso; omega) | ((try simp only [opRun, opSkip, stepRun, pickZ]); (try simp only [go_sem, hget, e0, e0', e1, e1', e2, e2', e4, e4', e12, e12', e15, e15', e100, e100', e37l, e100l, e101l, List.cons_append, List.nil_append, h]))) | (refine and_om ?_ ?_; focus omega))
        · (refine ⟨(j + 1, (partS (ps.getD j 0) ts l.length c i).1, (partS (ps.getD j 0) ts l.length c i).2.1, some a), ?_, ?_, rfl, rfl, ?_, ?_⟩; rotate_left; (focus (first | omega | (simp only []; omega))); (focus (first | (simp only [go_sem, weakL, fnsB, e0, e0', e1, e1', e2, e2', e4, e4', e12, e12', e15, e15', e100, e100', e37l, e100l, e101l, List.cons_append, List.nil_append]; done) | ((try simp only [go_sem, weakL, fnsB, e0, e0', e1, e1', e2, e2', e4, e4', e12, e12', e15, e15', e100, e100', e37l, e100l, e101l, List.cons_append, List.nil_append]); ((repeat' apply And.intro) <;> (first | rfl | trivial | ((try simp only [EV.int.injEq, EV.str.injEq, EV.bool.injEq, EV.tuple.injEq, EV.slice.injEq, List.cons.injEq, true_and, and_true]); first | rfl | omega)))))); (focus (first | trivial | (simp only [go_sem, lessL, fnsB, e0, e0', e1, e1', e2, e2', e4, e4', e12, e12', e15, e15', e100, e100', e37l, e100l, e101l, List.cons_append, List.nil_append]; done) | ((try simp only [go_sem, lessL, fnsB, e0, e0', e1, e1', e2, e2', e4, e4', e12, e12', e15, e15', e100, e100', e37l, e100l, e101l, List.cons_append, List.nil_append]); ((repeat' apply And.intro) <;> (first | rfl | trivial | ((try simp only [EV.int.injEq, EV.str.injEq, EV.bool.injEq, EV.tuple.injEq, EV.slice.injEq, List.cons.injEq, true_and, and_true]); first | rfl | omega)))))); (try simp only []))
          exact ⟨by omega, by rw [hstep]; simp only [stepP, orO]⟩
    · rw [List.drop_eq_nil_of_le (by omega)] at hrun
      simp only [runP, List.foldl] at hrun
      have hpt : parseT ts l.length = endP ts (c, i, bad) := by
        unfold parseT; rw [hf]; simp only [if_pos hk']
        rw [hrun]; rfl
      rw [hpt] at hp
      simp only [endP] at hp
      cases bad with
      | none =>
        simp only [fnsB, List.cons_append, List.nil_append]
        by_cases hi : i < ts.length
        · have ht1 := toks_at1 hi
          rw [if_pos hi] at hp
          simp only [orO] at hp
          rw [hp]
          simp only [parseV, parseB, parseN]
          repeat' (first | refine esem_seqK 38687988491791071168698365 ?_ | refine esem_block ?_ | (refine stp ?_; simp only [go_sem, ht1, e0, e0', e1, e1', e2, e2', e4, e4', e12, e12', e15, e15', e100, e100', e37l, e100l, e101l, List.cons_append, List.nil_append]) | (refine drawQ (id := 6) mixed [(1, []), (2, []), (0, [2]), (3, []), (4, []), (5, []), (6, []), (7, []), (8, []), (9, [])] (by kernel_rfl) ?_; simp only [go_sem, ht1, e0, e0', e1, e1', e2, e2', e4, e4', e12, e12', e15, e15', e100, e100', e37l, e100l, e101l, List.cons_append, List.nil_append]) | (refine drawQ (id := 18) mixed [(0, []), (1, []), (2, []), (3, []), (4, []), (5, []), (6, [4]), (7, [])] (by kernel_rfl) ?_; simp only [go_sem, ht1, e0, e0', e1, e1', e2, e2', e4, e4', e12, e12', e15, e15', e100, e100', e37l, e100l, e101l, List.cons_append, List.nil_append]) | (refine Eff.at2 (fails_new _ c (slT ts i) (.inr ⟨_, _, rfl⟩) l.length (tokAt ts i).at_ ) [2, 1] rfl (by first | (simp; done) | (simp; omega) | (simp [bC]; done) | omega) rfl ?_; (try simp only [go_sem, ht1, e0, e0', e1, e1', e2, e2', e4, e4', e12, e12', e15, e15', e100, e100', e37l, e100l, e101l, List.cons_append, List.nil_append])) | (simp (disch := omega) only [wE]) | (refine spl (fun h => ?_) (fun h => ?_) <;> first | (exfalso; omega) | ((try simp only [opRun, opSkip, stepRun, pickZ]); (try simp only [go_sem, ht1, e0, e0', e1, e1', e2, e2', e4, e4', e12, e12', e15, e15', e100, e100', e37l, e100l, e101l, List.cons_append, List.nil_append, h]))) | (refine and_om ?_ ?_; focus omega))
          exact done_ef2 [100] (by simp) rfl (by simp [mA]) (by simp [bC])
        · rw [if_neg hi] at hp
          rw [hp]
          simp only [parseV, parseB, parseN, if_true]
          repeat' (first | refine esem_seqK 38687988491791071168698365 ?_ | refine esem_block ?_ | (refine stp ?_; simp only [go_sem, e0, e0', e1, e1', e2, e2', e4, e4', e12, e12', e15, e15', e100, e100', e37l, e100l, e101l, List.cons_append, List.nil_append]) | (refine drawQ (id := 6) mixed [(1, []), (2, []), (0, [2]), (3, []), (4, []), (5, []), (6, []), (7, []), (8, []), (9, [])] (by kernel_rfl) ?_; simp only [go_sem, e0, e0', e1, e1', e2, e2', e4, e4', e12, e12', e15, e15', e100, e100', e37l, e100l, e101l, List.cons_append, List.nil_append]) | (refine drawQ (id := 18) mixed [(0, []), (1, []), (2, []), (3, []), (4, []), (5, []), (6, [4]), (7, [])] (by kernel_rfl) ?_; simp only [go_sem, e0, e0', e1, e1', e2, e2', e4, e4', e12, e12', e15, e15', e100, e100', e37l, e100l, e101l, List.cons_append, List.nil_append]) | (simp (disch := omega) only [wE]) | (refine spl (fun h => ?_) (fun h => ?_) <;> first | (exfalso; omega) | ((try simp only [opRun, opSkip, stepRun, pickZ]); (try simp only [go_sem, e0, e0', e1, e1', e2, e2', e4, e4', e12, e12', e15, e15', e100, e100', e37l, e100l, e101l, List.cons_append, List.nil_append, h]))) | (refine and_om ?_ ?_; focus omega))
          exact done_ef2 [] (by simp) rfl (by simp [mA]) (by simp [bC])
      | some a =>
        have hp2 : parseP l = (zCmd, 260, a) := by rw [hp]; by_cases hi : i < ts.length <;> simp only [hi, if_true, if_false, orO]
        rw [hp2]
        simp only [fnsB, List.cons_append, List.nil_append, parseV, parseB, parseN]
        by_cases hi : i < ts.length
        · have ht1 := toks_at1 hi
          repeat' (first | refine esem_seqK 38687988491791071168698365 ?_ | refine esem_block ?_ | (refine stp ?_; simp only [go_sem, ht1, e0, e0', e1, e1', e2, e2', e4, e4', e12, e12', e15, e15', e100, e100', e37l, e100l, e101l, List.cons_append, List.nil_append]) | (refine drawQ (id := 6) mixed [(1, []), (2, []), (0, [2]), (3, []), (4, []), (5, []), (6, []), (7, []), (8, []), (9, [])] (by kernel_rfl) ?_; simp only [go_sem, ht1, e0, e0', e1, e1', e2, e2', e4, e4', e12, e12', e15, e15', e100, e100', e37l, e100l, e101l, List.cons_append, List.nil_append]) | (refine drawQ (id := 18) mixed [(0, []), (1, []), (2, []), (3, []), (4, []), (5, []), (6, [4]), (7, [])] (by kernel_rfl) ?_; simp only [go_sem, ht1, e0, e0', e1, e1', e2, e2', e4, e4', e12, e12', e15, e15', e100, e100', e37l, e100l, e101l, List.cons_append, List.nil_append]) | (refine Eff.at2 (fails_old _ c (slT ts i) (.inr ⟨_, _, rfl⟩) l.length (tokAt ts i).at_ ) [2, 1, 100] rfl (by first | (simp; done) | (simp; omega) | (simp [bC]; done) | omega) rfl ?_; (try simp only [go_sem, ht1, e0, e0', e1, e1', e2, e2', e4, e4', e12, e12', e15, e15', e100, e100', e37l, e100l, e101l, List.cons_append, List.nil_append])) | (simp (disch := omega) only [wE]) | (refine spl (fun h => ?_) (fun h => ?_) <;> first | (exfalso; omega) | ((try simp only [opRun, opSkip, stepRun, pickZ]); (try simp only [go_sem, ht1, e0, e0', e1, e1', e2, e2', e4, e4', e12, e12', e15, e15', e100, e100', e37l, e100l, e101l, List.cons_append, List.nil_append, h]))) | (refine and_om ?_ ?_; focus omega))
          exact done_ef2 [100] (by simp) rfl (by simp [List.map_append, e100']) (by simp [bytesE_cons, bytesE_nil, e100'])
        · repeat' (first | refine esem_seqK 38687988491791071168698365 ?_ | refine esem_block ?_ | (refine stp ?_; simp only [go_sem, e0, e0', e1, e1', e2, e2', e4, e4', e12, e12', e15, e15', e100, e100', e37l, e100l, e101l, List.cons_append, List.nil_append]) | (refine drawQ (id := 6) mixed [(1, []), (2, []), (0, [2]), (3, []), (4, []), (5, []), (6, []), (7, []), (8, []), (9, [])] (by kernel_rfl) ?_; simp only [go_sem, e0, e0', e1, e1', e2, e2', e4, e4', e12, e12', e15, e15', e100, e100', e37l, e100l, e101l, List.cons_append, List.nil_append]) | (refine drawQ (id := 18) mixed [(0, []), (1, []), (2, []), (3, []), (4, []), (5, []), (6, [4]), (7, [])] (by kernel_rfl) ?_; simp only [go_sem, e0, e0', e1, e1', e2, e2', e4, e4', e12, e12', e15, e15', e100, e100', e37l, e100l, e101l, List.cons_append, List.nil_append]) | (simp (disch := omega) only [wE]) | (refine spl (fun h => ?_) (fun h => ?_) <;> first | (exfalso; omega) | ((try simp only [opRun, opSkip, stepRun, pickZ]); (try simp only [go_sem, e0, e0', e1, e1', e2, e2', e4, e4', e12, e12', e15, e15', e100, e100', e37l, e100l, e101l, List.cons_append, List.nil_append, h]))) | (refine and_om ?_ ?_; focus omega))
          exact done_ef2 [100] (by simp) rfl (by simp [List.map_append, e100']) (by simp [bytesE_cons, bytesE_nil, e100'])
  · simp only [go_sem, lookE]
    have hpt : parseT ts l.length = endP ts (⟨k, [], 0, 0, 0, [], 0⟩, 1, none) := by
      unfold parseT; rw [hf]; simp only [if_pos hk']; rfl
    rw [hpt] at hp
    simp only [endP] at hp
    by_cases hi : 1 < ts.length
    · have ht1 : (toksE ts)[5]? = some (.int .i64 (tokAt ts 1).at_) := toks_at1 hi
      rw [if_pos hi] at hp
      simp only [orO] at hp
      rw [hp]
      simp only [parseV, parseB, parseN]
      repeat' (first | refine esem_seqK 38687988491791071168698365 ?_ | refine esem_block ?_ | (refine stp ?_; simp only [go_sem, ht1]) | (refine drawQ (id := 6) mixed [(1, []), (2, []), (0, [2]), (3, []), (4, []), (5, []), (6, []), (7, []), (8, []), (9, [])] (by kernel_rfl) ?_; simp only [go_sem, ht1]) | (refine drawQ (id := 18) mixed [(0, []), (1, []), (2, []), (3, []), (4, []), (5, []), (6, [4]), (7, [])] (by kernel_rfl) ?_; simp only [go_sem, ht1]) | (refine Eff.at2 (fails_new _ ⟨k, [], 0, 0, 0, [], 0⟩ (slT ts 1) (.inr ⟨_, _, rfl⟩) l.length (tokAt ts 1).at_ ) [2, 1] rfl (by first | (simp; done) | (simp; omega) | (simp [bC]; done) | omega) rfl ?_; (try simp only [go_sem, ht1])) | (refine esem_loopN 38687988491791071168698365 1 ?_; simp only [go_sem, ht1]) | (simp (disch := omega) only [wE]) | (refine spl (fun h => ?_) (fun h => ?_) <;> first | (exfalso; omega) | ((try simp only [opRun, opSkip, stepRun, pickZ]); (try simp only [go_sem, ht1, h]))) | (refine and_om ?_ ?_; focus omega))
      exact done_ef2 [37] (by simp) rfl (by simp [mA]) (by simp [bC])
    · rw [if_neg hi] at hp
      rw [hp]
      simp only [parseV, parseB, parseN, if_true]
      repeat' (first | refine esem_seqK 38687988491791071168698365 ?_ | refine esem_block ?_ | (refine stp ?_; simp only [go_sem]) | (refine drawQ (id := 6) mixed [(1, []), (2, []), (0, [2]), (3, []), (4, []), (5, []), (6, []), (7, []), (8, []), (9, [])] (by kernel_rfl) ?_; simp only [go_sem]) | (refine drawQ (id := 18) mixed [(0, []), (1, []), (2, []), (3, []), (4, []), (5, []), (6, [4]), (7, [])] (by kernel_rfl) ?_; simp only [go_sem]) | (refine esem_loopN 38687988491791071168698365 1 ?_; simp only [go_sem]) | (simp (disch := omega) only [wE]) | (refine spl (fun h => ?_) (fun h => ?_) <;> first | (exfalso; omega) | ((try simp only [opRun, opSkip, stepRun, pickZ]); (try simp only [go_sem, h]))) | (refine and_om ?_ ?_; focus omega))
      exact done_ef2 [] (by simp) rfl (by simp [mA]) (by simp [bC])
  · simp only [go_sem, lookE]
    have hp2 : parseP l = (zCmd, 260, (tokAt ts 0).at_) := by
      rw [hp]; unfold parseT; rw [hf]; simp only [endP]; by_cases hi : 1 < ts.length <;> simp only [hi, if_true, if_false, orO]
    rw [hp2]
    simp only [parseV, parseB, parseN]
    by_cases hi : 1 < ts.length
    · have ht1 : (toksE ts)[5]? = some (.int .i64 (tokAt ts 1).at_) := toks_at1 hi
      repeat' (first | refine esem_seqK 38687988491791071168698365 ?_ | refine esem_block ?_ | (refine stp ?_; simp only [go_sem, ht1]) | (refine drawQ (id := 6) mixed [(1, []), (2, []), (0, [2]), (3, []), (4, []), (5, []), (6, []), (7, []), (8, []), (9, [])] (by kernel_rfl) ?_; simp only [go_sem, ht1]) | (refine drawQ (id := 18) mixed [(0, []), (1, []), (2, []), (3, []), (4, []), (5, []), (6, [4]), (7, [])] (by kernel_rfl) ?_; simp only [go_sem, ht1]) | (refine Eff.at2 (fails_new _ zCmd (slT ts 1) (.inr ⟨_, _, rfl⟩) l.length (tokAt ts 0).at_ ) [2, 1] rfl (by first | (simp; done) | (simp; omega) | (simp [bC]; done) | omega) rfl ?_; (try simp only [go_sem, ht1])) | (refine Eff.at2 (fails_old _ zCmd (slT ts 1) (.inr ⟨_, _, rfl⟩) l.length (tokAt ts 1).at_ ) [2, 1, 37] rfl (by first | (simp; done) | (simp; omega) | (simp [bC]; done) | omega) rfl ?_; (try simp only [go_sem, ht1])) | (refine esem_loopN 38687988491791071168698365 1 ?_; simp only [go_sem, ht1]) | (simp (disch := omega) only [wE]) | (refine spl (fun h => ?_) (fun h => ?_) <;> first | (exfalso; omega) | ((try simp only [opRun, opSkip, stepRun, pickZ]); (try simp only [go_sem, ht1, h]))) | (refine and_om ?_ ?_; focus omega))
      exact done_ef2 [37] (by simp) rfl (by simp [mA]) (by simp [bC])
    · repeat' (first | refine esem_seqK 38687988491791071168698365 ?_ | refine esem_block ?_ | (refine stp ?_; simp only [go_sem]) | (refine drawQ (id := 6) mixed [(1, []), (2, []), (0, [2]), (3, []), (4, []), (5, []), (6, []), (7, []), (8, []), (9, [])] (by kernel_rfl) ?_; simp only [go_sem]) | (refine drawQ (id := 18) mixed [(0, []), (1, []), (2, []), (3, []), (4, []), (5, []), (6, [4]), (7, [])] (by kernel_rfl) ?_; simp only [go_sem]) | (refine Eff.at2 (fails_new _ zCmd (slT ts 1) (.inr ⟨_, _, rfl⟩) l.length (tokAt ts 0).at_ ) [2, 1] rfl (by first | (simp; done) | (simp; omega) | (simp [bC]; done) | omega) rfl ?_; (try simp only [go_sem])) | (refine esem_loopN 38687988491791071168698365 1 ?_; simp only [go_sem]) | (simp (disch := omega) only [wE]) | (refine spl (fun h => ?_) (fun h => ?_) <;> first | (exfalso; omega) | ((try simp only [opRun, opSkip, stepRun, pickZ]); (try simp only [go_sem, h]))) | (refine and_om ?_ ?_; focus omega))
      exact done_ef2 [37] (by simp) rfl (by simp [mA]) (by simp [bC])
theorem parse_no (G : List Gl) (l : List UInt8) (ts : List Tok) (hts : 0 < ts.length) (hal : ts.length ≤ 16384) (hlen : l.length ≤ 9223372036854775807)
    (hsc : Eff G Tryz.prog 20 [.str l] [] 0 (.tuple [.slice (some ⟨0, 0⟩) ts.length ts.length, .nilIface]) [(0, .cells (toksE ts) 72 4 true 0)] 1)
    (hp : parseP l = match (parseT ts l.length).2 with
      | some a => (zCmd, 260, a)
      | none => ((parseT ts l.length).1, 0, 0)) (hk : ¬ ((tokAt ts 0).kind : Int) = 1) : Eff G Tryz.prog 10 [.str l] [] 0 (parseV (parseP l)) (parseB (parseP l)) (parseN (parseP l)) := by
  unfold Eff
  have hk' : ¬ (tokAt ts 0).kind = 1 := by omega
  refine ecalls_in 96 [.cell 2 24, .tmp 3] Tryz.func10 rfl rfl rfl (by kernel_rfl) (le_ble rfl) ?_
  repeat' (first | refine esem_seqK 38687988491791071168698365 ?_ | refine esem_block ?_ | (refine stp ?_; simp only [go_sem]) | (refine drawQ (id := 6) mixed [(1, []), (2, []), (0, [2]), (3, []), (4, []), (5, []), (6, []), (7, []), (8, []), (9, [])] (by kernel_rfl) ?_; simp only [go_sem]) | (refine drawQ (id := 18) mixed [(0, []), (1, []), (2, []), (3, []), (4, []), (5, []), (6, [4]), (7, [])] (by kernel_rfl) ?_; simp only [go_sem]) | (refine Eff.at2 (hsc ) [] rfl (by first | (simp; done) | (simp; omega) | (simp [bC]; done) | omega) rfl ?_; (try simp only [go_sem])) | (refine Eff.at2 (next1_no _ ts zCmd 0 l.length 4 (.inr rfl) hal 1 (by omega) hk ) [2, 1, 3] rfl (by first | (simp; done) | (simp; omega) | (simp [bC]; done) | omega) rfl ?_; (try simp only [go_sem])) | (refine Eff.at2 (forms_c _ ) [] rfl (by first | (simp; done) | (simp; omega) | (simp [bC]; done) | omega) rfl ?_; (try simp only [go_sem])) | (simp only [go_sem, Op.operands]) | (simp (disch := omega) only [wE]) | (refine spl (fun h => ?_) (fun h => ?_) <;> first | (exfalso; omega) | ((try simp only [opRun, opSkip, stepRun, pickZ]); (try simp only [go_sem, h]))) | (refine and_om ?_ ?_; focus omega))
  refine look_c (m := 16) _ (fun f k ps hf hps hp4 hp0 hf1 hf2 => ?_) (fun k hf => ?_) (fun hf => ?_) (by decide) rfl
  · simp only [go_sem, lookE, List.cons_append, List.nil_append]
    have e0 : (0 = f) = False := eq_false (by omega)
    have e0' : (f = 0) = False := eq_false (by omega)
    have e1 : (1 = f) = False := eq_false (by omega)
    have e1' : (f = 1) = False := eq_false (by omega)
    have e2 : (2 = f) = False := eq_false (by omega)
    have e2' : (f = 2) = False := eq_false (by omega)
    have e5 : (5 = f) = False := eq_false (by omega)
    have e5' : (f = 5) = False := eq_false (by omega)
    have e13 : (13 = f) = False := eq_false (by omega)
    have e13' : (f = 13) = False := eq_false (by omega)
    have e16 : (16 = f) = False := eq_false (by omega)
    have e16' : (f = 16) = False := eq_false (by omega)
    have e4 : (4 = f) = False := eq_false (by omega)
    have e4' : (f = 4) = False := eq_false (by omega)
    have e37l : (f < 38) = True := eq_true (by omega)
    have e100l : (f < 100) = True := eq_true (by omega)
    have e101l : (f < 101) = True := eq_true (by omega)
    repeat' (first | refine esem_seqK 38687988491791071168698365 ?_ | refine esem_block ?_ | (refine stp ?_; simp only [go_sem]) | (refine drawQ (id := 6) mixed [(1, []), (2, []), (0, [2]), (3, []), (4, []), (5, []), (6, []), (7, []), (8, []), (9, [])] (by kernel_rfl) ?_; simp only [go_sem]) | (refine drawQ (id := 18) mixed [(0, []), (1, []), (2, []), (3, []), (4, []), (5, []), (6, [4]), (7, [])] (by kernel_rfl) ?_; simp only [go_sem]) | (simp (disch := omega) only [wE]) | (refine spl (fun h => ?_) (fun h => ?_) <;> first | (exfalso; omega) | ((try simp only [opRun, opSkip, stepRun, pickZ]); (try simp only [go_sem, h]))) | (refine and_om ?_ ?_; focus omega))
    refine esem_loopS (fun z : Nat × Cmd × Nat × Option Nat => [(2, .ptr (some ⟨0, 0⟩)), (6, .ptr (some ⟨2, 0⟩)), (56, .slice (some ⟨f, 0⟩) ps.length ps.length), (57, .int .i64 ps.length), (58, .int .i64 z.1)]) (fun z : Nat × Cmd × Nat × Option Nat => fnsB ts l.length f 4 4 ps [(0, .cells (cmdE zCmd) 24 0 true 0)] z.2) (fun z : Nat × Cmd × Nat × Option Nat => (match z.2.2.2 with | none => 100 | some _ => 101)) (fun z : Nat × Cmd × Nat × Option Nat => z.1 ≤ ps.length ∧ runP ts l.length (ps.drop z.1) z.2 = runP ts l.length ps (⟨k, [], 0, 0, 0, [], 0⟩, 1, some (tokAt ts 0).at_) ∧ z.2.2.2.isSome = true) (fun z : Nat × Cmd × Nat × Option Nat => ps.length - z.1) (((0 : Nat), (⟨k, [], 0, 0, 0, [], 0⟩ : Cmd), (1 : Nat), (some (tokAt ts 0).at_ : Option Nat))) (fun z hz => (by obtain ⟨j, c, i, bad⟩ := z; cases bad <;> exact ⟨by simp [frBel, EV.bel, allBelow]; omega, by simp [fnsB, blBelow, EO.bel, allBelow, EV.bel]; omega, Nat.zero_le _⟩)) (by exact ⟨Nat.zero_le _, rfl, rfl⟩) (by first | (simp only [go_sem, weakL]; done) | ((try simp only [go_sem, weakL]); ((repeat' apply And.intro) <;> (first | rfl | trivial | ((try simp only [EV.int.injEq, EV.str.injEq, EV.bool.injEq, EV.tuple.injEq, EV.slice.injEq, List.cons.injEq, true_and, and_true]); first | rfl | omega))))) ?_ ?_
    · first
      | (simp only [fnsB, lessL, ES.get, lkp, e0, e0', e1, e1', e2, e2', e5, e5', e13, e13', e16, e16', e4, e4', e37l, e100l, e101l, List.cons_append, List.nil_append, go_sem]; done)
      | (simp only [fnsB, lessL, ES.get, lkp, e0, e0', e1, e1', e2, e2', e5, e5', e13, e13', e16, e16', e4, e4', e37l, e100l, e101l, List.cons_append, List.nil_append, go_sem]; rfl)
    rintro ⟨j, c, i, bad⟩ ⟨hj, hrun, hs⟩
    simp only at hj hrun
    by_cases hjl : j < ps.length
    · have hget := fnsE_get hjl
      have hstep : runP ts l.length (ps.drop j) (c, i, bad) = runP ts l.length (ps.drop (j + 1)) (stepP ts l.length (c, i, bad) (ps.getD j 0)) := by rw [drop_cons hjl]; rfl
      rw [hrun] at hstep
      cases bad with
      | none => exact absurd hs (by simp)
      | some a =>
        have hpart := part_b G ts c i l.length 4 (.inr rfl) hal (ps.getD j 0) (hps _ (getD_mem hjl))
        simp only [fnsB, List.cons_append, List.nil_append]
        repeat' (first | refine esem_seqK 38687988491791071168698365 ?_ | refine esem_block ?_ | (refine stp ?_; simp only [go_sem, hget, e0, e0', e1, e1', e2, e2', e5, e5', e13, e13', e16, e16', e4, e4', e37l, e100l, e101l, List.cons_append, List.nil_append]) | (refine drawQ (id := 6) mixed [(1, []), (2, []), (0, [2]), (3, []), (4, []), (5, []), (6, []), (7, []), (8, []), (9, [])] (by kernel_rfl) ?_; simp only [go_sem, hget, e0, e0', e1, e1', e2, e2', e5, e5', e13, e13', e16, e16', e4, e4', e37l, e100l, e101l, List.cons_append, List.nil_append]) | (refine drawQ (id := 18) mixed [(0, []), (1, []), (2, []), (3, []), (4, []), (5, []), (6, [4]), (7, [])] (by kernel_rfl) ?_; simp only [go_sem, hget, e0, e0', e1, e1', e2, e2', e5, e5', e13, e13', e16, e16', e4, e4', e37l, e100l, e101l, List.cons_append, List.nil_append]) | (refine Eff.at2 (hpart ) [2, 1, 4] rfl (by first | (simp; done) | (simp; omega) | (simp [bC]; done) | omega) rfl ?_; (try simp only [go_sem, hget, e0, e0', e1, e1', e2, e2', e5, e5', e13, e13', e16, e16', e4, e4', e37l, e100l, e101l, List.cons_append, List.nil_append])) | (simp (disch := omega) only [wE]) | (refine spl (fun h => ?_) (fun h => ?_) <;> first | (exfalso; omega) | ((try simp only [opRun, opSkip, stepRun, pickZ]); (try simp only [go_sem, hget, e0, e0', e1, e1', e2, e2', e5, e5', e13, e13', e16, e16', e4, e4', e37l, e100l, e101l, List.cons_append, List.nil_append, h]))) | (refine and_om ?_ ?_; focus omega))
        · (refine ⟨(j + 1, (partS (ps.getD j 0) ts l.length c i).1, (partS (ps.getD j 0) ts l.length c i).2.1, some a), ?_, ?_, rfl, rfl, ?_, ?_⟩; rotate_left; (focus (first | omega | (simp only []; omega))); (focus (first | (simp only [go_sem, weakL, fnsB, e0, e0', e1, e1', e2, e2', e5, e5', e13, e13', e16, e16', e4, e4', e37l, e100l, e101l, List.cons_append, List.nil_append]; done) | ((try simp only [go_sem, weakL, fnsB, e0, e0', e1, e1', e2, e2', e5, e5', e13, e13', e16, e16', e4, e4', e37l, e100l, e101l, List.cons_append, List.nil_append]); ((repeat' apply And.intro) <;> (first | rfl | trivial | ((try simp only [EV.int.injEq, EV.str.injEq, EV.bool.injEq, EV.tuple.injEq, EV.slice.injEq, List.cons.injEq, true_and, and_true]); first | rfl | omega)))))); (focus (first | trivial | (simp only [go_sem, lessL, fnsB, e0, e0', e1, e1', e2, e2', e5, e5', e13, e13', e16, e16', e4, e4', e37l, e100l, e101l, List.cons_append, List.nil_append]; done) | ((try simp only [go_sem, lessL, fnsB, e0, e0', e1, e1', e2, e2', e5, e5', e13, e13', e16, e16', e4, e4', e37l, e100l, e101l, List.cons_append, List.nil_append]); ((repeat' apply And.intro) <;> (first | rfl | trivial | ((try simp only [EV.int.injEq, EV.str.injEq, EV.bool.injEq, EV.tuple.injEq, EV.slice.injEq, List.cons.injEq, true_and, and_true]); first | rfl | omega)))))); (try simp only []))
          exact ⟨by omega, by rw [hstep]; simp only [stepP, orO], rfl⟩
    · rw [List.drop_eq_nil_of_le (by omega)] at hrun
      simp only [runP, List.foldl] at hrun
      have hpt : parseT ts l.length = endP ts (c, i, bad) := by
        unfold parseT; rw [hf]; simp only [if_neg hk']
        rw [hrun]; rfl
      rw [hpt] at hp
      simp only [endP] at hp
      cases bad with
      | none => exact absurd hs (by simp)
      | some a =>
        have hp2 : parseP l = (zCmd, 260, a) := by rw [hp]; by_cases hi : i < ts.length <;> simp only [hi, if_true, if_false, orO]
        rw [hp2]
        simp only [fnsB, List.cons_append, List.nil_append, parseV, parseB, parseN]
        by_cases hi : i < ts.length
        · have ht1 := toks_at1 hi
          repeat' (first | refine esem_seqK 38687988491791071168698365 ?_ | refine esem_block ?_ | (refine stp ?_; simp only [go_sem, ht1, e0, e0', e1, e1', e2, e2', e5, e5', e13, e13', e16, e16', e4, e4', e37l, e100l, e101l, List.cons_append, List.nil_append]) | (refine drawQ (id := 6) mixed [(1, []), (2, []), (0, [2]), (3, []), (4, []), (5, []), (6, []), (7, []), (8, []), (9, [])] (by kernel_rfl) ?_; simp only [go_sem, ht1, e0, e0', e1, e1', e2, e2', e5, e5', e13, e13', e16, e16', e4, e4', e37l, e100l, e101l, List.cons_append, List.nil_append]) | (refine drawQ (id := 18) mixed [(0, []), (1, []), (2, []), (3, []), (4, []), (5, []), (6, [4]), (7, [])] (by kernel_rfl) ?_; simp only [go_sem, ht1, e0, e0', e1, e1', e2, e2', e5, e5', e13, e13', e16, e16', e4, e4', e37l, e100l, e101l, List.cons_append, List.nil_append]) | (refine Eff.at2 (fails_old _ c (slT ts i) (.inr ⟨_, _, rfl⟩) l.length (tokAt ts i).at_ ) [2, 1, 4] rfl (by first | (simp; done) | (simp; omega) | (simp [bC]; done) | omega) rfl ?_; (try simp only [go_sem, ht1, e0, e0', e1, e1', e2, e2', e5, e5', e13, e13', e16, e16', e4, e4', e37l, e100l, e101l, List.cons_append, List.nil_append])) | (simp (disch := omega) only [wE]) | (refine spl (fun h => ?_) (fun h => ?_) <;> first | (exfalso; omega) | ((try simp only [opRun, opSkip, stepRun, pickZ]); (try simp only [go_sem, ht1, e0, e0', e1, e1', e2, e2', e5, e5', e13, e13', e16, e16', e4, e4', e37l, e100l, e101l, List.cons_append, List.nil_append, h]))) | (refine and_om ?_ ?_; focus omega))
          exact done_ef2 [4] (by simp) rfl (by simp [List.map_append, e4']) (by simp [bytesE_cons, bytesE_nil, e4'])
        · repeat' (first | refine esem_seqK 38687988491791071168698365 ?_ | refine esem_block ?_ | (refine stp ?_; simp only [go_sem, e0, e0', e1, e1', e2, e2', e5, e5', e13, e13', e16, e16', e4, e4', e37l, e100l, e101l, List.cons_append, List.nil_append]) | (refine drawQ (id := 6) mixed [(1, []), (2, []), (0, [2]), (3, []), (4, []), (5, []), (6, []), (7, []), (8, []), (9, [])] (by kernel_rfl) ?_; simp only [go_sem, e0, e0', e1, e1', e2, e2', e5, e5', e13, e13', e16, e16', e4, e4', e37l, e100l, e101l, List.cons_append, List.nil_append]) | (refine drawQ (id := 18) mixed [(0, []), (1, []), (2, []), (3, []), (4, []), (5, []), (6, [4]), (7, [])] (by kernel_rfl) ?_; simp only [go_sem, e0, e0', e1, e1', e2, e2', e5, e5', e13, e13', e16, e16', e4, e4', e37l, e100l, e101l, List.cons_append, List.nil_append]) | (simp (disch := omega) only [wE]) | (refine spl (fun h => ?_) (fun h => ?_) <;> first | (exfalso; omega) | ((try simp only [opRun, opSkip, stepRun, pickZ]); (try simp only [go_sem, e0, e0', e1, e1', e2, e2', e5, e5', e13, e13', e16, e16', e4, e4', e37l, e100l, e101l, List.cons_append, List.nil_append, h]))) | (refine and_om ?_ ?_; focus omega))
          exact done_ef2 [4] (by simp) rfl (by simp [List.map_append, e4']) (by simp [bytesE_cons, bytesE_nil, e4'])
  · simp only [go_sem, lookE]
    have hp2 : parseP l = (zCmd, 260, (tokAt ts 0).at_) := by
      rw [hp]; unfold parseT; rw [hf]; simp only [endP, runP, List.foldl, if_neg hk']; by_cases hi : 1 < ts.length <;> simp only [hi, if_true, if_false, orO]
    rw [hp2]
    simp only [parseV, parseB, parseN]
    by_cases hi : 1 < ts.length
    · have ht1 : (toksE ts)[5]? = some (.int .i64 (tokAt ts 1).at_) := toks_at1 hi
      repeat' (first | refine esem_seqK 38687988491791071168698365 ?_ | refine esem_block ?_ | (refine stp ?_; simp only [go_sem, ht1]) | (refine drawQ (id := 6) mixed [(1, []), (2, []), (0, [2]), (3, []), (4, []), (5, []), (6, []), (7, []), (8, []), (9, [])] (by kernel_rfl) ?_; simp only [go_sem, ht1]) | (refine drawQ (id := 18) mixed [(0, []), (1, []), (2, []), (3, []), (4, []), (5, []), (6, [4]), (7, [])] (by kernel_rfl) ?_; simp only [go_sem, ht1]) | (refine Eff.at2 (fails_old _ ⟨k, [], 0, 0, 0, [], 0⟩ (slT ts 1) (.inr ⟨_, _, rfl⟩) l.length (tokAt ts 1).at_ ) [2, 1, 4] rfl (by first | (simp; done) | (simp; omega) | (simp [bC]; done) | omega) rfl ?_; (try simp only [go_sem, ht1])) | (refine esem_loopN 38687988491791071168698365 1 ?_; simp only [go_sem, ht1]) | (simp (disch := omega) only [wE]) | (refine spl (fun h => ?_) (fun h => ?_) <;> first | (exfalso; omega) | ((try simp only [opRun, opSkip, stepRun, pickZ]); (try simp only [go_sem, ht1, h]))) | (refine and_om ?_ ?_; focus omega))
      exact done_ef2 [4] (by simp) rfl (by simp [mA]) (by simp [bC])
    · repeat' (first | refine esem_seqK 38687988491791071168698365 ?_ | refine esem_block ?_ | (refine stp ?_; simp only [go_sem]) | (refine drawQ (id := 6) mixed [(1, []), (2, []), (0, [2]), (3, []), (4, []), (5, []), (6, []), (7, []), (8, []), (9, [])] (by kernel_rfl) ?_; simp only [go_sem]) | (refine drawQ (id := 18) mixed [(0, []), (1, []), (2, []), (3, []), (4, []), (5, []), (6, [4]), (7, [])] (by kernel_rfl) ?_; simp only [go_sem]) | (refine esem_loopN 38687988491791071168698365 1 ?_; simp only [go_sem]) | (simp (disch := omega) only [wE]) | (refine spl (fun h => ?_) (fun h => ?_) <;> first | (exfalso; omega) | ((try simp only [opRun, opSkip, stepRun, pickZ]); (try simp only [go_sem, h]))) | (refine and_om ?_ ?_; focus omega))
      exact done_ef2 [4] (by simp) rfl (by simp [mA]) (by simp [bC])
  · simp only [go_sem, lookE]
    have hp2 : parseP l = (zCmd, 260, (tokAt ts 0).at_) := by
      rw [hp]; unfold parseT; rw [hf]; simp only [endP]; by_cases hi : 1 < ts.length <;> simp only [hi, if_true, if_false, orO]
    rw [hp2]
    simp only [parseV, parseB, parseN]
    by_cases hi : 1 < ts.length
    · have ht1 : (toksE ts)[5]? = some (.int .i64 (tokAt ts 1).at_) := toks_at1 hi
      repeat' (first | refine esem_seqK 38687988491791071168698365 ?_ | refine esem_block ?_ | (refine stp ?_; simp only [go_sem, ht1]) | (refine drawQ (id := 6) mixed [(1, []), (2, []), (0, [2]), (3, []), (4, []), (5, []), (6, []), (7, []), (8, []), (9, [])] (by kernel_rfl) ?_; simp only [go_sem, ht1]) | (refine drawQ (id := 18) mixed [(0, []), (1, []), (2, []), (3, []), (4, []), (5, []), (6, [4]), (7, [])] (by kernel_rfl) ?_; simp only [go_sem, ht1]) | (refine Eff.at2 (fails_old _ zCmd (slT ts 1) (.inr ⟨_, _, rfl⟩) l.length (tokAt ts 1).at_ ) [2, 1, 4] rfl (by first | (simp; done) | (simp; omega) | (simp [bC]; done) | omega) rfl ?_; (try simp only [go_sem, ht1])) | (refine esem_loopN 38687988491791071168698365 1 ?_; simp only [go_sem, ht1]) | (simp (disch := omega) only [wE]) | (refine spl (fun h => ?_) (fun h => ?_) <;> first | (exfalso; omega) | ((try simp only [opRun, opSkip, stepRun, pickZ]); (try simp only [go_sem, ht1, h]))) | (refine and_om ?_ ?_; focus omega))
      exact done_ef2 [4] (by simp) rfl (by simp [mA]) (by simp [bC])
    · repeat' (first | refine esem_seqK 38687988491791071168698365 ?_ | refine esem_block ?_ | (refine stp ?_; simp only [go_sem]) | (refine drawQ (id := 6) mixed [(1, []), (2, []), (0, [2]), (3, []), (4, []), (5, []), (6, []), (7, []), (8, []), (9, [])] (by kernel_rfl) ?_; simp only [go_sem]) | (refine drawQ (id := 18) mixed [(0, []), (1, []), (2, []), (3, []), (4, []), (5, []), (6, [4]), (7, [])] (by kernel_rfl) ?_; simp only [go_sem]) | (refine esem_loopN 38687988491791071168698365 1 ?_; simp only [go_sem]) | (simp (disch := omega) only [wE]) | (refine spl (fun h => ?_) (fun h => ?_) <;> first | (exfalso; omega) | ((try simp only [opRun, opSkip, stepRun, pickZ]); (try simp only [go_sem, h]))) | (refine and_om ?_ ?_; focus omega))
      exact done_ef2 [4] (by simp) rfl (by simp [mA]) (by simp [bC])
end Go.Proofs.YtnjbdcdjcfhooaaGreatDoor
namespace Go.Proofs.YtnjbdcdjcfhooaaGreatDoor
open Go.E
set_option linter.all false
set_option maxRecDepth 20000
set_option maxHeartbeats 8000000
theorem scanG_len (s : List UInt8) : ∀ (n i : Nat) (out : List Tok), s.length - i = n → i ≤ s.length → (scanG s i out).1.length ≤ out.length + (s.length - i) := by
  intro n
  induction n using Nat.strongRecOn with
  | ind n ih =>
    intro i out hn hi
    have hb := skipP_ge blankB s i
    have hb2 : skipP blankB s i ≤ s.length := by
      unfold skipP
      have := (List.takeWhile_prefix blankB (l := s.drop i)).length_le
      rw [List.length_drop] at this; omega
    generalize hj : skipP blankB s i = j at hb hb2
    by_cases h : j < s.length
    · by_cases hc : (s.getD j 0).toNat = 34
      · rw [scanG_quo hj h hc]
        split
        · rename_i hq
          split
          · have h1 := quoG_lt (s.drop j) _ 1 [] rfl hq
            rw [List.length_drop] at h1
            have := ih (s.length - (j + (quoG (s.drop j) 1 []).2.1)) (by omega) _ (out ++ [⟨3, j, (quoG (s.drop j) 1 []).1, 0⟩]) rfl (by omega)
            simp only [List.length_append, List.length_cons, List.length_nil] at this
            omega
          · simp
        · simp
      · rw [scanG_run hj h hc]
        have hr := skipP_ge runB s j
        have hr2 : skipP runB s j ≤ s.length := by
          unfold skipP
          have := (List.takeWhile_prefix runB (l := s.drop j)).length_le
          rw [List.length_drop] at this; omega
        split
        · simp
        · split
          · have := ih (s.length - skipP runB s j) (by omega) _ (out ++ [runTok s j (skipP runB s j)]) rfl (by omega)
            simp only [List.length_append, List.length_cons, List.length_nil] at this
            omega
          · simp
    · rw [scanG_end hj (by omega)]; simp
theorem scanL_len (l : List UInt8) : (scanL l).1.length ≤ 16384 := by
  unfold scanL
  split
  · simp
  · have := scanG_len l _ 0 [] rfl (Nat.zero_le _)
    simp only [List.length_nil] at this
    omega
theorem parse_c (G : List Gl) (t u : TypeId) (h3 : gFirst t ∈ G) (h4 : gAcc u ∈ G) (l : List UInt8) (hlen : l.length ≤ 9223372036854775807) : Eff G Tryz.prog 10 [.str l] [] 0 (parseV (parseP l)) (parseB (parseP l)) (parseN (parseP l)) := by
  have hsc := scan_c G t u h3 h4 l
  have hp : parseP l = parseP l := rfl
  conv at hp => rhs; unfold parseP
  have hal := scanL_len l
  generalize hr : scanL l = r at hsc hp hal
  obtain ⟨ts, code, at_⟩ := r
  simp only [scanV, scanB, scanN] at hsc
  simp only at hp hal
  by_cases hc : code = 0
  · subst hc
    simp only [if_true] at hsc
    rw [if_neg (by decide)] at hp
    by_cases hts : ts.length = 0
    · obtain rfl : ts = [] := List.eq_nil_of_length_eq_zero hts
      simp only [List.length_nil, accE_zero, toksE, accB_nil, if_true] at hsc hp
      rw [hp]
      simp only [parseV, parseB, parseN]
      unfold Eff
      refine ecalls_in 96 [.cell 2 24, .tmp 3] Tryz.func10 rfl rfl rfl (by kernel_rfl) (le_ble rfl) ?_
      repeat' (first | refine esem_seqK 38687988491791071168698365 ?_ | refine esem_block ?_ | (refine stp ?_; simp only [go_sem]) | (refine drawQ (id := 6) mixed [(1, []), (2, []), (0, [2]), (3, []), (4, []), (5, []), (6, []), (7, []), (8, []), (9, [])] (by kernel_rfl) ?_; simp only [go_sem]) | (refine drawQ (id := 18) mixed [(0, []), (1, []), (2, []), (3, []), (4, []), (5, []), (6, [4]), (7, [])] (by kernel_rfl) ?_; simp only [go_sem]) | (refine Eff.at2 (hsc ) [] rfl (by first | (simp; done) | (simp; omega) | (simp [bC]; done) | omega) rfl ?_; (try simp only [go_sem])) | (refine Eff.at2 (next_nil _ zCmd l.length 1 ) [1, 2] rfl (by first | (simp; done) | (simp; omega) | (simp [bC]; done) | omega) rfl ?_; (try simp only [go_sem])) | (refine Eff.at2 (forms_c _ ) [] rfl (by first | (simp; done) | (simp; omega) | (simp [bC]; done) | omega) rfl ?_; (try simp only [go_sem])) | (simp only [go_sem, Op.operands]) | (simp (disch := omega) only [wE]) | (refine spl (fun h => ?_) (fun h => ?_) <;> first | (exfalso; omega) | ((try simp only [opRun, opSkip, stepRun, pickZ]); (try simp only [go_sem, h]))) | (refine and_om ?_ ?_; focus omega))
      refine look_c (m := 15) _ (fun f k ps hf => by cases (show (none : Option (Int × List Nat)) = some (k, ps) from hf)) (fun k hf => by cases (show (none : Option (Int × List Nat)) = some (k, []) from hf)) (fun hf => ?_) (by decide) rfl
      simp only [go_sem, lookE]
      repeat' (first | refine esem_seqK 38687988491791071168698365 ?_ | refine esem_block ?_ | (refine stp ?_; simp only [go_sem]) | (refine drawQ (id := 6) mixed [(1, []), (2, []), (0, [2]), (3, []), (4, []), (5, []), (6, []), (7, []), (8, []), (9, [])] (by kernel_rfl) ?_; simp only [go_sem]) | (refine drawQ (id := 18) mixed [(0, []), (1, []), (2, []), (3, []), (4, []), (5, []), (6, [4]), (7, [])] (by kernel_rfl) ?_; simp only [go_sem]) | (refine esem_loopN 38687988491791071168698365 1 ?_; simp only [go_sem]) | (simp (disch := omega) only [wE]) | (refine spl (fun h => ?_) (fun h => ?_) <;> first | (exfalso; omega) | ((try simp only [opRun, opSkip, stepRun, pickZ]); (try simp only [go_sem, h]))) | (refine and_om ?_ ?_; focus omega))
      exact done_ef2 [3] (by simp) rfl (by simp [mA]) (by simp [bC])
    · rw [accE_pos (n := ts.length) (by omega), accB_pos (c := toksE ts) (by rw [toksE_length]; omega), if_neg hts] at hsc
      rw [if_neg hts] at hp
      by_cases hk : ((tokAt ts 0).kind : Int) = 1
      · exact parse_ok G l ts (by omega) hal hlen hsc hp hk
      · exact parse_no G l ts (by omega) hal hlen hsc hp hk
  · rw [if_neg hc, if_neg hc, if_neg hc] at hsc
    rw [if_pos hc] at hp
    rw [hp]
    simp only [parseV, parseB, parseN, if_neg hc]
    unfold Eff
    refine ecalls_in 96 [.cell 2 24, .tmp 3] Tryz.func10 rfl rfl rfl (by kernel_rfl) (le_ble rfl) ?_
    repeat' (first | refine esem_seqK 38687988491791071168698365 ?_ | refine esem_block ?_ | (refine stp ?_; simp only [go_sem]) | (refine drawQ (id := 6) mixed [(1, []), (2, []), (0, [2]), (3, []), (4, []), (5, []), (6, []), (7, []), (8, []), (9, [])] (by kernel_rfl) ?_; simp only [go_sem]) | (refine drawQ (id := 18) mixed [(0, []), (1, []), (2, []), (3, []), (4, []), (5, []), (6, [4]), (7, [])] (by kernel_rfl) ?_; simp only [go_sem]) | (refine Eff.at2 (hsc ) [] rfl (by first | (simp; done) | (simp; omega) | (simp [bC]; done) | omega) rfl ?_; (try simp only [go_sem])) | (simp (disch := omega) only [wE]) | (refine spl (fun h => ?_) (fun h => ?_) <;> first | (exfalso; omega) | ((try simp only [opRun, opSkip, stepRun, pickZ]); (try simp only [go_sem, h]))) | (refine and_om ?_ ?_; focus omega))
    exact done_ef2 [1] (by simp) rfl (by simp [mA]) (by simp [bC])
end Go.Proofs.YtnjbdcdjcfhooaaGreatDoor
