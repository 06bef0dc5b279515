/-
  Own work: walks and laws of the functions that the statement reaches; the statement itself stands in the last text.
-/
import Derived.Test.YtnjbdcdjcfhooaaGreatDoorHw
namespace Go.Proofs.YtnjbdcdjcfhooaaGreatDoor
open Go.E Go.ChangeShapes Go.WideShapes Go.ChangeAt Go.RowKit
set_option linter.all false
set_option maxRecDepth 20000
set_option maxHeartbeats 8000000
theorem und64 : Tryz.prog.underlying 64 = some (.struct (Tryz.prog.fieldsOf 64)) := by kernel_rfl
theorem und109 : Tryz.prog.underlying 109 = some (.struct (Tryz.prog.fieldsOf 109)) := by kernel_rfl
end Go.Proofs.YtnjbdcdjcfhooaaGreatDoor
namespace Go.Proofs.YtnjbdcdjcfhooaaGreatDoor
open Go.E Go.ChangeShapes Go.WideShapes Go.ChangeAt Go.RowKit
set_option linter.all false
set_option maxRecDepth 20000
set_option maxHeartbeats 8000000
def ArgSl (sv : EV) (b n : Nat) (c : List EV) (B : List (Nat × EO)) : Prop := (sv = .slice none 0 0 ∧ n = 0 ∧ B = []) ∨ (sv = .slice (some ⟨b, 0⟩) n n ∧ ∃ ty z wr, B = [(b, .cells c ty z wr 0)])
theorem ArgSl.one {sv : EV} {b n : Nat} {c : List EV} {B : List (Nat × EO)} (h : ArgSl sv b n c B) : sv.one = true := by
  rcases h with ⟨rfl, -, -⟩ | ⟨rfl, -⟩ <;> rfl
theorem ArgSl.bel {sv : EV} {b n : Nat} {c : List EV} {B : List (Nat × EO)} (h : ArgSl sv b n c B) {k : Nat} (hk : b < k) : sv.bel k := by
  rcases h with ⟨rfl, -, -⟩ | ⟨rfl, -⟩
  · simp [EV.bel]
  · simp [EV.bel, hk]
theorem ArgSl.bl {sv : EV} {b n : Nat} {c : List EV} {B : List (Nat × EO)} (h : ArgSl sv b n c B) {k : Nat} (hk : b < k) (hc : allBelow k c) : blBelow k B := by
  rcases h with ⟨-, -, rfl⟩ | ⟨-, ty, z, wr, rfl⟩
  · trivial
  · exact ⟨hk, hc, trivial⟩
theorem ArgSl.key {sv : EV} {b n : Nat} {c : List EV} {B : List (Nat × EO)} (h : ArgSl sv b n c B) {i : Nat} (hi : i ≠ b) : lkp B i = none := by
  rcases h with ⟨-, -, rfl⟩ | ⟨-, ty, z, wr, rfl⟩
  · rfl
  · simp [lkp, show ¬ b = i from fun e => hi e.symm]
theorem blBelow_app {k : Nat} : ∀ {a b : List (Nat × EO)}, blBelow k a → blBelow k b → blBelow k (a ++ b)
  | [], b, _, h => h
  | (i, o) :: r, b, h1, h2 => ⟨h1.1, h1.2.1, blBelow_app h1.2.2 h2⟩
theorem show_nil (G : List Gl) (c : Cmd) (r : Rp) (he : r.err = 0) (mk cu na : EV) (m1 : mk.one = true) (c1 : cu.one = true) (n1 : na.one = true) (hk : (c.kind = 18 ∧ mk = .slice none 0 0) ∨ (c.kind = 19 ∧ cu = .slice none 0 0) ∨ (c.kind = 20 ∧ na = .slice none 0 0)) :
    Eff G Tryz.prog 17 [.agg (cmdE c), .agg (rpE r mk cu na)] [] 3 (.str noneL) [] 3 := by
  unfold Eff noneL
  have jc := joined_0 G
  obtain ⟨k, d, id, fr, to, tx, g⟩ := c
  obtain ⟨err, num, line, col, text, found, frm, rto, st⟩ := r
  simp only at he hk
  subst he
  rcases hk with ⟨rfl, rfl⟩ | ⟨rfl, rfl⟩ | ⟨rfl, rfl⟩
  all_goals
    refine ecalls_in 132 [.tmp 4] Tryz.func17 rfl rfl rfl (by kernel_rfl) (le_ble rfl) ?_
    repeat' (first | refine esem_seqK 373922066680392647905437741317376703 ?_ | refine esem_block ?_ | (refine stp ?_; simp only [go_sem]) | (refine drawQ (id := 19) mixed [(0, []), (1, []), (4, []), (10, []), (2, []), (3, []), (5, []), (11, []), (12, []), (6, []), (7, [11]), (8, []), (9, [11]), (13, []), (14, []), (15, []), (16, []), (17, []), (18, [])] (by kernel_rfl) ?_; simp only [go_sem]) | (refine and_om ?_ ?_; focus (simp only [EV.one] at m1 c1 n1; simp [m1, c1, n1]; done)) | (refine Pure.at (jc) (by simp) (by simp) rfl ?_; (try simp only [go_sem])) | (refine esem_loopN 373922066680392647905437741317376703 1 ?_; simp only [go_sem]) | (simp (disch := omega) only [wE]) | (refine spl (fun h => ?_) (fun h => ?_) <;> first | (exfalso; omega) | ((try simp only [opRun, opSkip, stepRun, pickZ]); (try simp only [go_sem, h]))) | (refine and_om ?_ ?_; focus omega))
    all_goals exact done_ef2 [] (by simp) rfl (by simp [mA]) (by simp [bC])
theorem show_all (G : List Gl) (t u tz tp : TypeId) (v : List Value) (h3 : gFirst t ∈ G) (h4 : gAcc u ∈ G) (hv : v[15]? = some (.int .u8 4)) (hG : gTz v tz ∈ G) (hp : gPow tp ∈ G) (c : Cmd) (r : Rp) (hr : rpOK r) (mk cu na : EV) (ms : List Mk) (cs : List Cu) (ns : List (List UInt8)) (A B C : List (Nat × EO)) (hA : ArgSl mk 0 ms.length (mksE ms) A) (hB : ArgSl cu 1 cs.length (cusE cs) B) (hC : ArgSl na 2 ns.length (strsE ns) C)
    (hm : ∀ m ∈ ms, mkOK m) (hc : ∀ m ∈ cs, cuOK m) (hn : ∀ m ∈ ns, m.length ≤ 1048577) (hMn : ms.length ≤ 1048577) (hCn : cs.length ≤ 1048577) (hNn : ns.length ≤ 1048577) :
    Eff G Tryz.prog 17 [.agg (cmdE c), .agg (rpE r mk cu na)] (A ++ (B ++ C)) 3 (.str (showL c.kind r ms cs ns)) (A ++ (B ++ C)) 3 := by
  have m1 := hA.one
  have c1 := hB.one
  have n1 := hC.one
  have b1 := hA.bel (k := 3) (by omega)
  have b2 := hB.bel (k := 3) (by omega)
  have b3 := hC.bel (k := 3) (by omega)
  have hargs : allBelow 3 [EV.agg (cmdE c), EV.agg (rpE r mk cu na)] := by
    simp only [allBelow, EV.bel, cmdE, rpE, and_true, true_and]; exact ⟨b1, b2, b3⟩
  have lA := hA.bl (k := 3) (by omega) (allBelow_mksE ms)
  have lB := hB.bl (k := 3) (by omega) (allBelow_cusE cs)
  have lC := hC.bl (k := 3) (by omega) (allBelow_strsE 3 ns)
  have hL := blBelow_app lA (blBelow_app lB lC)
  by_cases hk : r.err ≠ 0 ∨ ¬ (c.kind = 18 ∨ c.kind = 19 ∨ c.kind = 20)
  · exact Eff.more (show_0 G t u tz tp v h3 h4 hv hG hp c r hr mk cu na m1 c1 n1 hk ms cs ns) (fun i o h => by simp [lkp] at h) hargs trivial hL trivial
  · have he : r.err = 0 := Classical.not_not.1 fun h => hk (.inl h)
    have hkk : c.kind = 18 ∨ c.kind = 19 ∨ c.kind = 20 := Classical.not_not.1 fun h => hk (.inr h)
    have hsA : ∀ i o, lkp A i = some o → lkp (A ++ (B ++ C)) i = some o := fun i o h => by rw [lkp_append, h]; rfl
    have hsB : ∀ i o, lkp B i = some o → lkp (A ++ (B ++ C)) i = some o := fun i o h => by
      have hi : i = 1 := Classical.not_not.1 fun hne => by rw [hB.key hne] at h; cases h
      rw [lkp_append, lkp_append, hA.key (by omega), h]; rfl
    have hsC : ∀ i o, lkp C i = some o → lkp (A ++ (B ++ C)) i = some o := fun i o h => by
      have hi : i = 2 := Classical.not_not.1 fun hne => by rw [hC.key hne] at h; cases h
      rw [lkp_append, lkp_append, hA.key (by omega), hB.key (by omega), h]; rfl
    clear hk
    rcases hkk with h18 | h19 | h20
    · rcases id hA with ⟨e1, e2, e3⟩ | ⟨e1, ty, z, wr, e3⟩
      · have := show_nil G c r he mk cu na m1 c1 n1 (.inl ⟨h18, e1⟩)
        have e : showL c.kind r ms cs ns = noneL := by unfold showL; rw [h18, List.length_eq_zero_iff.1 e2]; simp [he, joinS]
        rw [e]
        exact Eff.more this (fun i o h => by simp [lkp] at h) hargs trivial hL trivial
      · subst e1
        have := show_m G tp hp c h18 r he cu na c1 n1 ms hm _ ty z wr rfl (by omega) cs ns
        rw [← e3] at this
        exact Eff.more this hsA hargs lA hL trivial
    · rcases id hB with ⟨e1, e2, e3⟩ | ⟨e1, ty, z, wr, e3⟩
      · have := show_nil G c r he mk cu na m1 c1 n1 (.inr (.inl ⟨h19, e1⟩))
        have e : showL c.kind r ms cs ns = noneL := by unfold showL; rw [h19, List.length_eq_zero_iff.1 e2]; simp [he, joinS]
        rw [e]
        exact Eff.more this (fun i o h => by simp [lkp] at h) hargs trivial hL trivial
      · subst e1
        have := show_cu G t u tz tp v h3 h4 hv hG hp c h19 r he mk na m1 n1  ms cs ns hc _ ty z wr rfl hCn
        rw [← e3] at this
        exact Eff.more this hsB hargs lB hL trivial
    · rcases id hC with ⟨e1, e2, e3⟩ | ⟨e1, ty, z, wr, e3⟩
      · have := show_nil G c r he mk cu na m1 c1 n1 (.inr (.inr ⟨h20, e1⟩))
        have e : showL c.kind r ms cs ns = noneL := by unfold showL; rw [h20, List.length_eq_zero_iff.1 e2]; simp [he, joinS]
        rw [e]
        exact Eff.more this (fun i o h => by simp [lkp] at h) hargs trivial hL trivial
      · subst e1
        have := show_na G t u tz tp v h3 h4 hv hG hp c h20 r he mk cu m1 c1  ms cs ns hn _ ty z wr rfl hNn
        rw [← e3] at this
        exact Eff.more this hsC hargs lC hL trivial
end Go.Proofs.YtnjbdcdjcfhooaaGreatDoor
