/-
  Own work: walks and laws of the functions that the statement reaches; the statement itself stands in the last text.
-/
import Derived.Test.YtnjbdcdjcfhooaaGreatDoorHx
namespace Go.Proofs.YtnjbdcdjcfhooaaGreatDoor
open Go.E Go.ChangeShapes Go.WideShapes Go.ChangeAt Go.RowKit
set_option linter.all false
set_option maxRecDepth 20000
set_option maxHeartbeats 16000000
theorem flat40 : flatT Tryz.prog 40 = some [0, 0] := by kernel_rfl
theorem und40 : Tryz.prog.underlying 40 = some (.struct (Tryz.prog.fieldsOf 40)) := by kernel_rfl
theorem flat42 : flatT Tryz.prog 42 = some [0, 0] := by kernel_rfl
theorem und42 : Tryz.prog.underlying 42 = some (.struct (Tryz.prog.fieldsOf 42)) := by kernel_rfl
theorem flat47 : flatT Tryz.prog 47 = some [0, 0, 0, 0, 0, 0, 0, 0, 0] := by kernel_rfl
theorem und47 : Tryz.prog.underlying 47 = some (.struct (Tryz.prog.fieldsOf 47)) := by kernel_rfl
theorem eq40 (a b : Int) : EqS Tryz.prog .eql 40 (.agg [.int .i64 a, .int .i64 b]) (.agg [.int .i64 a, .int .i64 b]) true := by
  have := (eqS_struct (xs := [.int .i64 a, .int .i64 b]) (ys := [.int .i64 a, .int .i64 b]) flat40 und40 ⟨rfl, rfl, trivial⟩).1
  simpa only [eqE, eqE.eqL, decide_true, Bool.and_true, Bool.true_and, and_self] using this
theorem eq42 (a b : Int) : EqS Tryz.prog .eql 42 (.agg [.int .i64 a, .int .i64 b]) (.agg [.int .i64 a, .int .i64 b]) true := by
  have := (eqS_struct (xs := [.int .i64 a, .int .i64 b]) (ys := [.int .i64 a, .int .i64 b]) flat42 und42 ⟨rfl, rfl, trivial⟩).1
  simpa only [eqE, eqE.eqL, decide_true, Bool.and_true, Bool.true_and, and_self] using this
theorem eq47 (s : Sts) : EqS Tryz.prog .eql 47 (.agg (stsE s)) (.agg (stsE s)) true := by
  have := (eqS_struct (xs := stsE s) (ys := stsE s) flat47 und47 ⟨rfl, rfl, rfl, rfl, rfl, rfl, rfl, rfl, rfl, trivial⟩).1
  simpa only [eqE, eqE.eqL, decide_true, Bool.and_true, Bool.true_and, and_self] using this
def Arg3 {α : Type} (sv : EV) (b : Nat) (l : List α) (c : List EV) (B : List (Nat × EO)) : Prop :=
  (sv = .slice none 0 0 ∧ l = [] ∧ B = []) ∨ (sv = .slice (some ⟨b, 0⟩) 0 0 ∧ l = [] ∧ ∃ ty z wr, B = [(b, .cells [] ty z wr 0)]) ∨
  (∃ n ty z wr, sv = .slice (some ⟨b, 0⟩) n n ∧ l.length = n ∧ 0 < n ∧ B = [(b, .cells c ty z wr 0)])
theorem argM (G : List Gl) {ms : List (Mk)} {mk mk' : EV} {A A' : List (Nat × EO)} {t1 z1 : Nat} (h1 : mk' = accE 0 ms.length) (h2 : A' = accB 0 (mksE ms) t1 z1) (h : Arg3 mk 3 ms (mksE ms) A) (hN : ms.length ≤ 1048577) :
    (mk' = .slice none 0 0 ∧ A' = [] ∧ mk = .slice none 0 0 ∧ A = [] ∧ Eff G Tryz.prog 51 [.slice none 0 0, .slice none 0 0] [] 2 (.bool true) [] 2) ∨
    (∃ y z w, mk' = .slice none 0 0 ∧ A' = [] ∧ mk = .slice (some ⟨3, 0⟩) 0 0 ∧ A = [(3, .cells [] y z w 0)] ∧ Eff G Tryz.prog 51 [.slice none 0 0, .slice (some ⟨1, 0⟩) 0 0] [] 2 (.bool true) [] 2) ∨
    (∃ n y z w, mk' = .slice (some ⟨0, 0⟩) n n ∧ A' = [(0, .cells (mksE ms) t1 z1 true 0)] ∧ mk = .slice (some ⟨3, 0⟩) n n ∧ A = [(3, .cells (mksE ms) y z w 0)] ∧
      Eff G Tryz.prog 51 [.slice (some ⟨0, 0⟩) n n, .slice (some ⟨1, 0⟩) n n] [(0, .cells (mksE ms) t1 z1 true 0), (1, .cells (mksE ms) y z w 0)] 2 (.bool true) [(0, .cells (mksE ms) t1 z1 true 0), (1, .cells (mksE ms) y z w 0)] 2) := by
  rcases h with ⟨rfl, rfl, rfl⟩ | ⟨rfl, rfl, y, z, w, rfl⟩ | ⟨n, y, z, w, rfl, hn, h0, rfl⟩
  · exact .inl ⟨h1, h2, rfl, rfl, same0_ma G _ _ (.inl rfl) (.inl rfl)⟩
  · exact .inr (.inl ⟨y, z, w, h1, h2, rfl, rfl, same0_ma G _ _ (.inl rfl) (.inr rfl)⟩)
  · have hl : 0 < (mksE ms).length := by rw [mksE_length]; omega
    exact .inr (.inr ⟨n, y, z, w, by rw [h1, hn]; exact accE_pos h0, by rw [h2]; exact accB_pos hl, rfl, rfl, same_ma G ms n t1 z1 y z true w hn (by omega)⟩)
theorem argC (G : List Gl) {cs : List (Cu)} {mk mk' : EV} {A A' : List (Nat × EO)} {t1 z1 : Nat} (h1 : mk' = accE 1 cs.length) (h2 : A' = accB 1 (cusE cs) t1 z1) (h : Arg3 mk 4 cs (cusE cs) A) (hN : cs.length ≤ 1048577) :
    (mk' = .slice none 0 0 ∧ A' = [] ∧ mk = .slice none 0 0 ∧ A = [] ∧ Eff G Tryz.prog 52 [.slice none 0 0, .slice none 0 0] [] 2 (.bool true) [] 2) ∨
    (∃ y z w, mk' = .slice none 0 0 ∧ A' = [] ∧ mk = .slice (some ⟨4, 0⟩) 0 0 ∧ A = [(4, .cells [] y z w 0)] ∧ Eff G Tryz.prog 52 [.slice none 0 0, .slice (some ⟨1, 0⟩) 0 0] [] 2 (.bool true) [] 2) ∨
    (∃ n y z w, mk' = .slice (some ⟨1, 0⟩) n n ∧ A' = [(1, .cells (cusE cs) t1 z1 true 0)] ∧ mk = .slice (some ⟨4, 0⟩) n n ∧ A = [(4, .cells (cusE cs) y z w 0)] ∧
      Eff G Tryz.prog 52 [.slice (some ⟨0, 0⟩) n n, .slice (some ⟨1, 0⟩) n n] [(0, .cells (cusE cs) t1 z1 true 0), (1, .cells (cusE cs) y z w 0)] 2 (.bool true) [(0, .cells (cusE cs) t1 z1 true 0), (1, .cells (cusE cs) y z w 0)] 2) := by
  rcases h with ⟨rfl, rfl, rfl⟩ | ⟨rfl, rfl, y, z, w, rfl⟩ | ⟨n, y, z, w, rfl, hn, h0, rfl⟩
  · exact .inl ⟨h1, h2, rfl, rfl, same0_cu G _ _ (.inl rfl) (.inl rfl)⟩
  · exact .inr (.inl ⟨y, z, w, h1, h2, rfl, rfl, same0_cu G _ _ (.inl rfl) (.inr rfl)⟩)
  · have hl : 0 < (cusE cs).length := by rw [cusE_length]; omega
    exact .inr (.inr ⟨n, y, z, w, by rw [h1, hn]; exact accE_pos h0, by rw [h2]; exact accB_pos hl, rfl, rfl, same_cu G cs n t1 z1 y z true w hn (by omega)⟩)
theorem argN (G : List Gl) {ns : List (List UInt8)} {mk mk' : EV} {A A' : List (Nat × EO)} {t1 z1 : Nat} (h1 : mk' = accE 2 ns.length) (h2 : A' = accB 2 (strsE ns) t1 z1) (h : Arg3 mk 5 ns (strsE ns) A) (hN : ns.length ≤ 1048577) :
    (mk' = .slice none 0 0 ∧ A' = [] ∧ mk = .slice none 0 0 ∧ A = [] ∧ Eff G Tryz.prog 53 [.slice none 0 0, .slice none 0 0] [] 2 (.bool true) [] 2) ∨
    (∃ y z w, mk' = .slice none 0 0 ∧ A' = [] ∧ mk = .slice (some ⟨5, 0⟩) 0 0 ∧ A = [(5, .cells [] y z w 0)] ∧ Eff G Tryz.prog 53 [.slice none 0 0, .slice (some ⟨1, 0⟩) 0 0] [] 2 (.bool true) [] 2) ∨
    (∃ n y z w, mk' = .slice (some ⟨2, 0⟩) n n ∧ A' = [(2, .cells (strsE ns) t1 z1 true 0)] ∧ mk = .slice (some ⟨5, 0⟩) n n ∧ A = [(5, .cells (strsE ns) y z w 0)] ∧
      Eff G Tryz.prog 53 [.slice (some ⟨0, 0⟩) n n, .slice (some ⟨1, 0⟩) n n] [(0, .cells (strsE ns) t1 z1 true 0), (1, .cells (strsE ns) y z w 0)] 2 (.bool true) [(0, .cells (strsE ns) t1 z1 true 0), (1, .cells (strsE ns) y z w 0)] 2) := by
  rcases h with ⟨rfl, rfl, rfl⟩ | ⟨rfl, rfl, y, z, w, rfl⟩ | ⟨n, y, z, w, rfl, hn, h0, rfl⟩
  · exact .inl ⟨h1, h2, rfl, rfl, same0_na G _ _ (.inl rfl) (.inl rfl)⟩
  · exact .inr (.inl ⟨y, z, w, h1, h2, rfl, rfl, same0_na G _ _ (.inl rfl) (.inr rfl)⟩)
  · have hl : 0 < (strsE ns).length := by simp [strsE]; omega
    exact .inr (.inr ⟨n, y, z, w, by rw [h1, hn]; exact accE_pos h0, by rw [h2]; exact accB_pos hl, rfl, rfl, same_na G ns n t1 z1 y z true w hn (by omega)⟩)
theorem sameR (G : List Gl) (r : Rp) (mk cu na : EV) (ms : List Mk) (cs : List Cu) (ns : List (List UInt8)) (A B C : List (Nat × EO)) (t1 z1 t2 z2 t3 z3 : Nat) (hA : Arg3 mk 3 ms (mksE ms) A) (hB : Arg3 cu 4 cs (cusE cs) B) (hC : Arg3 na 5 ns (strsE ns) C) (hMn : ms.length ≤ 1048577) (hCn : cs.length ≤ 1048577) (hNn : ns.length ≤ 1048577) :
    Eff G Tryz.prog 19 [.agg (rpE r (accE 0 ms.length) (accE 1 cs.length) (accE 2 ns.length)), .agg (rpE r mk cu na)] (accB 0 (mksE ms) t1 z1 ++ (accB 1 (cusE cs) t2 z2 ++ (accB 2 (strsE ns) t3 z3 ++ (A ++ (B ++ C))))) 6 (.bool true) [] 6 := by
  unfold Eff
  obtain ⟨err, num, line, col, text, found, frm, rto, st⟩ := r
  have q40 := eq40 line col
  have q42 := eq42 frm rto
  have q47 := eq47 st
  have dM := argM (t1 := t1) (z1 := z1) G rfl rfl hA hMn
  have dC := argC (t1 := t2) (z1 := z2) G rfl rfl hB hCn
  have dN := argN (t1 := t3) (z1 := z3) G rfl rfl hC hNn
  clear hA hB hC
  generalize accE 0 ms.length = mk' at dM
  generalize accE 1 cs.length = cu' at dC
  generalize accE 2 ns.length = na' at dN
  generalize accB 0 (mksE ms) t1 z1 = A' at dM
  generalize accB 1 (cusE cs) t2 z2 = B' at dC
  generalize accB 2 (strsE ns) t3 z3 = C' at dN
  rcases dM with ⟨rfl, rfl, rfl, rfl, oM⟩ | ⟨y, z, w, rfl, rfl, rfl, rfl, oM⟩ | ⟨n, y, z, w, rfl, rfl, rfl, rfl, oM⟩ <;>
  rcases dC with ⟨rfl, rfl, rfl, rfl, oC⟩ | ⟨y2, z2, w2, rfl, rfl, rfl, rfl, oC⟩ | ⟨n2, y2, z2, w2, rfl, rfl, rfl, rfl, oC⟩ <;>
  rcases dN with ⟨rfl, rfl, rfl, rfl, oN⟩ | ⟨y3, z3, w3, rfl, rfl, rfl, rfl, oN⟩ | ⟨n3, y3, z3, w3, rfl, rfl, rfl, rfl, oN⟩ <;>
  simp only [List.nil_append, List.cons_append]
  all_goals
    refine ecalls_in 73 [.tmp 4] Tryz.func19 rfl rfl rfl (by kernel_rfl) (le_ble rfl) ?_
    repeat' (first | refine esem_seqK 31 ?_ | refine esem_block ?_ | (refine stp ?_; simp only [go_sem, List.append_eq, List.cons_append, List.nil_append]) | (refine ⟨q40, ?_⟩; try simp only [go_sem, List.append_eq, List.cons_append, List.nil_append]) | (refine ⟨q42, ?_⟩; try simp only [go_sem, List.append_eq, List.cons_append, List.nil_append]) | (refine ⟨q47, ?_⟩; try simp only [go_sem, List.append_eq, List.cons_append, List.nil_append]) | (refine Eff.at2 (oM ) [0, 3] rfl (by first | (simp; done) | (simp; omega) | (simp [bC]; done) | omega) rfl ?_; (try simp only [go_sem, List.append_eq, List.cons_append, List.nil_append])) | (refine Eff.at2 (oC ) [1, 4] rfl (by first | (simp; done) | (simp; omega) | (simp [bC]; done) | omega) rfl ?_; (try simp only [go_sem, List.append_eq, List.cons_append, List.nil_append])) | (refine Eff.at2 (oN ) [2, 5] rfl (by first | (simp; done) | (simp; omega) | (simp [bC]; done) | omega) rfl ?_; (try simp only [go_sem, List.append_eq, List.cons_append, List.nil_append])) | (simp (disch := omega) only [wE]) | (refine spl (fun h => ?_) (fun h => ?_) <;> first | (exfalso; omega) | ((try simp only [opRun, opSkip, stepRun, pickZ]); (try simp only [go_sem, List.append_eq, List.cons_append, List.nil_append, h]))) | (refine and_om ?_ ?_; focus omega))
    all_goals exact done_ef2 [] (by simp) rfl (by simp [mA]) (by simp [bC])
end Go.Proofs.YtnjbdcdjcfhooaaGreatDoor
namespace Go.Proofs.YtnjbdcdjcfhooaaGreatDoor
open Go.E Go.ChangeShapes Go.WideShapes Go.ChangeAt Go.RowKit
set_option linter.all false
set_option maxRecDepth 20000
set_option maxHeartbeats 16000000
theorem Arg3.sl {α : Type} {sv : EV} {b : Nat} {l : List α} {c : List EV} {A : List (Nat × EO)} (hc : l.length = 0 → c = []) (h : Arg3 sv b l c A) : ArgSl sv b l.length c A := by
  rcases h with ⟨rfl, rfl, rfl⟩ | ⟨rfl, rfl, y, z3, w, rfl⟩ | ⟨n, y, z2, w, rfl, hn, h0, rfl⟩
  · exact .inl ⟨rfl, rfl, rfl⟩
  · exact .inr ⟨rfl, y, z3, w, by rw [hc rfl]⟩
  · exact .inr ⟨by rw [hn], y, z2, w, rfl⟩
theorem acc_sl (b n t z : Nat) (c : List EV) (h1 : n = 0 → c = []) (h2 : 0 < n → 0 < c.length) : ArgSl (accE b n) b n c (accB b c t z) := by
  by_cases h : n = 0
  · subst h; rw [h1 rfl]; exact .inl ⟨rfl, rfl, rfl⟩
  · exact .inr ⟨accE_pos (by omega), t, z, true, accB_pos (h2 (by omega))⟩
theorem trip {α : Type} (b3 bi t z : Nat) {b : Nat} {l : List α} {c : List EV} {sv : EV} {A : List (Nat × EO)} (hc1 : l.length = 0 → c = []) (hc : 0 < l.length → 0 < c.length) (h : Arg3 sv b l c A) : ∃ s3 A3 si AI, si = accE bi l.length ∧ AI = accB bi c t z ∧ Arg3 s3 b3 l c A3 ∧
    ((l.length = 0 ∧ sv = .slice none 0 0 ∧ A = [] ∧ si = .slice none 0 0 ∧ AI = [] ∧ s3 = .slice none 0 0 ∧ A3 = []) ∨
     (∃ y z w, l.length = 0 ∧ sv = .slice (some ⟨b, 0⟩) 0 0 ∧ A = [(b, .cells [] y z w 0)] ∧ si = .slice none 0 0 ∧ AI = [] ∧ s3 = .slice (some ⟨b3, 0⟩) 0 0 ∧ A3 = [(b3, .cells [] y z w 0)]) ∨
     (∃ n y z2 w, l.length = n ∧ 0 < n ∧ sv = .slice (some ⟨b, 0⟩) n n ∧ A = [(b, .cells c y z2 w 0)] ∧ si = .slice (some ⟨bi, 0⟩) n n ∧ AI = [(bi, .cells c t z true 0)] ∧ s3 = .slice (some ⟨b3, 0⟩) n n ∧ A3 = [(b3, .cells c y z2 w 0)])) := by
  rcases h with ⟨rfl, rfl, rfl⟩ | ⟨rfl, rfl, y, z3, w, rfl⟩ | ⟨n, y, z2, w, rfl, hn, h0, rfl⟩
  · have e := hc1 rfl
    subst e
    exact ⟨_, _, _, _, rfl, rfl, .inl ⟨rfl, rfl, rfl⟩, .inl ⟨rfl, rfl, rfl, rfl, rfl, rfl, rfl⟩⟩
  · have e := hc1 rfl
    subst e
    exact ⟨_, _, _, _, rfl, rfl, .inr (.inl ⟨rfl, rfl, y, z3, w, rfl⟩), .inr (.inl ⟨y, z3, w, rfl, rfl, rfl, rfl, rfl, rfl, rfl⟩)⟩
  · subst hn
    exact ⟨_, _, _, _, rfl, rfl, .inr (.inr ⟨_, y, z2, w, rfl, rfl, h0, rfl⟩), .inr (.inr ⟨_, y, z2, w, rfl, h0, rfl, rfl, accE_pos h0, accB_pos (hc h0), rfl, rfl⟩)⟩
theorem tripN (G : List Gl) {ns : List (List UInt8)} {sv : EV} {A : List (Nat × EO)} (h : Arg3 sv 2 ns (strsE ns) A) (hN : ns.length ≤ 1048577) : ∃ s3 A3 si AI, si = accE 2 ns.length ∧ AI = accB 2 (strsE ns) 9 1 ∧ Arg3 s3 5 ns (strsE ns) A3 ∧
    ((ns.length = 0 ∧ sv = .slice none 0 0 ∧ A = [] ∧ si = .slice none 0 0 ∧ AI = [] ∧ s3 = .slice none 0 0 ∧ A3 = [] ∧ Eff G Tryz.prog 16 [.slice none 0 0] [] 1 (.slice none 0 0) [] 1) ∨
     (∃ y z w, ns.length = 0 ∧ sv = .slice (some ⟨2, 0⟩) 0 0 ∧ A = [(2, .cells [] y z w 0)] ∧ si = .slice none 0 0 ∧ AI = [] ∧ s3 = .slice (some ⟨5, 0⟩) 0 0 ∧ A3 = [(5, .cells [] y z w 0)] ∧ Eff G Tryz.prog 16 [.slice (some ⟨0, 0⟩) 0 0] [] 1 (.slice none 0 0) [] 1) ∨
     (∃ n y z2 w, ns.length = n ∧ 0 < n ∧ sv = .slice (some ⟨2, 0⟩) n n ∧ A = [(2, .cells (strsE ns) y z2 w 0)] ∧ si = .slice (some ⟨2, 0⟩) n n ∧ AI = [(2, .cells (strsE ns) 9 1 true 0)] ∧ s3 = .slice (some ⟨5, 0⟩) n n ∧ A3 = [(5, .cells (strsE ns) y z2 w 0)] ∧
       Eff G Tryz.prog 16 [.slice (some ⟨0, 0⟩) n n] [(0, .cells (strsE ns) y z2 w 0)] 1 (.slice (some ⟨1, 0⟩) n n) [(0, .cells (strsE ns) y z2 w 0), (1, .cells (strsE ns) 9 1 true 0)] 2)) := by
  obtain ⟨s3, A3, si, AI, e1, e2, a3, d⟩ := trip 5 2 9 1 (fun h => by rw [List.length_eq_zero_iff.1 h]; rfl) (fun h => by simp [strsE]; omega) h
  refine ⟨s3, A3, si, AI, e1, e2, a3, ?_⟩
  rcases d with ⟨h1, h2, h3, h4, h5, h6, h7⟩ | ⟨y, z, w, h1, h2, h3, h4, h5, h6, h7⟩ | ⟨n, y, z2, w, h1, h0, h2, h3, h4, h5, h6, h7⟩
  · exact .inl ⟨h1, h2, h3, h4, h5, h6, h7, copy_0 G _ (.inl rfl)⟩
  · exact .inr (.inl ⟨y, z, w, h1, h2, h3, h4, h5, h6, h7, copy_0 G _ (.inr rfl)⟩)
  · exact .inr (.inr ⟨n, y, z2, w, h1, h0, h2, h3, h4, h5, h6, h7, copy_c G ns n y z2 w h1 h0 (by omega)⟩)
theorem shows_law (G : List Gl) (te t u tz tp : TypeId) (v : List Value) (hGe : gErr te ∈ G) (h3 : gFirst t ∈ G) (h4 : gAcc u ∈ G) (hv : v[15]? = some (.int .u8 4)) (hG : gTz v tz ∈ G) (hp : gPow tp ∈ G) (c : Cmd) (r : Rp) (hr : rpOK r) (mk cu na : EV) (ms : List Mk) (cs : List Cu) (ns : List (List UInt8)) (A B C : List (Nat × EO)) (hA : Arg3 mk 0 ms (mksE ms) A) (hB : Arg3 cu 1 cs (cusE cs) B) (hC : Arg3 na 2 ns (strsE ns) C)
    (hm : ∀ m ∈ ms, mkOK m) (hc : ∀ m ∈ cs, cuOK m) (hn : ∀ m ∈ ns, m.length ≤ 1048577) (hMn : ms.length ≤ 1048577) (hCn : cs.length ≤ 1048577) (hNn : ns.length ≤ 1048577) :
    Eff G Tryz.prog 5 [.agg (cmdE c), .agg (rpE r mk cu na)] (A ++ (B ++ C)) 3 (.bool true) [] 3 := by
  have aw := awake_c G te t u tz tp v hGe h3 h4 hv hG hp
  have rsh := rshow_all G tz tp v hv hG hp c r hr mk cu na ms cs ns A B C (hA.sl (fun h => by rw [List.length_eq_zero_iff.1 h]; rfl)) (hB.sl (fun h => by rw [List.length_eq_zero_iff.1 h]; rfl)) (hC.sl (fun h => by rw [List.length_eq_zero_iff.1 h]; rfl)) hm hc hn hMn hCn hNn
  have shI := show_all G t u tz tp v h3 h4 hv hG hp c r hr (accE 0 ms.length) (accE 1 cs.length) (accE 2 ns.length) ms cs ns _ _ _ (acc_sl 0 ms.length 64 3 (mksE ms) (fun h => by rw [List.length_eq_zero_iff.1 h]; rfl) (fun h => by rw [mksE_length]; omega)) (acc_sl 1 cs.length 109 4 (cusE cs) (fun h => by rw [List.length_eq_zero_iff.1 h]; rfl) (fun h => by rw [cusE_length]; omega)) (acc_sl 2 ns.length 9 1 (strsE ns) (fun h => by rw [List.length_eq_zero_iff.1 h]; rfl) (fun h => by simp [strsE]; omega)) hm hc hn hMn hCn hNn
  generalize showL c.kind r ms cs ns = out at rsh shI
  obtain ⟨mk3, A3, mi, AI, eM1, eM2, a3, dM⟩ := trip 3 0 64 3 (fun h => by rw [List.length_eq_zero_iff.1 h]; rfl) (fun h => by rw [mksE_length]; omega) hA
  obtain ⟨cu3, B3, ci, BI, eC1, eC2, b3, dC⟩ := trip 4 1 109 4 (fun h => by rw [List.length_eq_zero_iff.1 h]; rfl) (fun h => by rw [cusE_length]; omega) hB
  obtain ⟨na3, C3, ni, CI, eN1, eN2, c3, dN⟩ := tripN G hC hNn
  have sR := sameR G r mk3 cu3 na3 ms cs ns A3 B3 C3 64 3 109 4 9 1 a3 b3 c3 hMn hCn hNn
  rw [← eM1, ← eC1, ← eN1, ← eM2, ← eC2, ← eN2] at sR shI
  clear hA hB hC eM1 eM2 eC1 eC2 eN1 eN2 a3 b3 c3 hm hc hn
  have hml := mksE_length ms
  have hcl := cusE_length cs
  have hnl : (strsE ns).length = ns.length := by simp [strsE]
  obtain ⟨err, num, line, col, text, found, frm, rto, st⟩ := r
  have f1 : List.take (ms.length * 3) (mksE ms) = mksE ms := List.take_of_length_le (by omega)
  have f2 : List.take (cs.length * 4) (cusE cs) = cusE cs := List.take_of_length_le (by omega)
  unfold Eff
  rw [← or_assoc] at dM dC dN
  rcases dM with dM | ⟨_, y, z, w, rfl, pM, rfl, rfl, rfl, rfl, rfl, rfl⟩
  · rcases dC with dC | ⟨_, y2, z2, w2, rfl, pC, rfl, rfl, rfl, rfl, rfl, rfl⟩
    · rcases dN with dN | ⟨_, y3, z3, w3, rfl, pN, rfl, rfl, rfl, rfl, rfl, rfl, cp⟩
      · rcases dM with ⟨lM, rfl, rfl, rfl, rfl, rfl, rfl⟩ | ⟨y, z, w, lM, rfl, rfl, rfl, rfl, rfl, rfl⟩ <;>
        rcases dC with ⟨lC, rfl, rfl, rfl, rfl, rfl, rfl⟩ | ⟨y2, z2, w2, lC, rfl, rfl, rfl, rfl, rfl, rfl⟩ <;>
        rcases dN with ⟨lN, rfl, rfl, rfl, rfl, rfl, rfl, cp⟩ | ⟨y3, z3, w3, lN, rfl, rfl, rfl, rfl, rfl, rfl, cp⟩ <;>
        simp only [List.nil_append, List.cons_append] at rsh shI sR ⊢
        all_goals
          refine ecalls_in 42 [.tmp 4] Tryz.func5 rfl rfl rfl (by kernel_rfl) (le_ble rfl) ?_
          repeat' (first | refine esem_seqK 127 ?_ | refine esem_block ?_ | (refine stp ?_; simp only [go_sem, f1, f2, hml, hcl, hnl, Nat.le_refl]) | (refine Eff.at2 (cp ) [2] rfl (by first | (simp; done) | (simp; omega) | (simp [bC]; done) | omega) rfl ?_; (try simp only [go_sem, f1, f2, hml, hcl, hnl, Nat.le_refl])) | (refine Eff.at2 (shI ) [3, 4, 5] rfl (by first | (simp; done) | (simp; omega) | (simp [bC]; done) | omega) rfl ?_; (try simp only [go_sem, f1, f2, hml, hcl, hnl, Nat.le_refl])) | (refine Eff.at2 (rsh ) [0, 1, 2] rfl (by first | (simp; done) | (simp; omega) | (simp [bC]; done) | omega) rfl ?_; (try simp only [go_sem, f1, f2, hml, hcl, hnl, Nat.le_refl])) | (refine Eff.at2 (sR ) [3, 4, 5, 0, 1, 2] rfl (by first | (simp; done) | (simp; omega) | (simp [bC]; done) | omega) rfl ?_; (try simp only [go_sem, f1, f2, hml, hcl, hnl, Nat.le_refl])) | (refine Pure.at (aw) (by simp) (by simp) rfl ?_; (try simp only [go_sem, f1, f2, hml, hcl, hnl, Nat.le_refl])) | (simp (disch := omega) only [wE]) | (refine spl (fun h => ?_) (fun h => ?_) <;> first | (exfalso; omega) | ((try simp only [opRun, opSkip, stepRun, pickZ]); (try simp only [go_sem, f1, f2, hml, hcl, hnl, Nat.le_refl, h]))) | (refine and_om ?_ ?_; focus omega))
          all_goals exact done_ef2 [] (by simp) rfl (by simp [mA]) (by simp [bC])
      · rcases dM with ⟨lM, rfl, rfl, rfl, rfl, rfl, rfl⟩ | ⟨y, z, w, lM, rfl, rfl, rfl, rfl, rfl, rfl⟩ <;>
        rcases dC with ⟨lC, rfl, rfl, rfl, rfl, rfl, rfl⟩ | ⟨y2, z2, w2, lC, rfl, rfl, rfl, rfl, rfl, rfl⟩ <;>
        simp only [List.nil_append, List.cons_append] at rsh shI sR ⊢
        all_goals
          refine ecalls_in 42 [.tmp 4] Tryz.func5 rfl rfl rfl (by kernel_rfl) (le_ble rfl) ?_
          repeat' (first | refine esem_seqK 127 ?_ | refine esem_block ?_ | (refine stp ?_; simp only [go_sem, f1, f2, hml, hcl, hnl, Nat.le_refl]) | (refine Eff.at2 (cp ) [2] rfl (by first | (simp; done) | (simp; omega) | (simp [bC]; done) | omega) rfl ?_; (try simp only [go_sem, f1, f2, hml, hcl, hnl, Nat.le_refl])) | (refine Eff.at2 (shI ) [3, 4, 6] rfl (by first | (simp; done) | (simp; omega) | (simp [bC]; done) | omega) rfl ?_; (try simp only [go_sem, f1, f2, hml, hcl, hnl, Nat.le_refl])) | (refine Eff.at2 (rsh ) [0, 1, 2] rfl (by first | (simp; done) | (simp; omega) | (simp [bC]; done) | omega) rfl ?_; (try simp only [go_sem, f1, f2, hml, hcl, hnl, Nat.le_refl])) | (refine Eff.at2 (sR ) [3, 4, 6, 0, 1, 2] rfl (by first | (simp; done) | (simp; omega) | (simp [bC]; done) | omega) rfl ?_; (try simp only [go_sem, f1, f2, hml, hcl, hnl, Nat.le_refl])) | (refine Pure.at (aw) (by simp) (by simp) rfl ?_; (try simp only [go_sem, f1, f2, hml, hcl, hnl, Nat.le_refl])) | (simp (disch := omega) only [wE]) | (refine spl (fun h => ?_) (fun h => ?_) <;> first | (exfalso; omega) | ((try simp only [opRun, opSkip, stepRun, pickZ]); (try simp only [go_sem, f1, f2, hml, hcl, hnl, Nat.le_refl, h]))) | (refine and_om ?_ ?_; focus omega))
          all_goals exact done_ef2 [] (by simp) rfl (by simp [mA]) (by simp [bC])
    · rcases dN with dN | ⟨_, y3, z3, w3, rfl, pN, rfl, rfl, rfl, rfl, rfl, rfl, cp⟩
      · rcases dM with ⟨lM, rfl, rfl, rfl, rfl, rfl, rfl⟩ | ⟨y, z, w, lM, rfl, rfl, rfl, rfl, rfl, rfl⟩ <;>
        rcases dN with ⟨lN, rfl, rfl, rfl, rfl, rfl, rfl, cp⟩ | ⟨y3, z3, w3, lN, rfl, rfl, rfl, rfl, rfl, rfl, cp⟩ <;>
        simp only [List.nil_append, List.cons_append] at rsh shI sR ⊢
        all_goals
          refine ecalls_in 42 [.tmp 4] Tryz.func5 rfl rfl rfl (by kernel_rfl) (le_ble rfl) ?_
          repeat' (first | refine esem_seqK 127 ?_ | refine esem_block ?_ | (refine stp ?_; simp only [go_sem, f1, f2, hml, hcl, hnl, Nat.le_refl]) | (refine Eff.at2 (cp ) [2] rfl (by first | (simp; done) | (simp; omega) | (simp [bC]; done) | omega) rfl ?_; (try simp only [go_sem, f1, f2, hml, hcl, hnl, Nat.le_refl])) | (refine Eff.at2 (shI ) [3, 6, 5] rfl (by first | (simp; done) | (simp; omega) | (simp [bC]; done) | omega) rfl ?_; (try simp only [go_sem, f1, f2, hml, hcl, hnl, Nat.le_refl])) | (refine Eff.at2 (rsh ) [0, 1, 2] rfl (by first | (simp; done) | (simp; omega) | (simp [bC]; done) | omega) rfl ?_; (try simp only [go_sem, f1, f2, hml, hcl, hnl, Nat.le_refl])) | (refine Eff.at2 (sR ) [3, 6, 5, 0, 1, 2] rfl (by first | (simp; done) | (simp; omega) | (simp [bC]; done) | omega) rfl ?_; (try simp only [go_sem, f1, f2, hml, hcl, hnl, Nat.le_refl])) | (refine Pure.at (aw) (by simp) (by simp) rfl ?_; (try simp only [go_sem, f1, f2, hml, hcl, hnl, Nat.le_refl])) | (simp (disch := omega) only [wE]) | (refine spl (fun h => ?_) (fun h => ?_) <;> first | (exfalso; omega) | ((try simp only [opRun, opSkip, stepRun, pickZ]); (try simp only [go_sem, f1, f2, hml, hcl, hnl, Nat.le_refl, h]))) | (refine and_om ?_ ?_; focus omega))
          all_goals exact done_ef2 [] (by simp) rfl (by simp [mA]) (by simp [bC])
      · rcases dM with ⟨lM, rfl, rfl, rfl, rfl, rfl, rfl⟩ | ⟨y, z, w, lM, rfl, rfl, rfl, rfl, rfl, rfl⟩ <;>
        simp only [List.nil_append, List.cons_append] at rsh shI sR ⊢
        all_goals
          refine ecalls_in 42 [.tmp 4] Tryz.func5 rfl rfl rfl (by kernel_rfl) (le_ble rfl) ?_
          repeat' (first | refine esem_seqK 127 ?_ | refine esem_block ?_ | (refine stp ?_; simp only [go_sem, f1, f2, hml, hcl, hnl, Nat.le_refl]) | (refine Eff.at2 (cp ) [2] rfl (by first | (simp; done) | (simp; omega) | (simp [bC]; done) | omega) rfl ?_; (try simp only [go_sem, f1, f2, hml, hcl, hnl, Nat.le_refl])) | (refine Eff.at2 (shI ) [3, 6, 7] rfl (by first | (simp; done) | (simp; omega) | (simp [bC]; done) | omega) rfl ?_; (try simp only [go_sem, f1, f2, hml, hcl, hnl, Nat.le_refl])) | (refine Eff.at2 (rsh ) [0, 1, 2] rfl (by first | (simp; done) | (simp; omega) | (simp [bC]; done) | omega) rfl ?_; (try simp only [go_sem, f1, f2, hml, hcl, hnl, Nat.le_refl])) | (refine Eff.at2 (sR ) [3, 6, 7, 0, 1, 2] rfl (by first | (simp; done) | (simp; omega) | (simp [bC]; done) | omega) rfl ?_; (try simp only [go_sem, f1, f2, hml, hcl, hnl, Nat.le_refl])) | (refine Pure.at (aw) (by simp) (by simp) rfl ?_; (try simp only [go_sem, f1, f2, hml, hcl, hnl, Nat.le_refl])) | (simp (disch := omega) only [wE]) | (refine spl (fun h => ?_) (fun h => ?_) <;> first | (exfalso; omega) | ((try simp only [opRun, opSkip, stepRun, pickZ]); (try simp only [go_sem, f1, f2, hml, hcl, hnl, Nat.le_refl, h]))) | (refine and_om ?_ ?_; focus omega))
          all_goals exact done_ef2 [] (by simp) rfl (by simp [mA]) (by simp [bC])
  · rcases dC with dC | ⟨_, y2, z2, w2, rfl, pC, rfl, rfl, rfl, rfl, rfl, rfl⟩
    · rcases dN with dN | ⟨_, y3, z3, w3, rfl, pN, rfl, rfl, rfl, rfl, rfl, rfl, cp⟩
      · rcases dC with ⟨lC, rfl, rfl, rfl, rfl, rfl, rfl⟩ | ⟨y2, z2, w2, lC, rfl, rfl, rfl, rfl, rfl, rfl⟩ <;>
        rcases dN with ⟨lN, rfl, rfl, rfl, rfl, rfl, rfl, cp⟩ | ⟨y3, z3, w3, lN, rfl, rfl, rfl, rfl, rfl, rfl, cp⟩ <;>
        simp only [List.nil_append, List.cons_append] at rsh shI sR ⊢
        all_goals
          refine ecalls_in 42 [.tmp 4] Tryz.func5 rfl rfl rfl (by kernel_rfl) (le_ble rfl) ?_
          repeat' (first | refine esem_seqK 127 ?_ | refine esem_block ?_ | (refine stp ?_; simp only [go_sem, f1, f2, hml, hcl, hnl, Nat.le_refl]) | (refine Eff.at2 (cp ) [2] rfl (by first | (simp; done) | (simp; omega) | (simp [bC]; done) | omega) rfl ?_; (try simp only [go_sem, f1, f2, hml, hcl, hnl, Nat.le_refl])) | (refine Eff.at2 (shI ) [6, 4, 5] rfl (by first | (simp; done) | (simp; omega) | (simp [bC]; done) | omega) rfl ?_; (try simp only [go_sem, f1, f2, hml, hcl, hnl, Nat.le_refl])) | (refine Eff.at2 (rsh ) [0, 1, 2] rfl (by first | (simp; done) | (simp; omega) | (simp [bC]; done) | omega) rfl ?_; (try simp only [go_sem, f1, f2, hml, hcl, hnl, Nat.le_refl])) | (refine Eff.at2 (sR ) [6, 4, 5, 0, 1, 2] rfl (by first | (simp; done) | (simp; omega) | (simp [bC]; done) | omega) rfl ?_; (try simp only [go_sem, f1, f2, hml, hcl, hnl, Nat.le_refl])) | (refine Pure.at (aw) (by simp) (by simp) rfl ?_; (try simp only [go_sem, f1, f2, hml, hcl, hnl, Nat.le_refl])) | (simp (disch := omega) only [wE]) | (refine spl (fun h => ?_) (fun h => ?_) <;> first | (exfalso; omega) | ((try simp only [opRun, opSkip, stepRun, pickZ]); (try simp only [go_sem, f1, f2, hml, hcl, hnl, Nat.le_refl, h]))) | (refine and_om ?_ ?_; focus omega))
          all_goals exact done_ef2 [] (by simp) rfl (by simp [mA]) (by simp [bC])
      · rcases dC with ⟨lC, rfl, rfl, rfl, rfl, rfl, rfl⟩ | ⟨y2, z2, w2, lC, rfl, rfl, rfl, rfl, rfl, rfl⟩ <;>
        simp only [List.nil_append, List.cons_append] at rsh shI sR ⊢
        all_goals
          refine ecalls_in 42 [.tmp 4] Tryz.func5 rfl rfl rfl (by kernel_rfl) (le_ble rfl) ?_
          repeat' (first | refine esem_seqK 127 ?_ | refine esem_block ?_ | (refine stp ?_; simp only [go_sem, f1, f2, hml, hcl, hnl, Nat.le_refl]) | (refine Eff.at2 (cp ) [2] rfl (by first | (simp; done) | (simp; omega) | (simp [bC]; done) | omega) rfl ?_; (try simp only [go_sem, f1, f2, hml, hcl, hnl, Nat.le_refl])) | (refine Eff.at2 (shI ) [6, 4, 7] rfl (by first | (simp; done) | (simp; omega) | (simp [bC]; done) | omega) rfl ?_; (try simp only [go_sem, f1, f2, hml, hcl, hnl, Nat.le_refl])) | (refine Eff.at2 (rsh ) [0, 1, 2] rfl (by first | (simp; done) | (simp; omega) | (simp [bC]; done) | omega) rfl ?_; (try simp only [go_sem, f1, f2, hml, hcl, hnl, Nat.le_refl])) | (refine Eff.at2 (sR ) [6, 4, 7, 0, 1, 2] rfl (by first | (simp; done) | (simp; omega) | (simp [bC]; done) | omega) rfl ?_; (try simp only [go_sem, f1, f2, hml, hcl, hnl, Nat.le_refl])) | (refine Pure.at (aw) (by simp) (by simp) rfl ?_; (try simp only [go_sem, f1, f2, hml, hcl, hnl, Nat.le_refl])) | (simp (disch := omega) only [wE]) | (refine spl (fun h => ?_) (fun h => ?_) <;> first | (exfalso; omega) | ((try simp only [opRun, opSkip, stepRun, pickZ]); (try simp only [go_sem, f1, f2, hml, hcl, hnl, Nat.le_refl, h]))) | (refine and_om ?_ ?_; focus omega))
          all_goals exact done_ef2 [] (by simp) rfl (by simp [mA]) (by simp [bC])
    · rcases dN with dN | ⟨_, y3, z3, w3, rfl, pN, rfl, rfl, rfl, rfl, rfl, rfl, cp⟩
      · rcases dN with ⟨lN, rfl, rfl, rfl, rfl, rfl, rfl, cp⟩ | ⟨y3, z3, w3, lN, rfl, rfl, rfl, rfl, rfl, rfl, cp⟩ <;>
        simp only [List.nil_append, List.cons_append] at rsh shI sR ⊢
        all_goals
          refine ecalls_in 42 [.tmp 4] Tryz.func5 rfl rfl rfl (by kernel_rfl) (le_ble rfl) ?_
          repeat' (first | refine esem_seqK 127 ?_ | refine esem_block ?_ | (refine stp ?_; simp only [go_sem, f1, f2, hml, hcl, hnl, Nat.le_refl]) | (refine Eff.at2 (cp ) [2] rfl (by first | (simp; done) | (simp; omega) | (simp [bC]; done) | omega) rfl ?_; (try simp only [go_sem, f1, f2, hml, hcl, hnl, Nat.le_refl])) | (refine Eff.at2 (shI ) [6, 7, 5] rfl (by first | (simp; done) | (simp; omega) | (simp [bC]; done) | omega) rfl ?_; (try simp only [go_sem, f1, f2, hml, hcl, hnl, Nat.le_refl])) | (refine Eff.at2 (rsh ) [0, 1, 2] rfl (by first | (simp; done) | (simp; omega) | (simp [bC]; done) | omega) rfl ?_; (try simp only [go_sem, f1, f2, hml, hcl, hnl, Nat.le_refl])) | (refine Eff.at2 (sR ) [6, 7, 5, 0, 1, 2] rfl (by first | (simp; done) | (simp; omega) | (simp [bC]; done) | omega) rfl ?_; (try simp only [go_sem, f1, f2, hml, hcl, hnl, Nat.le_refl])) | (refine Pure.at (aw) (by simp) (by simp) rfl ?_; (try simp only [go_sem, f1, f2, hml, hcl, hnl, Nat.le_refl])) | (simp (disch := omega) only [wE]) | (refine spl (fun h => ?_) (fun h => ?_) <;> first | (exfalso; omega) | ((try simp only [opRun, opSkip, stepRun, pickZ]); (try simp only [go_sem, f1, f2, hml, hcl, hnl, Nat.le_refl, h]))) | (refine and_om ?_ ?_; focus omega))
          all_goals exact done_ef2 [] (by simp) rfl (by simp [mA]) (by simp [bC])
      · simp only [List.nil_append, List.cons_append] at rsh shI sR ⊢
        refine ecalls_in 42 [.tmp 4] Tryz.func5 rfl rfl rfl (by kernel_rfl) (le_ble rfl) ?_
        repeat' (first | refine esem_seqK 127 ?_ | refine esem_block ?_ | (refine stp ?_; simp only [go_sem, f1, f2, hml, hcl, hnl, Nat.le_refl]) | (refine Eff.at2 (cp ) [2] rfl (by first | (simp; done) | (simp; omega) | (simp [bC]; done) | omega) rfl ?_; (try simp only [go_sem, f1, f2, hml, hcl, hnl, Nat.le_refl])) | (refine Eff.at2 (shI ) [6, 7, 8] rfl (by first | (simp; done) | (simp; omega) | (simp [bC]; done) | omega) rfl ?_; (try simp only [go_sem, f1, f2, hml, hcl, hnl, Nat.le_refl])) | (refine Eff.at2 (rsh ) [0, 1, 2] rfl (by first | (simp; done) | (simp; omega) | (simp [bC]; done) | omega) rfl ?_; (try simp only [go_sem, f1, f2, hml, hcl, hnl, Nat.le_refl])) | (refine Eff.at2 (sR ) [6, 7, 8, 0, 1, 2] rfl (by first | (simp; done) | (simp; omega) | (simp [bC]; done) | omega) rfl ?_; (try simp only [go_sem, f1, f2, hml, hcl, hnl, Nat.le_refl])) | (refine Pure.at (aw) (by simp) (by simp) rfl ?_; (try simp only [go_sem, f1, f2, hml, hcl, hnl, Nat.le_refl])) | (simp (disch := omega) only [wE]) | (refine spl (fun h => ?_) (fun h => ?_) <;> first | (exfalso; omega) | ((try simp only [opRun, opSkip, stepRun, pickZ]); (try simp only [go_sem, f1, f2, hml, hcl, hnl, Nat.le_refl, h]))) | (refine and_om ?_ ?_; focus omega))
        all_goals exact done_ef2 [] (by simp) rfl (by simp [mA]) (by simp [bC])
end Go.Proofs.YtnjbdcdjcfhooaaGreatDoor
