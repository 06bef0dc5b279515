/-
  Own work: walks and laws of the functions that the statement reaches; the statement itself stands in the last text.
-/
import Derived.Test.YtnjbdcdjcfhooaaGreatDoorHa
import Derived.Test.YtnjbdcdjcfhooaaGreatDoorHb
import Derived.Lib.AppendIntMem
import Derived.Lib.IndexLaws
import Derived.Test.YtnjbdcdjcfhooaaGreatDoorEd
namespace Go.Proofs.YtnjbdcdjcfhooaaGreatDoor
open Go.E
set_option linter.all false
set_option maxRecDepth 20000
set_option maxHeartbeats 4000000
def gPow (t : TypeId) : Gl := ⟨1, Lib.pow10Tab.map fun z => Value.int .u64 z, t⟩
theorem itoa_c (G : List Gl) (t : TypeId) (hG : gPow t ∈ G) (n : Int) (h0 : -9223372036854775808 ≤ n) (h1 : n ≤ 9223372036854775807) : Pure G Tryz.prog 45 [.int .i64 n] (.str (Lib.itoa n)) := by
  unfold E.Pure
  refine ecalls_below (v' := .string ⟨(Lib.itoa n).toArray⟩) (enters_of Tryz.func45 (by kernel_rfl) rfl) (fun ρ => by rw [VR]) (fun ρ w args' hR hA => ?_) ⟨rfl, rfl⟩
  obtain ⟨x', e, hx⟩ := one_of hA
  obtain ⟨l⟩ := args'
  simp only at e
  subst e
  rw [VR] at hx; subst hx
  obtain ⟨⟨fr, hw⟩, _⟩ := hR.glob _ hG
  refine (Tryz.strconv_Itoa n h0 h1 w ?_).mono ?_
  · unfold Lib.TabIs World.var?
    rw [show Program.globalNamed Tryz.prog _ = some 1 from by kernel_rfl]
    simp only [Option.bind_some]
    rw [show w.heap[1]? = some (.cells (Lib.pow10Tab.map fun z => Value.int .u64 z).toArray t fr) from hw]
  · rintro e w' ⟨rfl, k, os, rfl⟩
    exact ⟨rfl, Lib.below_grow _ w (Nat.le_refl _) k os⟩
def gFirst (t : TypeId) : Gl := ⟨3, (List.range 256).map fun c => Value.int .u8 (Lib.firstT c), t⟩
def gAcc (t : TypeId) : Gl := ⟨4, (List.range 32).map fun c => if c % 2 = 0 then Value.int .u8 (Lib.accLo (c / 2)) else Value.int .u8 (Lib.accHi (c / 2)), t⟩
theorem decode_c (G : List Gl) (t u : TypeId) (h3 : gFirst t ∈ G) (h4 : gAcc u ∈ G) (l : List UInt8) (hl : 0 < l.length) : E.Pure G Tryz.prog 119 [.str l] (.tuple [.int .i32 (decE l).1, .int .i64 (decE l).2]) := by
  unfold E.Pure
  have hd : Lib.decodeGo ⟨l.toArray⟩ = decE l := by
    unfold Lib.decodeGo decE
    rw [if_neg (by rw [size_mk]; omega)]
  refine ecalls_below (v' := .tuple #[.int .i32 (decE l).1, .int .i64 (decE l).2]) (enters_of Tryz.func119 (by kernel_rfl) rfl) (fun ρ => by rw [VR]; exact ⟨_, rfl, VRs.cons (by rw [VR]) (VRs.cons (by rw [VR]) VRs.nil)⟩) (fun ρ w args' hR hA => ?_) ⟨rfl, rfl⟩
  obtain ⟨x', e, hx⟩ := one_of hA
  obtain ⟨la⟩ := args'
  simp only at e
  subst e
  rw [VR] at hx; subst hx
  obtain ⟨⟨fr, hw⟩, _⟩ := hR.glob _ h3
  obtain ⟨⟨fr2, hw2⟩, _⟩ := hR.glob _ h4
  rw [← hd]
  refine Tryz.utf8_DecodeRuneInString _ w ⟨fun c hc => ?_, fun i hi => ⟨?_, ?_⟩⟩
  · have := hw
    simp only [gFirst] at this
    simp [World.cell?, this, hc]
  · have := hw2
    simp only [gAcc] at this
    simp [World.cell?, this, show 2 * i < 32 by omega]
  · have := hw2
    simp only [gAcc] at this
    simp [World.cell?, this, show 2 * i + 1 < 32 by omega, show (2 * i + 1) % 2 = 1 by omega, show (2 * i + 1) / 2 = i by omega]
theorem wide_c (G : List Gl) (t u : TypeId) (h3 : gFirst t ∈ G) (h4 : gAcc u ∈ G) (l : List UInt8) (hl : 0 < l.length) : E.Pure G Tryz.prog 109 [.str l, .int .i32 (decE l).1] (.int .i64 (decE l).2) := by
  have hw := decE_wide l
  have hdc := decode_c G t u h3 h4 l hl
  refine pure_hid fun V hV => ?_
  generalize decE l = d at hw hV hdc
  obtain ⟨r, w⟩ := d
  simp only at hw hV hdc
  refine ecalls_in 17 [.tmp 4] Tryz.func109 rfl rfl rfl (by kernel_rfl) (le_ble rfl) ?_
  repeat' (first | refine esem_seqK 339 ?_ | refine esem_block ?_ | (refine stp ?_; simp only [go_sem]) | (refine Pure.at (runeLen_c G _) (by simp) (by simp) rfl ?_; (try simp only [go_sem])) | (refine Pure.at (hdc) (by simp) (by simp) rfl ?_; (try simp only [go_sem])) | (simp (disch := omega) only [wE]) | (refine spl (fun h => ?_) (fun h => ?_) <;> first | (exfalso; omega) | ((try simp only [opRun, opSkip, stepRun, pickZ]); (try simp only [go_sem, h]))) | (refine and_om ?_ ?_; focus omega))
  · refine done_zero (by simp [EV.bel]) ?_
    rw [hV, hw (by omega)]
  · refine done_zero (by simp [EV.bel]) ?_
    rw [hV]
theorem decE_err (l : List UInt8) (h : (decE l).1 = 65533) : (decE l).2 = 1 ∨ (decE l).2 = 3 := by
  revert h
  simp only [decE, Utf8.decode, Utf8.runeError, Utf8.valid, Nat.zero_add]
  repeat' split
  all_goals (intro h; first | (exact .inl rfl) | (exact .inr rfl) | (exfalso; simp_all <;> omega))
theorem first_c (G : List Gl) (t u : TypeId) (h3 : gFirst t ∈ G) (h4 : gAcc u ∈ G) (l : List UInt8) (hl : 0 < l.length) : E.Pure G Tryz.prog 90 [.str l] (charE l) := by
  have he := decE_err l
  have hwc := wide_c G t u h3 h4 l hl
  refine pure_hid fun V hV => ?_
  unfold charE rightB at hV
  generalize hd : decE l = d at he hV hwc
  obtain ⟨r, w⟩ := d
  simp only at he hV hwc
  have hd1 : decE (l.drop 0) = (r, w) := by simpa using hd
  refine ecalls_in 24 [.tmp 2, .tmp 3, .tmp 4] Tryz.func90 rfl rfl rfl (by kernel_rfl) (le_ble rfl) ?_
  repeat' (first | refine esem_seqK 3805 ?_ | refine esem_block ?_ | (refine stp ?_; simp only [go_sem]) | (refine eop_ranges' ?_; simp only [go_sem]) | (refine eop_nexts' ?_; simp only [go_sem, hd]) | (refine Pure.at (hwc) (by simp) (by simp) rfl ?_; (try simp only [go_sem])) | (refine esem_loopN 3805 2 ?_; simp only [go_sem]) | (simp (disch := omega) only [wE]) | (refine spl (fun h => ?_) (fun h => ?_) <;> first | (exfalso; omega) | ((try simp only [opRun, opSkip, stepRun, pickZ]); (try simp only [go_sem, h]))) | (refine and_om ?_ ?_; focus omega))
  all_goals (refine done_zero (by simp [EV.bel, allBelow]) ?_; rw [hV] <;> (try simp only [EV.tuple.injEq, List.cons.injEq, EV.int.injEq, EV.bool.injEq, true_and, and_true]))
  all_goals (first | (symm; apply decide_eq_true; omega) | (congr 1; apply propext; omega))
end Go.Proofs.YtnjbdcdjcfhooaaGreatDoor
namespace Go.Proofs.YtnjbdcdjcfhooaaGreatDoor
open Go.E
set_option linter.all false
set_option maxRecDepth 20000
set_option maxHeartbeats 4000000
def numL (n : Nat) : List UInt8 → Option Nat
  | [] => some n
  | c :: r => if 48 ≤ c.toNat ∧ c.toNat ≤ 57 ∧ n ≤ (9223372036854775807 - (c.toNat - 48)) / 10 then numL (10 * n + (c.toNat - 48)) r else none
theorem numL_step (n : Nat) (l : List UInt8) (i : Nat) (h : i < l.length) : numL n (l.drop i) = if 48 ≤ (l.getD i 0).toNat ∧ (l.getD i 0).toNat ≤ 57 ∧ n ≤ (9223372036854775807 - ((l.getD i 0).toNat - 48)) / 10 then numL (10 * n + ((l.getD i 0).toNat - 48)) (l.drop (i + 1)) else none := by
  rw [List.drop_eq_getElem_cons h, numL]
  simp only [List.getD_eq_getElem?_getD, List.getElem?_eq_getElem h, Option.getD_some]
def numberE (l : List UInt8) : EV := match numL 0 l with
  | some n => if l = [] ∨ (1 < l.length ∧ (l.getD 0 0).toNat = 48) then .tuple [.int .i64 0, .bool false] else .tuple [.int .i64 n, .bool true]
  | none => .tuple [.int .i64 0, .bool false]
theorem number_c (G : List Gl) (l : List UInt8) (h63 : l.length ≤ 9223372036854775807) : E.Pure G Tryz.prog 57 [.str l] (numberE l) := by
  refine pure_hid fun V hV => ?_
  refine ecalls_in 48 [.tmp 2, .tmp 3] Tryz.func57 rfl rfl rfl (by kernel_rfl) (le_ble rfl) ?_
  repeat' (first | refine esem_seqK 2199030857853 ?_ | refine esem_block ?_ | (refine stp ?_; simp only [go_sem]) | (simp (disch := omega) only [wE]) | (refine spl (fun h => ?_) (fun h => ?_) <;> first | (exfalso; omega) | ((try simp only [opRun, opSkip, stepRun, pickZ]); (try simp only [go_sem, h]))) | (refine and_om ?_ ?_; focus omega))
  · refine done_zero (by simp [EV.bel, allBelow]) ?_; subst h; rw [hV]; rfl
  · refine done_zero (by simp [EV.bel, allBelow]) ?_; rw [hV]; unfold numberE
    split
    · rw [if_pos (.inr ⟨by omega, by omega⟩)]
    · rfl
  all_goals
    have hno : ¬ (l = [] ∨ (1 < l.length ∧ (l.getD 0 0).toNat = 48)) := by
      rintro (h | ⟨h1, h2⟩)
      · contradiction
      · omega
    refine esem_loopS (fun z : Nat × Nat => [(0, .str l), (20, .int .i64 l.length), (21, .int .i64 z.1), (4, .int .i64 z.2)]) (fun _ => []) (fun _ => 0) (fun z => z.1 ≤ l.length ∧ z.2 ≤ 9223372036854775807 ∧ numL z.2 (l.drop z.1) = numL 0 l) (fun z => l.length - z.1) (0, 0) (fun z hz => ⟨by simp [frBel, EV.bel], trivial, Nat.le_refl _⟩) (by simp) (by simp only [go_sem, weakL]) trivial ?_
    rintro ⟨i, n⟩ ⟨z1, z2, z3⟩
    simp only at z1 z2 z3
    have hc := UInt8.toNat_lt (l.getD i 0)
    have hs := numL_step n l i
    repeat' (first | refine esem_seqK 2199030857853 ?_ | refine esem_block ?_ | (refine stp ?_; simp only [go_sem]) | (simp (disch := omega) only [wE]) | (refine spl (fun h => ?_) (fun h => ?_) <;> first | (exfalso; omega) | ((try simp only [opRun, opSkip, stepRun, pickZ]); (try simp only [go_sem, h]))) | (refine and_om ?_ ?_; focus omega))
    all_goals first
      | (exfalso; omega)
      | ((refine done_zero (by simp [EV.bel, allBelow]) ?_; rw [hV]); specialize hs (by omega); rw [if_neg (by omega)] at hs; simp only [numberE, ← z3, hs])
      | ((refine done_zero (by simp [EV.bel, allBelow]) ?_; rw [hV]); simp only [numberE, ← z3, List.drop_eq_nil_of_le (show l.length ≤ i by omega), numL]; rw [if_neg hno])
      | (specialize hs (by omega); rw [if_pos (by omega)] at hs; (refine ⟨(i + 1, 10 * n + ((l.getD i 0).toNat - 48)), ?_, ?_, rfl, rfl, ?_, ?_⟩; rotate_left; (focus (first | omega | (simp only []; omega))); (focus (first | (simp only [go_sem, weakL]; done) | ((try simp only [go_sem, weakL]); ((repeat' apply And.intro) <;> (first | rfl | trivial | ((try simp only [EV.int.injEq, EV.str.injEq, EV.bool.injEq, EV.tuple.injEq, EV.slice.injEq, List.cons.injEq, true_and, and_true]); first | rfl | omega)))))); (focus (first | trivial | (simp only [go_sem, lessL]; done) | ((try simp only [go_sem, lessL]); ((repeat' apply And.intro) <;> (first | rfl | trivial | ((try simp only [EV.int.injEq, EV.str.injEq, EV.bool.injEq, EV.tuple.injEq, EV.slice.injEq, List.cons.injEq, true_and, and_true]); first | rfl | omega)))))); (try simp only [])); exact ⟨by omega, by omega, by rw [← hs, z3]⟩)
end Go.Proofs.YtnjbdcdjcfhooaaGreatDoor
namespace Go.Proofs.YtnjbdcdjcfhooaaGreatDoor
open Go.E
set_option linter.all false
set_option maxRecDepth 20000
set_option maxHeartbeats 4000000
def rnumberE (l : List UInt8) : EV := match numL 0 l with
  | some n => .tuple [.int .i64 n, .bool (decide (l.length = 1 ∨ (1 < l.length ∧ (l.getD 0 0).toNat ≠ 48)))]
  | none => .tuple [.int .i64 0, .bool false]
end Go.Proofs.YtnjbdcdjcfhooaaGreatDoor
namespace Go.Proofs.YtnjbdcdjcfhooaaGreatDoor
open Go.E
set_option linter.all false
set_option maxRecDepth 20000
set_option maxHeartbeats 4000000
theorem digI_pos (c : UInt8) : 0 ≤ digI c := by unfold digI; repeat' split <;> omega
theorem digI_le (c : UInt8) : digI c ≤ 16 := by unfold digI; repeat' split <;> omega
theorem hexI (c : UInt8) : Lib.indexByte [48, 49, 50, 51, 52, 53, 54, 55, 56, 57, 97, 98, 99, 100, 101, 102] c = if digI c = 16 then -1 else digI c := by
  have h : ∀ n : Fin 256, Lib.indexByte [48, 49, 50, 51, 52, 53, 54, 55, 56, 57, 97, 98, 99, 100, 101, 102] (UInt8.ofNat n.1) = if digI (UInt8.ofNat n.1) = 16 then -1 else digI (UInt8.ofNat n.1) := by decide
  have := h ⟨c.toNat, UInt8.toNat_lt c⟩
  simpa using this
theorem index_c (G : List Gl) (l : List UInt8) (c : UInt8) : E.Pure G Tryz.prog 111 [.str l, .int .u8 c.toNat] (.int .i64 (Lib.indexByte l c)) := by
  unfold E.Pure
  refine ecalls_below (v' := .int .i64 (Lib.indexByte l c)) (enters_of Tryz.func111 (by kernel_rfl) rfl) (fun ρ => by rw [VR]) (fun ρ w args' hR hA => ?_) ⟨rfl, rfl⟩
  obtain ⟨args'⟩ := args'
  simp only [VRs] at hA
  obtain ⟨x, r, rfl, hx, y, r', rfl, hy, rfl⟩ := hA
  simp only [VR] at hx hy; subst hx; subst hy
  refine (Tryz.strings_IndexByte ⟨l.toArray⟩ c.toNat w).mono ?_
  rintro e w' ⟨rfl, rfl⟩
  refine ⟨by simp, RowKit.Below.refl _ _⟩
def okN (n : Int) : Bool := decide (n ≤ 1114111 ∧ ¬ (55296 ≤ n ∧ n ≤ 57343))
def hexT : List UInt8 → Nat → Int → List UInt8 × Nat
  | [], _, _ => ([], 0)
  | c :: r, k, n => if digI c < 16 then (if 8 < k then ([], 0) else hexT r (k + 1) (16 * n + digI c)) else if c.toNat = 125 ∧ k ≠ 3 ∧ okN n then (encE n, k + 1) else ([], 0)
theorem hexT_step (l : List UInt8) (i : Nat) (h : i < l.length) (k : Nat) (n : Int) : hexT (l.drop i) k n = if digI (l.getD i 0) < 16 then (if 8 < k then ([], 0) else hexT (l.drop (i + 1)) (k + 1) (16 * n + digI (l.getD i 0))) else if (l.getD i 0).toNat = 125 ∧ k ≠ 3 ∧ okN n then (encE n, k + 1) else ([], 0) := by
  rw [List.drop_eq_getElem_cons h, hexT]
  simp only [List.getD_eq_getElem?_getD, List.getElem?_eq_getElem h, Option.getD_some]
def bracedL (s : List UInt8) : List UInt8 × Nat := if s.length < 3 ∨ (s.getD 2 0).toNat ≠ 123 then ([], 0) else hexT (s.drop 3) 3 0
abbrev pairE (p : List UInt8 × Nat) : EV := .tuple [.str p.1, .int .i64 p.2]
end Go.Proofs.YtnjbdcdjcfhooaaGreatDoor
namespace Go.Proofs.YtnjbdcdjcfhooaaGreatDoor
open Go.E
set_option linter.all false
set_option maxRecDepth 20000
set_option maxHeartbeats 4000000
def escL (s : List UInt8) : List UInt8 × Nat :=
  if s.length < 2 then ([], 0) else
  if (s.getD 1 0).toNat = 34 then ([34], 2) else
  if (s.getD 1 0).toNat = 92 then ([92], 2) else
  if (s.getD 1 0).toNat = 110 then ([10], 2) else
  if (s.getD 1 0).toNat = 114 then ([13], 2) else
  if (s.getD 1 0).toNat = 116 then ([9], 2) else
  if (s.getD 1 0).toNat = 120 then (if 4 ≤ s.length ∧ digI (s.getD 2 0) < 16 ∧ digI (s.getD 3 0) < 16 then ([UInt8.ofNat (16 * digI (s.getD 2 0) + digI (s.getD 3 0)).toNat], 4) else ([], 0)) else
  if (s.getD 1 0).toNat = 117 then bracedL s else ([], 0)
theorem or192 {x : Int} (h0 : 0 ≤ x) (h1 : x < 32) : orI .u8 192 x = 192 + x := orI_add 5 (by omega) (by decide) h0 h1 (by simp [IntKind.max, IntKind.signed, IntKind.bits]; omega)
theorem or224 {x : Int} (h0 : 0 ≤ x) (h1 : x < 16) : orI .u8 224 x = 224 + x := orI_add 4 (by omega) (by decide) h0 h1 (by simp [IntKind.max, IntKind.signed, IntKind.bits]; omega)
theorem or240 {x : Int} (h0 : 0 ≤ x) (h1 : x < 8) : orI .u8 240 x = 240 + x := orI_add 3 (by omega) (by decide) h0 h1 (by simp [IntKind.max, IntKind.signed, IntKind.bits]; omega)
theorem or128 {x : Int} (h0 : 0 ≤ x) (h1 : x < 64) : orI .u8 128 x = 128 + x := orI_add 6 (by omega) (by decide) h0 h1 (by simp [IntKind.max, IntKind.signed, IntKind.bits]; omega)
theorem and63 {x : Int} (h0 : 0 ≤ x) (h1 : x ≤ 255) : andI .u8 x 63 = x % 64 := andI_mask 6 h0 (by simp [IntKind.max, IntKind.signed, IntKind.bits]; omega) (by decide) (by decide)
theorem shr6 (x : Int) : shrI .i32 x 6 = x / 64 := by rw [shrI_div (by decide)]; rfl
theorem shr12 (x : Int) : shrI .i32 x 12 = x / 4096 := by rw [shrI_div (by decide)]; rfl
theorem shr18 (x : Int) : shrI .i32 x 18 = x / 262144 := by rw [shrI_div (by decide)]; rfl
theorem enc_ofNat {n : Nat} (h : n < 256) : (UInt8.ofNat n).toNat = n := by simp [Nat.mod_eq_of_lt h]
theorem enc1 {r : Int} (h0 : 0 ≤ r) (h : r ≤ 127) : bytesE (encE r) = [.int .u8 r] ∧ (encE r).length = 1 := by
  obtain ⟨n, rfl⟩ := Int.eq_ofNat_of_zero_le h0
  have hv : Utf8.valid n = true := by simp [Utf8.valid]; omega
  have e : encE n = [UInt8.ofNat n] := by simp [encE, Utf8.encode, hv, show n < 128 by omega]
  rw [e]
  exact ⟨by simp only [bytesE, List.map, enc_ofNat (show n < 256 by omega)], rfl⟩
theorem enc2 {r : Int} (h0 : 127 < r) (h : r ≤ 2047) : bytesE (encE r) = [.int .u8 (192 + r / 64), .int .u8 (128 + r % 64)] ∧ (encE r).length = 2 := by
  obtain ⟨n, rfl⟩ := Int.eq_ofNat_of_zero_le (show 0 ≤ r by omega)
  have hv : Utf8.valid n = true := by simp [Utf8.valid]; omega
  have e : encE n = [UInt8.ofNat (192 + n / 64), UInt8.ofNat (128 + n % 64)] := by simp [encE, Utf8.encode, hv, show ¬ n < 128 by omega, show n < 2048 by omega]
  rw [e]
  exact ⟨by simp only [bytesE, List.map, enc_ofNat (show 192 + n / 64 < 256 by omega), enc_ofNat (show 128 + n % 64 < 256 by omega)]; simp, rfl⟩
theorem enc3 {r : Int} (h0 : 2047 < r) (h : r ≤ 65535) (hv : okN r = true) : bytesE (encE r) = [.int .u8 (224 + r / 4096), .int .u8 (128 + r / 64 % 64), .int .u8 (128 + r % 64)] ∧ (encE r).length = 3 := by
  obtain ⟨n, rfl⟩ := Int.eq_ofNat_of_zero_le (show 0 ≤ r by omega)
  simp only [okN, decide_eq_true_eq] at hv
  have hv : Utf8.valid n = true := by simp [Utf8.valid]; omega
  have e : encE n = [UInt8.ofNat (224 + n / 4096), UInt8.ofNat (128 + n / 64 % 64), UInt8.ofNat (128 + n % 64)] := by simp [encE, Utf8.encode, hv, show ¬ n < 128 by omega, show ¬ n < 2048 by omega, show n < 65536 by omega]
  rw [e]
  exact ⟨by simp only [bytesE, List.map, enc_ofNat (show 224 + n / 4096 < 256 by omega), enc_ofNat (show 128 + n / 64 % 64 < 256 by omega), enc_ofNat (show 128 + n % 64 < 256 by omega)]; simp, rfl⟩
theorem enc4 {r : Int} (h0 : 65535 < r) (h : r ≤ 1114111) : bytesE (encE r) = [.int .u8 (240 + r / 262144), .int .u8 (128 + r / 4096 % 64), .int .u8 (128 + r / 64 % 64), .int .u8 (128 + r % 64)] ∧ (encE r).length = 4 := by
  obtain ⟨n, rfl⟩ := Int.eq_ofNat_of_zero_le (show 0 ≤ r by omega)
  have hv : Utf8.valid n = true := by simp [Utf8.valid]; omega
  have e : encE n = [UInt8.ofNat (240 + n / 262144), UInt8.ofNat (128 + n / 4096 % 64), UInt8.ofNat (128 + n / 64 % 64), UInt8.ofNat (128 + n % 64)] := by simp [encE, Utf8.encode, hv, show ¬ n < 128 by omega, show ¬ n < 2048 by omega, show ¬ n < 65536 by omega]
  rw [e]
  exact ⟨by simp only [bytesE, List.map, enc_ofNat (show 240 + n / 262144 < 256 by omega), enc_ofNat (show 128 + n / 4096 % 64 < 256 by omega), enc_ofNat (show 128 + n / 64 % 64 < 256 by omega), enc_ofNat (show 128 + n % 64 < 256 by omega)]; simp, rfl⟩
theorem convU8 (x : Int) : IntKind.u8.wrap x = x % 256 := by rw [IntKind.wrap_u8]
theorem runeNon_c (G : List Gl) (r : Int) (h : okN r = true) (h0 : 127 < r) : Eff G Tryz.prog 134 [.slice none 0 0, .int .i32 r] [] 0 (.slice (some ⟨0, 0⟩) (encE r).length (encE r).length) [(0, .cells (bytesE (encE r)) 5 1 true 0)] 1 := by
  unfold Eff
  have h' := h
  simp only [okN, decide_eq_true_eq] at h
  refine ecalls_in 78 [.tmp 4] Tryz.func134 rfl rfl rfl (by kernel_rfl) (le_ble rfl) ?_
  repeat' (first | refine esem_seqK 1125899940399155 ?_ | refine esem_block ?_ | (refine stp ?_; simp only [go_sem]) | (simp only [shr6, shr12, shr18]) | (simp (disch := omega) only [or192, or224, or240, or128, and63]) | (simp only [convU8]) | (simp (disch := omega) only [wE]) | (refine spl (fun h => ?_) (fun h => ?_) <;> first | (exfalso; omega) | ((try simp only [opRun, opSkip, stepRun, pickZ]); (try simp only [go_sem, h]))) | (refine and_om ?_ ?_; focus omega))
  all_goals first
    | (obtain ⟨e1, e2⟩ := enc2 h0 (by omega); rw [e1, e2, show r / 64 % 256 = r / 64 by omega, show r % 256 % 64 = r % 64 by omega]; exact done_ef2 [1] (by simp) rfl (by simp [mA]) (by simp [bC]))
    | (obtain ⟨e1, e2⟩ := enc3 (by omega) (by omega) h'; rw [e1, e2, show r / 4096 % 256 = r / 4096 by omega, show r / 64 % 256 % 64 = r / 64 % 64 by omega, show r % 256 % 64 = r % 64 by omega]; exact done_ef2 [1] (by simp) rfl (by simp [mA]) (by simp [bC]))
    | (obtain ⟨e1, e2⟩ := enc4 (by omega) (by omega); rw [e1, e2, show r / 262144 % 256 = r / 262144 by omega, show r / 4096 % 256 % 64 = r / 4096 % 64 by omega, show r / 64 % 256 % 64 = r / 64 % 64 by omega, show r % 256 % 64 = r % 64 by omega]; exact done_ef2 [1] (by simp) rfl (by simp [mA]) (by simp [bC]))
    | (exfalso; omega)
theorem appendRune_c (G : List Gl) (r : Int) (h : okN r = true) (h0 : 0 ≤ r) : Eff G Tryz.prog 125 [.slice none 0 0, .int .i32 r] [] 0 (.slice (some ⟨0, 0⟩) (encE r).length (encE r).length) [(0, .cells (bytesE (encE r)) 5 1 true 0)] 1 := by
  unfold Eff
  have h' := h
  simp only [okN, decide_eq_true_eq] at h
  refine ecalls_in 16 [.tmp 4] Tryz.func125 rfl rfl rfl (by kernel_rfl) (le_ble rfl) ?_
  repeat' (first | refine esem_seqK 147 ?_ | refine esem_block ?_ | (refine stp ?_; simp only [go_sem]) | (refine Eff.at2 (runeNon_c _ r h' (by omega) ) [] rfl (by first | (simp; done) | (simp; omega) | (simp [bC]; done) | omega) rfl ?_; (try simp only [go_sem])) | (simp (disch := omega) only [wE]) | (refine spl (fun h => ?_) (fun h => ?_) <;> first | (exfalso; omega) | ((try simp only [opRun, opSkip, stepRun, pickZ]); (try simp only [go_sem, h]))) | (refine and_om ?_ ?_; focus omega))
  · obtain ⟨e1, e2⟩ := enc1 h0 (by omega)
    rw [e1, e2]
    exact done_ef2 [1] (by simp) rfl (by simp [mA]) (by simp [bC])
  · exact done_ef2 [0] (by simp) rfl (by simp [mA]) (by simp [bC])
theorem encode_c (G : List Gl) (r : Int) (h : okN r = true) (h0 : 0 ≤ r) : Eff G Tryz.prog 112 [.slice (some ⟨0, 0⟩) 1 1] [(0, .cells [.int .i32 r] 21 0 true 0)] 1 (.str (encE r)) [] 1 := by
  unfold Eff
  refine ecalls_in 18 [.tmp 2] Tryz.func112 rfl rfl rfl (by kernel_rfl) (le_ble rfl) ?_
  repeat' (first | refine esem_seqK 1005 ?_ | refine esem_block ?_ | (refine stp ?_; simp only [go_sem]) | (refine Eff.at2 (appendRune_c _ r h h0 ) [] rfl (by first | (simp; done) | (simp; omega) | (simp [bC]; done) | omega) rfl ?_; (try simp only [go_sem])) | (refine esem_loopN 1005 2 ?_; simp only [go_sem]) | (simp (disch := omega) only [wE]) | (refine spl (fun h => ?_) (fun h => ?_) <;> first | (exfalso; omega) | ((try simp only [opRun, opSkip, stepRun, pickZ]); (try simp only [go_sem, h]))) | (refine and_om ?_ ?_; focus omega))
  exact done_ef2 [] (by simp) rfl (by simp [mA]) (by simp [bC])
end Go.Proofs.YtnjbdcdjcfhooaaGreatDoor
namespace Go.Proofs.YtnjbdcdjcfhooaaGreatDoor
open Go.E
set_option linter.all false
set_option maxRecDepth 20000
set_option maxHeartbeats 4000000
theorem idx_spec (l : List UInt8) (c : UInt8) : (Lib.indexByte l c = -1 ∧ ∀ j, j < l.length → l.getD j 0 ≠ c) ∨ ∃ o : Nat, Lib.indexByte l c = o ∧ o < l.length ∧ l.getD o 0 = c ∧ ∀ j, j < o → l.getD j 0 ≠ c := by
  have hge := Lib.indexByte_ge l c
  rcases (by omega : Lib.indexByte l c < 0 ∨ 0 ≤ Lib.indexByte l c) with h | h
  · refine .inl ⟨by omega, fun j hj e => Lib.indexByte_none (show Lib.indexByte l c = -1 by omega) j ?_⟩
    rw [List.getElem?_eq_getElem hj, ← e, List.getD_eq_getElem?_getD, List.getElem?_eq_getElem hj]; rfl
  · obtain ⟨o, ho⟩ := Int.eq_ofNat_of_zero_le h
    obtain ⟨h1, h2⟩ := Lib.indexByte_some ho
    obtain ⟨hl, h1⟩ := List.getElem?_eq_some_iff.1 h1
    refine .inr ⟨o, ho, hl, ?_, fun j hj e => h2 j hj ?_⟩
    · rw [List.getD_eq_getElem?_getD, List.getElem?_eq_getElem hl, h1]; rfl
    · rw [List.getElem?_eq_getElem (by omega), ← e, List.getD_eq_getElem?_getD, List.getElem?_eq_getElem (by omega)]; rfl
theorem hexT_far : ∀ (l : List UInt8) (k : Nat) (n : Int), k ≤ 9 → (∀ j, j ≤ 9 - k → l.getD j 0 ≠ 125) → hexT l k n = ([], 0)
  | [], _, _, _, _ => rfl
  | c :: r, k, n, hk, h => by
    have h0 : c ≠ 125 := by simpa using h 0 (by omega)
    have h0' : ¬ c.toNat = 125 := fun e => h0 (UInt8.toNat_inj.1 e)
    rw [hexT]
    by_cases hd : digI c < 16
    · rw [if_pos hd]
      by_cases h8 : 8 < k
      · rw [if_pos h8]
      · rw [if_neg h8]
        exact hexT_far r (k + 1) _ (by omega) (fun j hj => by simpa using h (j + 1) (by omega))
    · rw [if_neg hd, if_neg (by omega)]
def hexOf (c : UInt8) : Int := if digI c = 16 then -1 else digI c
theorem hexOf_spec (c : UInt8) : (hexOf c = -1 ∧ digI c = 16) ∨ (0 ≤ hexOf c ∧ hexOf c ≤ 15 ∧ digI c = hexOf c) := by
  have := digI_pos c
  have := digI_le c
  unfold hexOf
  split <;> omega
theorem hexidx_c (G : List Gl) (c : UInt8) : E.Pure G Tryz.prog 111 [.str [48, 49, 50, 51, 52, 53, 54, 55, 56, 57, 97, 98, 99, 100, 101, 102], .int .u8 c.toNat] (.int .i64 (hexOf c)) := (index_c G _ c).to (by rw [hexI]; rfl)
theorem shl4 {a : Int} (h0 : 0 ≤ a) (h1 : a ≤ 16777216) : shlI .i64 a 4 = 16 * a := by
  rw [shlI_mul (by decide)]
  rw [show (2 : Int) ^ (4 : Int).toNat = 16 from rfl, wrap64E (by omega) (by omega)]; omega
theorem or16 {a b : Int} (h0 : 0 ≤ a) (h1 : a ≤ 16777216) (h2 : 0 ≤ b) (h3 : b ≤ 15) : orI .i64 (16 * a) b = 16 * a + b := orI_add 4 (by omega) (by show 16 * a % 16 = 0; omega) h2 (by show b < 16; omega) (by simp [IntKind.max, IntKind.signed, IntKind.bits]; omega)
theorem take1 (l : List UInt8) (i : Nat) (h : i < l.length) : (l.drop i).take 1 = [l.getD i 0] := by
  rw [List.drop_eq_getElem_cons h, List.getD_eq_getElem?_getD, List.getElem?_eq_getElem h, List.take_succ_cons, List.take_zero]; rfl
theorem getD_drop (l : List UInt8) (i j : Nat) : (l.drop i).getD j 0 = l.getD (i + j) 0 := by
  simp [List.getD_eq_getElem?_getD]
theorem getD_ge (l : List UInt8) (i : Nat) (h : l.length ≤ i) : l.getD i 0 = 0 := by
  simp [List.getD_eq_getElem?_getD, List.getElem?_eq_none h]
theorem escaped_c (G : List Gl) (l : List UInt8) (h63 : l.length ≤ 9223372036854775807) (h92 : (l.getD 0 0).toNat = 92) : E.Pure G Tryz.prog 100 [.str l] (pairE (escL l)) := by
  refine pure_hid fun V hV => ?_
  have s2 := hexOf_spec (l.getD 2 0)
  have s3 := hexOf_spec (l.getD 3 0)
  have hi := index_c G l 125
  rw [show ((125 : UInt8).toNat : Int) = 125 from rfl] at hi
  have hx := idx_spec l 125
  generalize Lib.indexByte l 125 = e at hi hx
  have he : e = -1 ∨ 0 ≤ e ∧ e < l.length := by rcases hx with ⟨rfl, _⟩ | ⟨o, rfl, _⟩ <;> omega
  refine ecalls_in 101 [.tmp 2, .tmp 3] Tryz.func100 rfl rfl rfl (by kernel_rfl) (le_ble rfl) ?_
  repeat' (first | refine esem_seqK 19808254867049122555027837949 ?_ | refine esem_block ?_ | (refine stp ?_; simp only [go_sem]) | (refine drawQ (id := 15) mixed [(0, []), (1, []), (3, []), (4, []), (2, []), (5, []), (6, []), (7, [])] (by kernel_rfl) ?_; simp only [go_sem]) | (refine Pure.at (hexidx_c _ _) (by simp) (by simp) rfl ?_; (try simp only [go_sem])) | (refine Pure.at (hi) (by simp) (by simp) rfl ?_; (try simp only [go_sem])) | (simp (disch := omega) only [shl4, or16]) | (simp (disch := omega) only [wE]) | (refine spl (fun h => ?_) (fun h => ?_) <;> first | (exfalso; omega) | ((try simp only [opRun, opSkip, stepRun, pickZ]); (try simp only [go_sem, h]))) | (refine and_om ?_ ?_; focus omega))
  all_goals try ((refine done_zero (by simp [EV.bel, allBelow]) ?_; rw [hV]); unfold escL; (repeat (first | rw [if_pos (by omega)] | rw [if_neg (by omega)])); try first | rfl | (simp only [pairE, u8of]; rfl); done)
  · have e1 : l.getD 1 0 = 34 := UInt8.toNat_inj.1 (show _ = 34 by omega)
    rw [take1 l 1 (by omega), e1]; rfl
  · have e1 : l.getD 1 0 = 92 := UInt8.toNat_inj.1 (show _ = 92 by omega)
    rw [take1 l 1 (by omega), e1]; rfl
  all_goals try (generalize hexOf (l.getD 2 0) = b2 at *; generalize digI (l.getD 2 0) = a2 at *; generalize hexOf (l.getD 3 0) = b3 at *; generalize digI (l.getD 3 0) = a3 at *)
  · rw [if_pos (by omega)]
    simp (disch := omega) only [shl4, or16, wrapU8E, u8of]
    rw [show a2 = b2 by omega, show a3 = b3 by omega]
    rfl
  · rw [if_neg (by omega)]; rfl
  · rw [if_neg (by omega)]; rfl
  · unfold bracedL; rw [if_pos (by omega)]; rfl
  · unfold bracedL; rw [if_pos (by omega)]; rfl
  · have hb : bracedL l = hexT (l.drop 3) 3 0 := by unfold bracedL; rw [if_neg (by omega)]
    rw [hb]
    rcases hx with ⟨rfl, hx⟩ | ⟨o, rfl, ho, hoe, hx⟩
    · rw [hexT_far _ _ _ (by omega) (fun j hj => ?_)]
      · rfl
      · rw [getD_drop]
        by_cases h3 : 3 + j < l.length
        · exact hx _ h3
        · rw [getD_ge _ _ (by omega)]; decide
    · have : o = 3 := by
        have n0 : o ≠ 0 := by rintro rfl; rw [hoe] at h92; exact absurd h92 (by decide)
        have n1 : o ≠ 1 := by rintro rfl; have : (l.getD 1 0).toNat = 125 := by rw [hoe]; rfl
                              omega
        have n2 : o ≠ 2 := by rintro rfl; have : (l.getD 2 0).toNat = 125 := by rw [hoe]; rfl
                              omega
        omega
      subst this
      rw [hexT_step l 3 ho 3 0, hoe, if_neg (by decide), if_neg (by simp)]
      rfl
  · have hb : bracedL l = hexT (l.drop 3) 3 0 := by unfold bracedL; rw [if_neg (by omega)]
    rw [hb]
    rcases hx with ⟨rfl, hx⟩ | ⟨o, rfl, ho, hoe, hx⟩
    · omega
    · rw [hexT_far _ _ _ (by omega) (fun j hj => by rw [getD_drop]; exact hx _ (by omega))]
      rfl
  have hb : bracedL l = hexT (l.drop 3) 3 0 := by unfold bracedL; rw [if_neg (by omega)]
  have hv : escL l = hexT (l.drop 3) 3 0 := by unfold escL; (repeat (first | rw [if_pos (by omega)] | rw [if_neg (by omega)])); exact hb
  rcases hx with ⟨rfl, hx⟩ | ⟨o, rfl, ho, hoe, hx⟩
  · omega
  rw [hv] at hV
  refine esem_loopS (fun z => [(0, .str l), (6, .int .i64 o), (8, .int .i64 z.1), (7, .int .i64 z.2)]) (fun z => []) (fun z => 0) (fun z => 3 ≤ z.1 ∧ z.1 ≤ o ∧ 0 ≤ z.2 ∧ z.2 < 16 ^ (z.1 - 3) ∧ hexT (l.drop z.1) z.1 z.2 = hexT (l.drop 3) 3 0) (fun z => l.length - z.1) (((3 : Nat), (0 : Int))) (fun z hz => ⟨by simp [frBel], by first | trivial | simp, by first | exact Nat.le_refl _ | exact Nat.zero_le _ | omega | (simp only []; omega)⟩) (by exact ⟨by simp, by simp only []; omega, by simp, by simp, rfl⟩) (by first | (simp only [go_sem, weakL]; done) | ((try simp only [go_sem, weakL]); ((repeat' apply And.intro) <;> (first | rfl | trivial | ((try simp only [EV.int.injEq, EV.str.injEq, EV.bool.injEq, EV.tuple.injEq, EV.slice.injEq, List.cons.injEq, true_and, and_true]); first | rfl | omega))))) (by first | trivial | (simp only [go_sem, lessL]; done) | ((try simp only [go_sem, lessL]); ((repeat' apply And.intro) <;> (first | rfl | trivial | ((try simp only [EV.int.injEq, EV.str.injEq, EV.bool.injEq, EV.tuple.injEq, EV.slice.injEq, List.cons.injEq, true_and, and_true]); first | rfl | omega))))) ?_
  rintro ⟨i, n⟩ ⟨z1, z2, z4, z5, z6⟩
  simp only at z1 z2 z4 z5 z6
  have hc := hexOf_spec (l.getD i 0)
  have hs := fun h => hexT_step l i h i n
  have hpw : (16 : Int) ^ (i - 3) ≤ 16777216 := by
    have : (16 : Int) ^ (i - 3) ≤ 16 ^ 6 := by exact_mod_cast Nat.pow_le_pow_right (by omega) (by omega)
    omega
  have hen : ∀ h0 : 0 ≤ n, okN n = true → _ := fun h0 h => encode_c G n h h0
  repeat' (first | refine esem_seqK 19808254867049122555027837949 ?_ | refine esem_block ?_ | (refine stp ?_; simp only [go_sem]) | (refine drawQ (id := 15) mixed [(0, []), (1, []), (3, []), (4, []), (2, []), (5, []), (6, []), (7, [])] (by kernel_rfl) ?_; simp only [go_sem]) | (refine Pure.at (hexidx_c _ _) (by simp) (by simp) rfl ?_; (try simp only [go_sem])) | (simp (disch := omega) only [shl4, or16, wrapI32E]) | (refine Eff.at2 (hen (by omega) (by simp only [okN, decide_eq_true_eq]; omega) ) [0] rfl (by first | (simp; done) | (simp; omega) | (simp [bC]; done) | omega) rfl ?_; (try simp only [go_sem])) | (simp (disch := omega) only [wE]) | (refine spl (fun h => ?_) (fun h => ?_) <;> first | (exfalso; omega) | ((try simp only [opRun, opSkip, stepRun, pickZ]); (try simp only [go_sem, h]))) | (refine and_om ?_ ?_; focus omega))
  · specialize hs (by omega)
    rw [z6, if_neg (by omega), if_neg (fun h => hx i (by omega) (UInt8.toNat_inj.1 h.1))] at hs
    (refine done_zero (by simp [EV.bel, allBelow]) ?_; rw [hV]); rw [hs]; rfl
  · specialize hs (by omega)
    rw [z6, if_pos (by omega), if_neg (by omega)] at hs
    (refine ⟨(i + 1, 16 * n + digI (l.getD i 0)), ?_, ?_, rfl, rfl, ?_, ?_⟩; rotate_left; (focus (first | omega | (simp only []; omega))); (focus (first | (simp only [go_sem, weakL]; done) | ((try simp only [go_sem, weakL]); ((repeat' apply And.intro) <;> (first | rfl | trivial | ((try simp only [EV.int.injEq, EV.str.injEq, EV.bool.injEq, EV.tuple.injEq, EV.slice.injEq, List.cons.injEq, true_and, and_true]); first | rfl | omega)))))); (focus (first | trivial | (simp only [go_sem, lessL]; done) | ((try simp only [go_sem, lessL]); ((repeat' apply And.intro) <;> (first | rfl | trivial | ((try simp only [EV.int.injEq, EV.str.injEq, EV.bool.injEq, EV.tuple.injEq, EV.slice.injEq, List.cons.injEq, true_and, and_true]); first | rfl | omega)))))); (try simp only []))
    have e : (16 : Int) ^ (i + 1 - 3) = 16 * 16 ^ (i - 3) := by rw [show i + 1 - 3 = (i - 3) + 1 by omega, Int.pow_succ]; omega
    exact ⟨by omega, by omega, by omega, by omega, hs.symm⟩
  all_goals
    have hio : i = o := by omega
    subst hio
    rw [hoe] at hs
    specialize hs (by omega)
    rw [z6, if_neg (by decide)] at hs
    first
    | (rw [if_neg (by simp only [okN, decide_eq_true_eq]; omega)] at hs; (refine done_zero (by simp [EV.bel, allBelow]) ?_; rw [hV]); rw [hs]; rfl)
    | (rw [if_pos ⟨by decide, by omega, by simp only [okN, decide_eq_true_eq]; omega⟩] at hs; (refine done_zero (by simp [EV.bel, allBelow]) ?_; rw [hV]); rw [hs]; simp)
end Go.Proofs.YtnjbdcdjcfhooaaGreatDoor
namespace Go.Proofs.YtnjbdcdjcfhooaaGreatDoor
open Go.E
set_option linter.all false
set_option maxRecDepth 20000
set_option maxHeartbeats 4000000
theorem hexT_len : ∀ (l : List UInt8) (k : Nat) (n : Int), 3 ≤ k → (hexT l k n).1.length ≤ (hexT l k n).2 ∧ (hexT l k n).2 ≤ k + l.length
  | [], _, _, _ => by simp [hexT]
  | c :: r, k, n, hk => by
    rw [hexT]
    split
    · split
      · simp
      · have := hexT_len r (k + 1) (16 * n + digI c) (by omega); simp only [List.length_cons]; omega
    · split
      · simp only [List.length_cons]
        refine ⟨?_, by omega⟩
        have : (encE n).length ≤ 4 := by
          simp only [encE, Utf8.encode]
          repeat' split
          all_goals simp
        omega
      · simp
theorem escL_len (l : List UInt8) : (escL l).1.length ≤ (escL l).2 ∧ (escL l).2 ≤ l.length := by
  unfold escL
  repeat' split
  all_goals (try (simp only [List.length_cons, List.length_nil]; omega))
  unfold bracedL
  split
  · simp
  · have := hexT_len (l.drop 3) 3 0 (by omega)
    simp only [List.length_drop] at this
    omega
theorem encE_pos (n : Int) : 0 < (encE n).length := by
  simp only [encE, Utf8.encode]
  repeat' split
  all_goals simp
theorem hexT_pos : ∀ (l : List UInt8) (k : Nat) (n : Int), (hexT l k n).2 ≠ 0 → 0 < (hexT l k n).1.length
  | [], _, _ => by simp [hexT]
  | c :: r, k, n => by
    rw [hexT]
    split
    · split
      · simp
      · exact hexT_pos r _ _
    · split
      · intro _; exact encE_pos n
      · simp
theorem escL_pos (l : List UInt8) : (escL l).2 ≠ 0 → 0 < (escL l).1.length := by
  unfold escL
  repeat' split
  all_goals (try simp)
  unfold bracedL
  split
  · simp
  · exact hexT_pos _ _ _
def quoG (s : List UInt8) (i : Nat) (out : List UInt8) : List UInt8 × Nat × Bool :=
  if h : i < s.length then
    if (s.getD i 0).toNat = 34 then (out, i + 1, true)
    else if (s.getD i 0).toNat = 92 then
      if hn : (escL (s.drop i)).2 = 0 then ([], i, false) else quoG s (i + (escL (s.drop i)).2) (out ++ (escL (s.drop i)).1)
    else if rightB (s.drop i) = true ∧ plainB ((decE (s.drop i)).1 : Nat) = true then quoG s (i + (decE (s.drop i)).2) (out ++ (s.drop i).take (decE (s.drop i)).2)
    else ([], i, false)
  else ([], s.length, false)
termination_by s.length - i
decreasing_by
  · omega
  · have := decE_pos (s.drop i); omega
abbrev quoE (p : List UInt8 × Nat × Bool) : EV := .tuple [.str p.1, .int .i64 p.2.1, .bool p.2.2]
theorem quoG_step {s : List UInt8} {i : Nat} {out : List UInt8} (h : i < s.length) : quoG s i out =
    if (s.getD i 0).toNat = 34 then (out, i + 1, true)
    else if (s.getD i 0).toNat = 92 then
      if (escL (s.drop i)).2 = 0 then ([], i, false) else quoG s (i + (escL (s.drop i)).2) (out ++ (escL (s.drop i)).1)
    else if rightB (s.drop i) = true ∧ plainB ((decE (s.drop i)).1 : Nat) = true then quoG s (i + (decE (s.drop i)).2) (out ++ (s.drop i).take (decE (s.drop i)).2)
    else ([], i, false) := by
  rw [quoG, dif_pos h]
  simp only [dite_eq_ite]
theorem quoG_end {s : List UInt8} {i : Nat} {out : List UInt8} (h : s.length ≤ i) : quoG s i out = ([], s.length, false) := by
  rw [quoG, dif_neg (by omega)]
end Go.Proofs.YtnjbdcdjcfhooaaGreatDoor
namespace Go.Proofs.YtnjbdcdjcfhooaaGreatDoor
open Go.E
set_option linter.all false
set_option maxRecDepth 20000
set_option maxHeartbeats 4000000
def bldB (i j : Nat) (l : List UInt8) : List (Nat × EO) := if l.length = 0 then [(i, bld none (.slice none 0 0))] else full i j l
theorem bldB_nil (i j : Nat) : bldB i j [] = [(i, bld none (.slice none 0 0))] := rfl
theorem bldB_pos {i j : Nat} {l : List UInt8} (h : 0 < l.length) : bldB i j l = full i j l := by unfold bldB; rw [if_neg (by omega)]
theorem bldB_below {i j k : Nat} {l : List UInt8} (hi : i < k) (hj : j < k) : blBelow k (bldB i j l) := by
  unfold bldB
  split <;> simp [blBelow, EO.bel, allBelow, EV.bel, hi, hj]
theorem quoted_c (G : List Gl) (t u : TypeId) (h3 : gFirst t ∈ G) (h4 : gAcc u ∈ G) (l : List UInt8) (h63 : l.length ≤ 1000000000000) : E.Pure G Tryz.prog 58 [.str l] (quoE (quoG l 1 [])) := by
  refine pure_hid fun V hV => ?_
  refine ecalls_in 69 [.tmp 2, .tmp 3, .tmp 4] Tryz.func58 rfl rfl rfl (by kernel_rfl) (le_ble rfl) ?_
  refine esem_seqK 1023 ?_
  refine esem_reg ?_
  simp only [go_sem]
  refine esem_scopeU (y := _) 0 0 (fun z : Nat × Nat × List UInt8 => [(0, .str l), (5, .ptr (some ⟨0, 0⟩)), (6, .int .i64 z.1)]) (fun z : Nat × Nat × List UInt8 => bldB 0 (z.2.1 + 1) z.2.2) (fun z : Nat × Nat × List UInt8 => z.2.1 + 2) (fun z : Nat × Nat × List UInt8 => 1 ≤ z.1 ∧ z.2.2.length ≤ z.1 ∧ z.1 ≤ l.length + 1 ∧ quoG l z.1 z.2.2 = quoG l 1 []) (fun z : Nat × Nat × List UInt8 => l.length - z.1 + 1) (l.length + 2) rfl (fun z hz => ⟨by simp [frBel, EV.bel, allBelow], bldB_below (by omega) (by omega), by omega⟩) (fun hfirst => ?_) ?_
  · repeat' (first | (refine hfirst _ _ ?_) | refine esem_seqK 144115256865624061 ?_ | refine esem_block ?_ | (refine stp ?_; simp only [go_sem]) | (refine inlH_go (rest := _) rfl (by decide) ?_) | (simp (disch := omega) only [wE]) | (refine spl (fun h => ?_) (fun h => ?_) <;> first | (exfalso; omega) | ((try simp only [opRun, opSkip, stepRun, pickZ]); (try simp only [go_sem, h]))) | (refine and_om ?_ ?_; focus omega))
    have hp : bldB 0 1 [] = [(0, bld none (.slice none 0 0))] := rfl
    (refine ⟨((1 : Nat), (0 : Nat), ([] : List UInt8)), ?_, ?_, rfl, rfl, ?_, ?_⟩; rotate_left; (focus (first | omega | (simp only []; omega))); (focus (first | (simp only [go_sem, weakL, hp]; done) | ((try simp only [go_sem, weakL, hp]); ((repeat' apply And.intro) <;> (first | rfl | trivial | ((try simp only [EV.int.injEq, EV.str.injEq, EV.bool.injEq, EV.tuple.injEq, EV.slice.injEq, List.cons.injEq, true_and, and_true]); first | rfl | omega)))))); (focus (first | trivial | (simp only [go_sem, lessL, hp]; done) | ((try simp only [go_sem, lessL, hp]); ((repeat' apply And.intro) <;> (first | rfl | trivial | ((try simp only [EV.int.injEq, EV.str.injEq, EV.bool.injEq, EV.tuple.injEq, EV.slice.injEq, List.cons.injEq, true_and, and_true]); first | rfl | omega)))))); (try simp only []))
    exact ⟨Nat.le_refl _, Nat.zero_le _, by omega, trivial⟩
  rintro ⟨i, b, out⟩ ⟨z1, z2, z3, z4⟩
  simp only at z1 z2 z3 z4
  simp only []
  have hs := fun h => quoG_step (s := l) (i := i) (out := out) h
  have he := escL_len (l.drop i)
  rw [List.length_drop] at he
  have hd := decE_pos (l.drop i)
  have hd2 : i < l.length → (decE (l.drop i)).2 ≤ l.length - i := fun h => by have := decE_le (l.drop i) (by rw [List.length_drop]; omega); rwa [List.length_drop] at this
  have ht : i < l.length → ((l.drop i).take (decE (l.drop i)).2).length = (decE (l.drop i)).2 := fun h => by rw [List.length_take, List.length_drop, Nat.min_eq_left (hd2 h)]
  have hx := escL_pos (l.drop i)
  have hes : (l.getD i 0).toNat = 92 → _ := fun h => escaped_c G (l.drop i) (by rw [List.length_drop]; omega) (by rw [getD_drop]; simpa using h)
  have hfi := fun (h : i < l.length) => first_c G t u h3 h4 (l.drop i) (by rw [List.length_drop]; omega)
  generalize hwd : (l.drop i).take (decE (l.drop i)).2 = wd at ht hs
  by_cases ho : out.length = 0
  · obtain rfl : out = [] := List.eq_nil_of_length_eq_zero ho
    simp only [bldB_nil]
    repeat' (first | refine esem_seqK 144115256865624061 ?_ | refine esem_block ?_ | (refine stp ?_; simp only [go_sem]) | (refine inlH_go (rest := _) rfl (by decide) ?_) | (refine Pure.at (hes (by omega)) (by simp) (by simp) rfl ?_; (try simp only [go_sem])) | (refine Pure.at (hfi (by omega)) (by simp) (by simp) rfl ?_; (try simp only [go_sem])) | (refine Pure.at (plain_c _ _) (by simp) (by simp) rfl ?_; (try simp only [go_sem])) | (simp only [toNat_addE, add_sub_selfE, hwd]) | (refine Eff.at2 (str_nil _ none (.inl rfl) ) [0] rfl (by first | (simp; done) | (simp; omega) | (simp [bC]; done) | omega) rfl ?_; (try simp only [go_sem])) | (refine Eff.at2 (ws_new _ (escL (l.drop i)).1 (by omega) (by omega) ) [0] rfl (by first | (simp; done) | (simp; omega) | (simp [bC]; done) | omega) rfl ?_; (try simp only [go_sem])) | (refine Eff.at2 (ws_new _ wd (by omega) (by omega) ) [0] rfl (by first | (simp; done) | (simp; omega) | (simp [bC]; done) | omega) rfl ?_; (try simp only [go_sem])) | (simp (disch := omega) only [wE]) | (refine spl (fun h => ?_) (fun h => ?_) <;> first | (exfalso; omega) | ((try simp only [opRun, opSkip, stepRun, pickZ]); (try simp only [go_sem, h]))) | (refine and_om ?_ ?_; focus omega))
    all_goals first
      | ((refine done_zero (by simp [EV.bel, allBelow]) ?_; rw [hV]); specialize hs (by omega); rw [z4] at hs; rw [hs]; (repeat (first | rw [if_pos (by omega)] | rw [if_neg (by omega)])); first | done | (rfl; done))
      | ((refine done_zero (by simp [EV.bel, allBelow]) ?_; rw [hV]); rw [← z4, quoG_end (by omega)]; done)
      | ((refine done_zero (by simp [EV.bel, allBelow]) ?_; rw [hV]); specialize hs (by omega); rw [z4] at hs; rw [hs, if_neg (by omega), if_neg (by omega), if_neg (by simp_all)]; done)
      | (specialize hs (by omega); rw [z4, if_neg (by omega), if_pos (by omega), if_neg (by omega)] at hs
         have hp := bldB_pos (i := 0) (j := b + 2) (l := ([] : List UInt8) ++ (escL (l.drop i)).1) (by rw [List.length_append]; omega)
         simp only [List.nil_append] at hp
         (refine ⟨(i + (escL (l.drop i)).2, b + 1, ([] : List UInt8) ++ (escL (l.drop i)).1), ?_, ?_, rfl, rfl, ?_, ?_⟩; rotate_left; (focus (first | omega | (simp only []; omega))); (focus (first | (simp only [go_sem, weakL, hp, List.nil_append]; done) | ((try simp only [go_sem, weakL, hp, List.nil_append]); ((repeat' apply And.intro) <;> (first | rfl | trivial | ((try simp only [EV.int.injEq, EV.str.injEq, EV.bool.injEq, EV.tuple.injEq, EV.slice.injEq, List.cons.injEq, true_and, and_true]); first | rfl | omega)))))); (focus (first | trivial | (simp only [go_sem, lessL, hp, List.nil_append]; done) | ((try simp only [go_sem, lessL, hp, List.nil_append]); ((repeat' apply And.intro) <;> (first | rfl | trivial | ((try simp only [EV.int.injEq, EV.str.injEq, EV.bool.injEq, EV.tuple.injEq, EV.slice.injEq, List.cons.injEq, true_and, and_true]); first | rfl | omega)))))); (try simp only []))
         refine ⟨?_, ?_, ?_, ?_⟩; · omega
         · rw [List.length_append]; (try simp only [List.length_nil]); omega
         · omega
         · rw [← hs])
      | (specialize hs (by omega); rw [z4, if_neg (by omega), if_neg (by omega), if_pos (by simp_all)] at hs
         have hp := bldB_pos (i := 0) (j := b + 2) (l := ([] : List UInt8) ++ wd) (by rw [List.length_append]; omega)
         simp only [List.nil_append] at hp
         (refine ⟨(i + (decE (l.drop i)).2, b + 1, ([] : List UInt8) ++ wd), ?_, ?_, rfl, rfl, ?_, ?_⟩; rotate_left; (focus (first | omega | (simp only []; omega))); (focus (first | (simp only [go_sem, weakL, hp, List.nil_append]; done) | ((try simp only [go_sem, weakL, hp, List.nil_append]); ((repeat' apply And.intro) <;> (first | rfl | trivial | ((try simp only [EV.int.injEq, EV.str.injEq, EV.bool.injEq, EV.tuple.injEq, EV.slice.injEq, List.cons.injEq, true_and, and_true]); first | rfl | omega)))))); (focus (first | trivial | (simp only [go_sem, lessL, hp, List.nil_append]; done) | ((try simp only [go_sem, lessL, hp, List.nil_append]); ((repeat' apply And.intro) <;> (first | rfl | trivial | ((try simp only [EV.int.injEq, EV.str.injEq, EV.bool.injEq, EV.tuple.injEq, EV.slice.injEq, List.cons.injEq, true_and, and_true]); first | rfl | omega)))))); (try simp only []))
         refine ⟨?_, ?_, ?_, ?_⟩; · omega
         · rw [List.length_append]; (try simp only [List.length_nil]); omega
         · omega
         · rw [← hs])
  · rw [bldB_pos (by omega)]
    repeat' (first | refine esem_seqK 144115256865624061 ?_ | refine esem_block ?_ | (refine stp ?_; simp only [go_sem]) | (refine inlH_go (rest := _) rfl (by decide) ?_) | (refine Pure.at (hes (by omega)) (by simp) (by simp) rfl ?_; (try simp only [go_sem])) | (refine Pure.at (hfi (by omega)) (by simp) (by simp) rfl ?_; (try simp only [go_sem])) | (refine Pure.at (plain_c _ _) (by simp) (by simp) rfl ?_; (try simp only [go_sem])) | (simp only [toNat_addE, add_sub_selfE, hwd]) | (refine Eff.at2 (str_full _ out (by omega) (by omega) ) [0, b + 1] rfl (by first | (simp; done) | (simp; omega) | (simp [bC]; done) | omega) rfl ?_; (try simp only [go_sem])) | (refine Eff.at2 (ws_full _ out (escL (l.drop i)).1 (by omega) (by omega) ) [0, b + 1] rfl (by first | (simp; done) | (simp; omega) | (simp [bC]; done) | omega) rfl ?_; (try simp only [go_sem])) | (refine Eff.at2 (ws_full _ out wd (by omega) (by omega) ) [0, b + 1] rfl (by first | (simp; done) | (simp; omega) | (simp [bC]; done) | omega) rfl ?_; (try simp only [go_sem])) | (simp (disch := omega) only [wE]) | (refine spl (fun h => ?_) (fun h => ?_) <;> first | (exfalso; omega) | ((try simp only [opRun, opSkip, stepRun, pickZ]); (try simp only [go_sem, h]))) | (refine and_om ?_ ?_; focus omega))
    all_goals first
      | ((refine done_zero (by simp [EV.bel, allBelow]) ?_; rw [hV]); specialize hs (by omega); rw [z4] at hs; rw [hs]; (repeat (first | rw [if_pos (by omega)] | rw [if_neg (by omega)])); first | done | (rfl; done))
      | ((refine done_zero (by simp [EV.bel, allBelow]) ?_; rw [hV]); rw [← z4, quoG_end (by omega)]; done)
      | ((refine done_zero (by simp [EV.bel, allBelow]) ?_; rw [hV]); specialize hs (by omega); rw [z4] at hs; rw [hs, if_neg (by omega), if_neg (by omega), if_neg (by simp_all)]; done)
      | (specialize hs (by omega); rw [z4, if_neg (by omega), if_pos (by omega), if_neg (by omega)] at hs
         have hp := bldB_pos (i := 0) (j := b + 2) (l := out ++ (escL (l.drop i)).1) (by rw [List.length_append]; omega)
         (refine ⟨(i + (escL (l.drop i)).2, b + 1, out ++ (escL (l.drop i)).1), ?_, ?_, rfl, rfl, ?_, ?_⟩; rotate_left; (focus (first | omega | (simp only []; omega))); (focus (first | (simp only [go_sem, weakL, hp, List.nil_append]; done) | ((try simp only [go_sem, weakL, hp, List.nil_append]); ((repeat' apply And.intro) <;> (first | rfl | trivial | ((try simp only [EV.int.injEq, EV.str.injEq, EV.bool.injEq, EV.tuple.injEq, EV.slice.injEq, List.cons.injEq, true_and, and_true]); first | rfl | omega)))))); (focus (first | trivial | (simp only [go_sem, lessL, hp, List.nil_append]; done) | ((try simp only [go_sem, lessL, hp, List.nil_append]); ((repeat' apply And.intro) <;> (first | rfl | trivial | ((try simp only [EV.int.injEq, EV.str.injEq, EV.bool.injEq, EV.tuple.injEq, EV.slice.injEq, List.cons.injEq, true_and, and_true]); first | rfl | omega)))))); (try simp only []))
         refine ⟨?_, ?_, ?_, ?_⟩; · omega
         · rw [List.length_append]; (try simp only [List.length_nil]); omega
         · omega
         · rw [← hs])
      | (specialize hs (by omega); rw [z4, if_neg (by omega), if_neg (by omega), if_pos (by simp_all)] at hs
         have hp := bldB_pos (i := 0) (j := b + 2) (l := out ++ wd) (by rw [List.length_append]; omega)
         (refine ⟨(i + (decE (l.drop i)).2, b + 1, out ++ wd), ?_, ?_, rfl, rfl, ?_, ?_⟩; rotate_left; (focus (first | omega | (simp only []; omega))); (focus (first | (simp only [go_sem, weakL, hp, List.nil_append]; done) | ((try simp only [go_sem, weakL, hp, List.nil_append]); ((repeat' apply And.intro) <;> (first | rfl | trivial | ((try simp only [EV.int.injEq, EV.str.injEq, EV.bool.injEq, EV.tuple.injEq, EV.slice.injEq, List.cons.injEq, true_and, and_true]); first | rfl | omega)))))); (focus (first | trivial | (simp only [go_sem, lessL, hp, List.nil_append]; done) | ((try simp only [go_sem, lessL, hp, List.nil_append]); ((repeat' apply And.intro) <;> (first | rfl | trivial | ((try simp only [EV.int.injEq, EV.str.injEq, EV.bool.injEq, EV.tuple.injEq, EV.slice.injEq, List.cons.injEq, true_and, and_true]); first | rfl | omega)))))); (try simp only []))
         refine ⟨?_, ?_, ?_, ?_⟩; · omega
         · rw [List.length_append]; (try simp only [List.length_nil]); omega
         · omega
         · rw [← hs])
end Go.Proofs.YtnjbdcdjcfhooaaGreatDoor
