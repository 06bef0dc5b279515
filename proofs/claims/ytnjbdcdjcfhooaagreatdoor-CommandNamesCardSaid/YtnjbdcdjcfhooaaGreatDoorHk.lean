/-
  Own work: walks and laws of the functions that the statement reaches; the statement itself stands in the last text.
-/
import Derived.Test.YtnjbdcdjcfhooaaGreatDoorHj
import Derived.Test.YtnjbdcdjcfhooaaGreatDoorHh
import Derived.Lib.Join
namespace Go.Proofs.YtnjbdcdjcfhooaaGreatDoor
open Go.E
set_option linter.all false
set_option maxRecDepth 20000
set_option maxHeartbeats 4000000
def wordB (s : List UInt8) : Bool := decide (s ≠ []) && decide (isNum s = none) && s.all runB
def prT (t : Tok) : Option (List UInt8) :=
  if t.kind = 1 then (if wordB t.text = true ∧ t.num = 0 then some t.text else none)
  else if t.kind = 2 then (if t.text = [] then some (Lib.itoa t.num) else none)
  else if t.kind = 3 then (if t.num = 0 then some (quoteL t.text) else none)
  else none
def strip (t : Tok) : Tok := {t with at_ := 0}
def numT (n : Int) : Tok := ⟨2, 0, [], n.toNat⟩
def nameT (s : List UInt8) : Tok := ⟨if wordB s = true then 1 else 3, 0, s, 0⟩
def shownT (ws : List (List UInt8)) (n : Int) : Tok := if 0 ≤ n ∧ n < ws.length ∧ ws.getD n.toNat [] ≠ [] then ⟨1, 0, ws.getD n.toNat [], 0⟩ else numT n
def argT (c : Cmd) (a : UInt8) : Tok :=
  if a.toNat = 100 then nameT c.doc else if a.toNat = 120 then nameT c.text else if a.toNat = 113 then ⟨3, 0, c.text, 0⟩ else if a.toNat = 105 then numT c.id else
  if a.toNat = 102 then numT c.frm else if a.toNat = 116 then numT c.to else if a.toNat = 103 then shownT gravL c.grav else shownT motL c.frm
def wordOf (k : Nat) : List UInt8 := (refL.getD k ([], [])).1
def argL (c : Cmd) : List UInt8 := if c.kind = 22 ∧ c.doc = [] then [] else argsOf c.kind.toNat
def toksOf (c : Cmd) : List Tok := ⟨1, 0, wordOf c.kind.toNat, 0⟩ :: (argL c).map (argT c)
def hasB (A : List UInt8) (n : Nat) : Bool := A.any fun a => decide (a.toNat = n)
def zOK (A : List UInt8) (c : Cmd) : Prop := (hasB A 100 = true ∨ c.doc = []) ∧ (hasB A 105 = true ∨ c.id = 0) ∧ ((hasB A 102 = true ∨ hasB A 109 = true) ∨ c.frm = 0) ∧ (hasB A 116 = true ∨ c.to = 0) ∧ ((hasB A 120 = true ∨ hasB A 113 = true) ∨ c.text = []) ∧ (hasB A 103 = true ∨ c.grav = 0)
instance (A : List UInt8) (c : Cmd) : Decidable (zOK A c) := by unfold zOK; infer_instance
def rOK (c : Cmd) : Prop := (0 ≤ c.id ∧ c.id ≤ 4294967295) ∧ (0 ≤ c.grav ∧ c.grav ≤ 255) ∧ (0 ≤ c.frm ∧ c.frm ≤ 9223372036854775807) ∧ 0 ≤ c.to ∧ c.to ≤ 9223372036854775807
instance (c : Cmd) : Decidable (rOK c) := by unfold rOK; infer_instance
def okC (c : Cmd) : Prop := (1 ≤ c.kind ∧ c.kind ≤ 22) ∧ zOK (argsOf c.kind.toNat) c ∧ rOK c
instance (c : Cmd) : Decidable (okC c) := by unfold okC; infer_instance
def setF (c x : Cmd) (a : UInt8) : Cmd :=
  if a.toNat = 100 then {x with doc := c.doc} else if a.toNat = 120 then {x with text := c.text} else if a.toNat = 113 then {x with text := c.text} else if a.toNat = 105 then {x with id := c.id} else
  if a.toNat = 102 then {x with frm := c.frm} else if a.toNat = 116 then {x with to := c.to} else if a.toNat = 103 then {x with grav := c.grav} else {x with frm := c.frm}
def setAll (A : List UInt8) (c x : Cmd) : Cmd := ⟨x.kind, if hasB A 100 = true then c.doc else x.doc, if hasB A 105 = true then c.id else x.id, if hasB A 102 = true ∨ hasB A 109 = true then c.frm else x.frm, if hasB A 116 = true then c.to else x.to, if hasB A 120 = true ∨ hasB A 113 = true then c.text else x.text, if hasB A 103 = true then c.grav else x.grav⟩
theorem hasB_cons (a : UInt8) (A : List UInt8) (n : Nat) : hasB (a :: A) n = (decide (a.toNat = n) || hasB A n) := rfl
theorem fold_set (c : Cmd) : ∀ (A : List UInt8) (x : Cmd), (∀ a ∈ A, letter a) → A.foldl (setF c) x = setAll A c x
  | [], x, _ => rfl
  | a :: A, x, h => by
    rw [List.foldl_cons, fold_set c A _ fun b hb => h b (.tail _ hb)]
    have ha := h a (.head _)
    unfold setAll
    simp only [hasB_cons]
    rcases ha with ha | ha | ha | ha | ha | ha | ha | ha <;> simp only [setF, ha, Nat.reduceEqDiff, if_true, if_false, decide_true, decide_false, Bool.true_or, Bool.false_or, true_or, or_true]
    all_goals first | rfl | (cases hasB A 100 <;> cases hasB A 105 <;> cases hasB A 102 <;> cases hasB A 109 <;> cases hasB A 116 <;> cases hasB A 120 <;> cases hasB A 113 <;> cases hasB A 103 <;> rfl)
theorem set_iff (A : List UInt8) (c : Cmd) : setAll A c ⟨c.kind, [], 0, 0, 0, [], 0⟩ = c ↔ zOK A c := by
  obtain ⟨k, d, i, f, t, x, g⟩ := c
  simp only [setAll, zOK, Cmd.mk.injEq, true_and]
  cases hasB A 100 <;> cases hasB A 105 <;> cases hasB A 102 <;> cases hasB A 109 <;> cases hasB A 116 <;> cases hasB A 120 <;> cases hasB A 113 <;> cases hasB A 103 <;> simp [eq_comm]
theorem grav_word {n : Int} (h0 : 0 ≤ n) (h1 : n < 2) : findS gravL (gravL.getD n.toNat []) = n ∧ gravL.getD n.toNat [] ≠ [] ∧ wordB (gravL.getD n.toNat []) = true := by
  have : n = 0 ∨ n = 1 := by omega
  rcases this with rfl | rfl <;> decide
theorem mot_word {n : Int} (h0 : 1 ≤ n) (h1 : n < 9) : findS motL (motL.getD n.toNat []) = n ∧ motL.getD n.toNat [] ≠ [] ∧ wordB (motL.getD n.toNat []) = true := by
  have : n = 1 ∨ n = 2 ∨ n = 3 ∨ n = 4 ∨ n = 5 ∨ n = 6 ∨ n = 7 ∨ n = 8 := by omega
  rcases this with rfl | rfl | rfl | rfl | rfl | rfl | rfl | rfl <;> decide
theorem shown_grav (n : Int) (h0 : 0 ≤ n) : shownT gravL n = if n < 2 then ⟨1, 0, gravL.getD n.toNat [], 0⟩ else numT n := by
  unfold shownT
  have e : (gravL.length : Int) = 2 := rfl
  rw [e]
  by_cases h : n < 2
  · rw [if_pos h, if_pos ⟨h0, h, (grav_word h0 h).2.1⟩]
  · rw [if_neg h, if_neg (fun x => h x.2.1)]
theorem shown_mot (n : Int) (h0 : 0 ≤ n) : shownT motL n = if 1 ≤ n ∧ n < 9 then ⟨1, 0, motL.getD n.toNat [], 0⟩ else numT n := by
  unfold shownT
  have e : (motL.length : Int) = 9 := rfl
  rw [e]
  by_cases h : 1 ≤ n ∧ n < 9
  · rw [if_pos h, if_pos ⟨h0, h.2, (mot_word h.1 h.2).2.1⟩]
  · rw [if_neg h, if_neg]
    rintro ⟨h1, h2, h3⟩
    have : n = 0 := by omega
    subst this
    exact h3 rfl
theorem putS_strip (x : Cmd) (a : UInt8) (t : Tok) : putS x a (strip t) = putS x a t := rfl
theorem putS_arg {a : UInt8} (ha : letter a) {c : Cmd} (hr : rOK c) (x : Cmd) {t : Tok} (ht : strip t = argT c a) : putS x a t = (setF c x a, true) := by
  rw [← putS_strip, ht]
  obtain ⟨r1, r2, r3, r4⟩ := hr
  have hn : ∀ s, (nameT s).kind = 1 ∨ (nameT s).kind = 3 := fun s => by unfold nameT; simp only; split <;> simp
  rcases ha with ha | ha | ha | ha | ha | ha | ha | ha <;> simp only [putS, argT, setF, ha, Nat.reduceEqDiff, if_true, if_false, Prod.mk.injEq]
  · exact ⟨rfl, decide_eq_true (hn _)⟩
  · exact ⟨rfl, decide_eq_true (hn _)⟩
  · exact ⟨trivial, by decide⟩
  · refine ⟨?_, ?_⟩
    · simp only [numT, IntKind.wrap_u32]; congr 1; omega
    · exact decide_eq_true ⟨rfl, by show c.id.toNat < 4294967296; omega⟩
  · refine ⟨?_, by simp [numT]⟩
    simp only [numT]; congr 1; omega
  · refine ⟨?_, by simp [numT]⟩
    simp only [numT]; congr 1; omega
  · rw [shown_grav _ r2.1]
    by_cases h : c.grav < 2
    · have := grav_word r2.1 h
      rw [if_pos h]
      simp only [if_true, this.1]
      refine Prod.ext ?_ (decide_eq_true r2.1)
      simp only [IntKind.wrap_u8]; congr 1; omega
    · rw [if_neg h]
      simp only [numT, Nat.reduceEqDiff, if_false, true_and]
      refine Prod.ext ?_ (decide_eq_true (by omega))
      simp only [IntKind.wrap_u8]; congr 1; omega
  · rw [shown_mot _ r3.1]
    by_cases h : 1 ≤ c.frm ∧ c.frm < 9
    · have := mot_word h.1 h.2
      rw [if_pos h]
      simp only [if_true, this.1]
      exact Prod.ext rfl (decide_eq_true r3.1)
    · rw [if_neg h]
      simp only [numT, Nat.reduceEqDiff, if_false]
      refine Prod.ext ?_ (by simp)
      simp only; congr 1; omega
theorem letters_all : ∀ k : Fin 23, ∀ a ∈ argsOf k.1, letter a := by
  intro k; revert k; unfold letter; decide
theorem letters_of (k : Nat) (hk : k ≤ 22) : ∀ a ∈ argsOf k, letter a := letters_all ⟨k, by omega⟩
theorem strip_argT (c : Cmd) (a : UInt8) : strip (argT c a) = argT c a := by
  unfold argT
  have : ∀ ws n, strip (shownT ws n) = shownT ws n := fun ws n => by unfold shownT; split <;> rfl
  repeat' split
  all_goals first | rfl | exact this _ _
theorem toks_arg (c : Cmd) (j : Nat) (h : j < (argL c).length) : tokAt (toksOf c) (j + 1) = argT c (argL c)[j] := by
  simp [tokAt, toksOf, List.getD_eq_getElem?_getD, h]
def prA (t : Tok) : List UInt8 := (prT t).getD []
def lineOf (c : Cmd) : List UInt8 := Lib.join ((toksOf c).map prA) [32]
def printP (c : Cmd) : List UInt8 × Nat := if okC c then (if (lineOf c).length ≤ 16384 then (lineOf c, 0) else ([], 4)) else ([], 260)
theorem name_pr (s : List UInt8) : (prT (nameT s)).isSome = true := by
  unfold nameT prT
  by_cases h : wordB s = true
  · simp [h]
  · simp [h]
theorem num_pr (n : Int) : (prT (numT n)).isSome = true := by simp [numT, prT]
theorem arg_pr {c : Cmd} (hr : rOK c) {a : UInt8} (ha : letter a) : (prT (argT c a)).isSome = true := by
  obtain ⟨r1, r2, r3, r4⟩ := hr
  rcases ha with ha | ha | ha | ha | ha | ha | ha | ha <;> simp only [argT, ha, Nat.reduceEqDiff, if_true, if_false]
  · exact name_pr _
  · exact name_pr _
  · simp [prT]
  · exact num_pr _
  · exact num_pr _
  · exact num_pr _
  · rw [shown_grav _ r2.1]
    split
    · rename_i h
      have hw := (grav_word r2.1 h).2.2
      unfold prT
      rw [if_pos rfl, if_pos ⟨hw, rfl⟩]; rfl
    · exact num_pr _
  · rw [shown_mot _ r3.1]
    split
    · rename_i h
      have hw := (mot_word h.1 h.2).2.2
      unfold prT
      rw [if_pos rfl, if_pos ⟨hw, rfl⟩]; rfl
    · exact num_pr _
theorem word_pr : ∀ k : Fin 23, 1 ≤ k.1 → wordB (wordOf k.1) = true := by decide
theorem argL_letters {c : Cmd} (hk : c.kind ≤ 22) : ∀ a ∈ argL c, letter a := by
  unfold argL
  split
  · simp
  · exact letters_of _ (by omega)
theorem toks_pr {c : Cmd} (hc : okC c) : ∀ t ∈ toksOf c, (prT t).isSome = true := by
  obtain ⟨hk, hz, hr⟩ := hc
  intro t ht
  unfold toksOf at ht
  rw [List.mem_cons] at ht
  rcases ht with rfl | ht
  · have := word_pr ⟨c.kind.toNat, by omega⟩ (by show 1 ≤ c.kind.toNat; omega)
    simp only at this
    simp [prT, this]
  · obtain ⟨a, ha, rfl⟩ := List.mem_map.1 ht
    exact arg_pr hr (argL_letters hk.2 a ha)
theorem num_le {c : Cmd} (hc : okC c) : ∀ t ∈ toksOf c, t.num ≤ 9223372036854775807 := by
  obtain ⟨hk, hz, r1, r2, r3, r4⟩ := hc
  intro t ht
  unfold toksOf at ht
  rw [List.mem_cons] at ht
  rcases ht with rfl | ht
  · simp
  · obtain ⟨a, ha, rfl⟩ := List.mem_map.1 ht
    unfold argT
    have hs : ∀ ws n, n ≤ 9223372036854775807 → (shownT ws n).num ≤ 9223372036854775807 := fun ws n h => by
      unfold shownT
      split
      · simp
      · simp only [numT]; omega
    repeat' split
    all_goals first | (simp [nameT]; done) | (simp; done) | (exact hs _ _ (by omega)) | (simp only [numT]; omega)
end Go.Proofs.YtnjbdcdjcfhooaaGreatDoor
namespace Go.Proofs.YtnjbdcdjcfhooaaGreatDoor
open Go.E
set_option linter.all false
set_option maxRecDepth 20000
set_option maxHeartbeats 8000000
theorem and15 {x : Int} (h0 : 0 ≤ x) (h1 : x ≤ 255) : andI .u8 x 15 = x % 16 := andI_mask 4 h0 (by simp [IntKind.max, IntKind.signed, IntKind.bits]; omega) (by decide) (by decide)
theorem shr4 (x : Int) : shrI .u8 x 4 = x / 16 := by rw [shrI_div (by decide)]; rfl
theorem toNat_div16 (a : Nat) : ((a : Int) / 16).toNat = a / 16 := by omega
theorem toNat_mod16 (a : Nat) : ((a : Int) % 16).toNat = a % 16 := by omega
theorem hexfold : [48, 49, 50, 51, 52, 53, 54, 55, 56, 57, 97, 98, 99, 100, 101, 102] = hexD := rfl
theorem bq34 : bytesE [92, 34] = bytesE [92] ++ bytesE [34] := rfl
theorem bq92 : bytesE [92, 92] = bytesE [92] ++ bytesE [92] := rfl
theorem bx2 (a b : UInt8) : bytesE (92 :: 120 :: [a, b]) = bytesE [92, 120] ++ (bytesE [a] ++ bytesE [b]) := rfl
theorem bu2 (x : List UInt8) : bytesE (92 :: 117 :: 123 :: (x ++ [125])) = bytesE [92, 117, 123] ++ (bytesE x ++ bytesE [125]) := by
  rw [show 92 :: 117 :: 123 :: (x ++ [125]) = [92, 117, 123] ++ (x ++ [125]) from rfl, bytesE_append, bytesE_append]
theorem quote_c (G : List Gl) (t u tz : TypeId) (v : List Value) (h3 : gFirst t ∈ G) (h4 : gAcc u ∈ G) (hv : v[15]? = some (.int .u8 4)) (hG : gTz v tz ∈ G) (l : List UInt8) (h63 : l.length ≤ 1000000000000) : E.Pure G Tryz.prog 37 [.str l] (.str (quoteL l)) := by
  refine pure_hid fun V hV => ?_
  refine ecalls_in 91 [.tmp 2] Tryz.func37 rfl rfl rfl (by kernel_rfl) (le_ble rfl) ?_
  repeat' (first | refine esem_seqK 75557868529680893612285 ?_ | refine esem_block ?_ | (refine stp ?_; simp only [go_sem]) | (refine Eff.at2 (wb_new _ 34 ) [0] rfl (by first | (simp; done) | (simp; omega) | (simp [bC]; done) | omega) rfl ?_; (try simp only [go_sem])) | (simp (disch := omega) only [wE]) | (refine spl (fun h => ?_) (fun h => ?_) <;> first | (exfalso; omega) | ((try simp only [opRun, opSkip, stepRun, pickZ]); (try simp only [go_sem, h]))) | (refine and_om ?_ ?_; focus omega))
  refine esem_loopS (fun z => [(0, .str l), (3, .ptr (some ⟨0, 0⟩)), (4, .int .i64 z.1)]) (fun z => full 0 (z.2.1 + 1) z.2.2) (fun z => z.2.1 + 2) (fun z => 0 < z.2.2.length ∧ z.2.2.length ≤ 8 * z.1 + 1 ∧ z.1 ≤ l.length ∧ z.2.2 ++ quoL l z.1 = quoteL l) (fun z => l.length - z.1) (((0 : Nat), (0 : Nat), ([34] : List UInt8))) (fun z hz => ⟨by simp [frBel], by first | trivial | simp, by first | exact Nat.le_refl _ | exact Nat.zero_le _ | omega | (simp only []; omega)⟩) (by exact ⟨by decide, by decide, Nat.zero_le _, rfl⟩) (by first | (simp only [go_sem, weakL]; done) | ((try simp only [go_sem, weakL]); ((repeat' apply And.intro) <;> (first | rfl | trivial | ((try simp only [EV.int.injEq, EV.str.injEq, EV.bool.injEq, EV.tuple.injEq, EV.slice.injEq, List.cons.injEq, true_and, and_true]); first | rfl | omega))))) (by first | trivial | (simp only [go_sem, lessL]; done) | ((try simp only [go_sem, lessL]); ((repeat' apply And.intro) <;> (first | rfl | trivial | ((try simp only [EV.int.injEq, EV.str.injEq, EV.bool.injEq, EV.tuple.injEq, EV.slice.injEq, List.cons.injEq, true_and, and_true]); first | rfl | omega))))) ?_
  rintro ⟨i, b, out⟩ ⟨z1, z2, z3, z4⟩
  simp only at z1 z2 z3 z4
  simp only []
  by_cases hi : i < l.length
  · have hs := quoL_step (s := l) hi
    rw [hs] at z4
    have hc := chQ_len (l.drop i) (by rw [List.length_drop]; omega)
    have hd := decE_pos (l.drop i)
    have hbd := decE_bd (l.drop i)
    have hd2 : (decE (l.drop i)).2 ≤ l.length - i := by have := decE_le (l.drop i) (by rw [List.length_drop]; omega); rwa [List.length_drop] at this
    have ht : ((l.drop i).take (decE (l.drop i)).2).length = (decE (l.drop i)).2 := by rw [List.length_take, List.length_drop, Nat.min_eq_left hd2]
    have has := decE_ascii (l.drop i)
    rw [getD_drop, Nat.add_zero] at has
    have hsp := chQ_split (l.drop i)
    rw [getD_drop, Nat.add_zero] at hsp
    have hxl := hexS_len (decE (l.drop i)).1
    have hfm := fmt_c G v tz hv hG (decE (l.drop i)).1
    have hfi := first_c G t u h3 h4 (l.drop i) (by rw [List.length_drop]; omega)
    have hxD : hexD.length = 16 := rfl
    have hc8 := UInt8.toNat_lt (l.getD i 0)
    generalize hwd : (l.drop i).take (decE (l.drop i)).2 = wd at ht hsp
    generalize hexS (decE (l.drop i)).1 = hx at hxl hfm hsp
    have hnp := not_plain (r := (decE (l.drop i)).1)
    rcases hsp with ⟨hr, hq⟩ | ⟨hr, hq⟩ | ⟨hr, hq⟩ | ⟨hr, hq⟩ | ⟨hr, hq⟩ | ⟨⟨n1, n2, n3, n4, n5⟩, hR, hq⟩ | ⟨⟨n1, n2, n3, n4, n5⟩, hR, hr, hq⟩ | ⟨⟨n1, n2, n3, n4, n5⟩, hR, hr, hq⟩ | ⟨⟨n1, n2, n3, n4, n5⟩, hR, n6, n7, hP, hq⟩ | ⟨⟨n1, n2, n3, n4, n5⟩, hR, n6, n7, hP, hq⟩
    · rw [hq] at z4 hc
      have hcl := hc.2
      (try simp only [List.length_append, List.length_cons, List.length_nil, hexP_length] at hcl)
      have hb8 : l.getD i 0 = 34 := UInt8.toNat_inj.1 ((has (by omega)).1.trans hr)
      repeat' (first | refine esem_seqK 75557868529680893612285 ?_ | refine esem_block ?_ | (refine stp ?_; simp only [go_sem, and_false, or_false, not_true_eq_false, hb8]) | (refine Pure.at (hfi) (by simp) (by simp) rfl ?_; (try simp only [go_sem, and_false, or_false, not_true_eq_false, hb8])) | (refine Pure.at (plain_c _ _) (by simp) (by simp) rfl ?_; (try simp only [go_sem, and_false, or_false, not_true_eq_false, hb8])) | (simp only [toNat_addE, add_sub_selfE, hwd]) | (refine Eff.at2 (wb_full _ 92 out (by (try simp only [List.length_append, List.length_cons, List.length_nil]); omega) ) [0, b + 1] rfl (by first | (simp; done) | (simp; omega) | (simp [bC]; done) | omega) rfl ?_; (try simp only [go_sem, and_false, or_false, not_true_eq_false, hb8])) | (refine Eff.at2 (wb_full _ 34 (out ++ [92]) (by (try simp only [List.length_append, List.length_cons, List.length_nil]); omega) ) [0, b + 2] rfl (by first | (simp; done) | (simp; omega) | (simp [bC]; done) | omega) rfl ?_; (try simp only [go_sem, and_false, or_false, not_true_eq_false, hb8])) | (simp (disch := omega) only [wE]) | (refine spl (fun h => ?_) (fun h => ?_) <;> first | (exfalso; omega) | ((try simp only [opRun, opSkip, stepRun, pickZ]); (try simp only [go_sem, and_false, or_false, not_true_eq_false, hb8, h]))) | (refine and_om ?_ ?_; focus omega))
      (refine ⟨(i + (decE (l.drop i)).2, b + 2, out ++ ([92] ++ [34])), ?_, ?_, rfl, rfl, ?_, ?_⟩; rotate_left; (focus (first | omega | (simp only []; omega))); (focus (first | (simp only [go_sem, weakL, List.length_append, bytesE_append, List.length_cons, List.length_nil, ← List.append_assoc, ← Nat.add_assoc, bq34, bq92, bx2, bu2]; done) | ((try simp only [go_sem, weakL, List.length_append, bytesE_append, List.length_cons, List.length_nil, ← List.append_assoc, ← Nat.add_assoc, bq34, bq92, bx2, bu2]); ((repeat' apply And.intro) <;> (first | rfl | trivial | ((try simp only [EV.int.injEq, EV.str.injEq, EV.bool.injEq, EV.tuple.injEq, EV.slice.injEq, List.cons.injEq, true_and, and_true]); first | rfl | omega)))))); (focus (first | trivial | (simp only [go_sem, lessL, List.length_append, bytesE_append, List.length_cons, List.length_nil, ← List.append_assoc, ← Nat.add_assoc, bq34, bq92, bx2, bu2]; done) | ((try simp only [go_sem, lessL, List.length_append, bytesE_append, List.length_cons, List.length_nil, ← List.append_assoc, ← Nat.add_assoc, bq34, bq92, bx2, bu2]); ((repeat' apply And.intro) <;> (first | rfl | trivial | ((try simp only [EV.int.injEq, EV.str.injEq, EV.bool.injEq, EV.tuple.injEq, EV.slice.injEq, List.cons.injEq, true_and, and_true]); first | rfl | omega)))))); (try simp only []))
      exact ⟨by (simp only [List.length_append, List.length_cons, List.length_nil]; omega), by (simp only [List.length_append, List.length_cons, List.length_nil]; omega), by omega, by rw [List.append_assoc]; exact z4⟩
    · rw [hq] at z4 hc
      have hcl := hc.2
      (try simp only [List.length_append, List.length_cons, List.length_nil, hexP_length] at hcl)
      have hb8 : l.getD i 0 = 92 := UInt8.toNat_inj.1 ((has (by omega)).1.trans hr)
      repeat' (first | refine esem_seqK 75557868529680893612285 ?_ | refine esem_block ?_ | (refine stp ?_; simp only [go_sem, and_false, or_false, not_true_eq_false, hb8]) | (refine Pure.at (hfi) (by simp) (by simp) rfl ?_; (try simp only [go_sem, and_false, or_false, not_true_eq_false, hb8])) | (refine Pure.at (plain_c _ _) (by simp) (by simp) rfl ?_; (try simp only [go_sem, and_false, or_false, not_true_eq_false, hb8])) | (simp only [toNat_addE, add_sub_selfE, hwd]) | (refine Eff.at2 (wb_full _ 92 out (by (try simp only [List.length_append, List.length_cons, List.length_nil]); omega) ) [0, b + 1] rfl (by first | (simp; done) | (simp; omega) | (simp [bC]; done) | omega) rfl ?_; (try simp only [go_sem, and_false, or_false, not_true_eq_false, hb8])) | (refine Eff.at2 (wb_full _ 92 (out ++ [92]) (by (try simp only [List.length_append, List.length_cons, List.length_nil]); omega) ) [0, b + 2] rfl (by first | (simp; done) | (simp; omega) | (simp [bC]; done) | omega) rfl ?_; (try simp only [go_sem, and_false, or_false, not_true_eq_false, hb8])) | (simp (disch := omega) only [wE]) | (refine spl (fun h => ?_) (fun h => ?_) <;> first | (exfalso; omega) | ((try simp only [opRun, opSkip, stepRun, pickZ]); (try simp only [go_sem, and_false, or_false, not_true_eq_false, hb8, h]))) | (refine and_om ?_ ?_; focus omega))
      (refine ⟨(i + (decE (l.drop i)).2, b + 2, out ++ ([92] ++ [92])), ?_, ?_, rfl, rfl, ?_, ?_⟩; rotate_left; (focus (first | omega | (simp only []; omega))); (focus (first | (simp only [go_sem, weakL, List.length_append, bytesE_append, List.length_cons, List.length_nil, ← List.append_assoc, ← Nat.add_assoc, bq34, bq92, bx2, bu2]; done) | ((try simp only [go_sem, weakL, List.length_append, bytesE_append, List.length_cons, List.length_nil, ← List.append_assoc, ← Nat.add_assoc, bq34, bq92, bx2, bu2]); ((repeat' apply And.intro) <;> (first | rfl | trivial | ((try simp only [EV.int.injEq, EV.str.injEq, EV.bool.injEq, EV.tuple.injEq, EV.slice.injEq, List.cons.injEq, true_and, and_true]); first | rfl | omega)))))); (focus (first | trivial | (simp only [go_sem, lessL, List.length_append, bytesE_append, List.length_cons, List.length_nil, ← List.append_assoc, ← Nat.add_assoc, bq34, bq92, bx2, bu2]; done) | ((try simp only [go_sem, lessL, List.length_append, bytesE_append, List.length_cons, List.length_nil, ← List.append_assoc, ← Nat.add_assoc, bq34, bq92, bx2, bu2]); ((repeat' apply And.intro) <;> (first | rfl | trivial | ((try simp only [EV.int.injEq, EV.str.injEq, EV.bool.injEq, EV.tuple.injEq, EV.slice.injEq, List.cons.injEq, true_and, and_true]); first | rfl | omega)))))); (try simp only []))
      exact ⟨by (simp only [List.length_append, List.length_cons, List.length_nil]; omega), by (simp only [List.length_append, List.length_cons, List.length_nil]; omega), by omega, by rw [List.append_assoc]; exact z4⟩
    · rw [hq] at z4 hc
      have hcl := hc.2
      (try simp only [List.length_append, List.length_cons, List.length_nil, hexP_length] at hcl)
      repeat' (first | refine esem_seqK 75557868529680893612285 ?_ | refine esem_block ?_ | (refine stp ?_; simp only [go_sem, and_false, or_false, not_true_eq_false]) | (refine Pure.at (hfi) (by simp) (by simp) rfl ?_; (try simp only [go_sem, and_false, or_false, not_true_eq_false])) | (refine Pure.at (plain_c _ _) (by simp) (by simp) rfl ?_; (try simp only [go_sem, and_false, or_false, not_true_eq_false])) | (simp only [toNat_addE, add_sub_selfE, hwd]) | (refine Eff.at2 (ws_full _ out [92, 110] (by first | decide | (simp only [List.length_append, List.length_cons, List.length_nil]; omega) | omega) (by (try simp only [List.length_append, List.length_cons, List.length_nil]); omega) ) [0, b + 1] rfl (by first | (simp; done) | (simp; omega) | (simp [bC]; done) | omega) rfl ?_; (try simp only [go_sem, and_false, or_false, not_true_eq_false])) | (simp (disch := omega) only [wE]) | (refine spl (fun h => ?_) (fun h => ?_) <;> first | (exfalso; omega) | ((try simp only [opRun, opSkip, stepRun, pickZ]); (try simp only [go_sem, and_false, or_false, not_true_eq_false, h]))) | (refine and_om ?_ ?_; focus omega))
      (refine ⟨(i + (decE (l.drop i)).2, b + 1, out ++ ([92, 110])), ?_, ?_, rfl, rfl, ?_, ?_⟩; rotate_left; (focus (first | omega | (simp only []; omega))); (focus (first | (simp only [go_sem, weakL, List.length_append, bytesE_append, List.length_cons, List.length_nil, ← List.append_assoc, ← Nat.add_assoc, bq34, bq92, bx2, bu2]; done) | ((try simp only [go_sem, weakL, List.length_append, bytesE_append, List.length_cons, List.length_nil, ← List.append_assoc, ← Nat.add_assoc, bq34, bq92, bx2, bu2]); ((repeat' apply And.intro) <;> (first | rfl | trivial | ((try simp only [EV.int.injEq, EV.str.injEq, EV.bool.injEq, EV.tuple.injEq, EV.slice.injEq, List.cons.injEq, true_and, and_true]); first | rfl | omega)))))); (focus (first | trivial | (simp only [go_sem, lessL, List.length_append, bytesE_append, List.length_cons, List.length_nil, ← List.append_assoc, ← Nat.add_assoc, bq34, bq92, bx2, bu2]; done) | ((try simp only [go_sem, lessL, List.length_append, bytesE_append, List.length_cons, List.length_nil, ← List.append_assoc, ← Nat.add_assoc, bq34, bq92, bx2, bu2]); ((repeat' apply And.intro) <;> (first | rfl | trivial | ((try simp only [EV.int.injEq, EV.str.injEq, EV.bool.injEq, EV.tuple.injEq, EV.slice.injEq, List.cons.injEq, true_and, and_true]); first | rfl | omega)))))); (try simp only []))
      exact ⟨by (simp only [List.length_append, List.length_cons, List.length_nil]; omega), by (simp only [List.length_append, List.length_cons, List.length_nil]; omega), by omega, by rw [List.append_assoc]; exact z4⟩
    · rw [hq] at z4 hc
      have hcl := hc.2
      (try simp only [List.length_append, List.length_cons, List.length_nil, hexP_length] at hcl)
      repeat' (first | refine esem_seqK 75557868529680893612285 ?_ | refine esem_block ?_ | (refine stp ?_; simp only [go_sem, and_false, or_false, not_true_eq_false]) | (refine Pure.at (hfi) (by simp) (by simp) rfl ?_; (try simp only [go_sem, and_false, or_false, not_true_eq_false])) | (refine Pure.at (plain_c _ _) (by simp) (by simp) rfl ?_; (try simp only [go_sem, and_false, or_false, not_true_eq_false])) | (simp only [toNat_addE, add_sub_selfE, hwd]) | (refine Eff.at2 (ws_full _ out [92, 114] (by first | decide | (simp only [List.length_append, List.length_cons, List.length_nil]; omega) | omega) (by (try simp only [List.length_append, List.length_cons, List.length_nil]); omega) ) [0, b + 1] rfl (by first | (simp; done) | (simp; omega) | (simp [bC]; done) | omega) rfl ?_; (try simp only [go_sem, and_false, or_false, not_true_eq_false])) | (simp (disch := omega) only [wE]) | (refine spl (fun h => ?_) (fun h => ?_) <;> first | (exfalso; omega) | ((try simp only [opRun, opSkip, stepRun, pickZ]); (try simp only [go_sem, and_false, or_false, not_true_eq_false, h]))) | (refine and_om ?_ ?_; focus omega))
      (refine ⟨(i + (decE (l.drop i)).2, b + 1, out ++ ([92, 114])), ?_, ?_, rfl, rfl, ?_, ?_⟩; rotate_left; (focus (first | omega | (simp only []; omega))); (focus (first | (simp only [go_sem, weakL, List.length_append, bytesE_append, List.length_cons, List.length_nil, ← List.append_assoc, ← Nat.add_assoc, bq34, bq92, bx2, bu2]; done) | ((try simp only [go_sem, weakL, List.length_append, bytesE_append, List.length_cons, List.length_nil, ← List.append_assoc, ← Nat.add_assoc, bq34, bq92, bx2, bu2]); ((repeat' apply And.intro) <;> (first | rfl | trivial | ((try simp only [EV.int.injEq, EV.str.injEq, EV.bool.injEq, EV.tuple.injEq, EV.slice.injEq, List.cons.injEq, true_and, and_true]); first | rfl | omega)))))); (focus (first | trivial | (simp only [go_sem, lessL, List.length_append, bytesE_append, List.length_cons, List.length_nil, ← List.append_assoc, ← Nat.add_assoc, bq34, bq92, bx2, bu2]; done) | ((try simp only [go_sem, lessL, List.length_append, bytesE_append, List.length_cons, List.length_nil, ← List.append_assoc, ← Nat.add_assoc, bq34, bq92, bx2, bu2]); ((repeat' apply And.intro) <;> (first | rfl | trivial | ((try simp only [EV.int.injEq, EV.str.injEq, EV.bool.injEq, EV.tuple.injEq, EV.slice.injEq, List.cons.injEq, true_and, and_true]); first | rfl | omega)))))); (try simp only []))
      exact ⟨by (simp only [List.length_append, List.length_cons, List.length_nil]; omega), by (simp only [List.length_append, List.length_cons, List.length_nil]; omega), by omega, by rw [List.append_assoc]; exact z4⟩
    · rw [hq] at z4 hc
      have hcl := hc.2
      (try simp only [List.length_append, List.length_cons, List.length_nil, hexP_length] at hcl)
      repeat' (first | refine esem_seqK 75557868529680893612285 ?_ | refine esem_block ?_ | (refine stp ?_; simp only [go_sem, and_false, or_false, not_true_eq_false]) | (refine Pure.at (hfi) (by simp) (by simp) rfl ?_; (try simp only [go_sem, and_false, or_false, not_true_eq_false])) | (refine Pure.at (plain_c _ _) (by simp) (by simp) rfl ?_; (try simp only [go_sem, and_false, or_false, not_true_eq_false])) | (simp only [toNat_addE, add_sub_selfE, hwd]) | (refine Eff.at2 (ws_full _ out [92, 116] (by first | decide | (simp only [List.length_append, List.length_cons, List.length_nil]; omega) | omega) (by (try simp only [List.length_append, List.length_cons, List.length_nil]); omega) ) [0, b + 1] rfl (by first | (simp; done) | (simp; omega) | (simp [bC]; done) | omega) rfl ?_; (try simp only [go_sem, and_false, or_false, not_true_eq_false])) | (simp (disch := omega) only [wE]) | (refine spl (fun h => ?_) (fun h => ?_) <;> first | (exfalso; omega) | ((try simp only [opRun, opSkip, stepRun, pickZ]); (try simp only [go_sem, and_false, or_false, not_true_eq_false, h]))) | (refine and_om ?_ ?_; focus omega))
      (refine ⟨(i + (decE (l.drop i)).2, b + 1, out ++ ([92, 116])), ?_, ?_, rfl, rfl, ?_, ?_⟩; rotate_left; (focus (first | omega | (simp only []; omega))); (focus (first | (simp only [go_sem, weakL, List.length_append, bytesE_append, List.length_cons, List.length_nil, ← List.append_assoc, ← Nat.add_assoc, bq34, bq92, bx2, bu2]; done) | ((try simp only [go_sem, weakL, List.length_append, bytesE_append, List.length_cons, List.length_nil, ← List.append_assoc, ← Nat.add_assoc, bq34, bq92, bx2, bu2]); ((repeat' apply And.intro) <;> (first | rfl | trivial | ((try simp only [EV.int.injEq, EV.str.injEq, EV.bool.injEq, EV.tuple.injEq, EV.slice.injEq, List.cons.injEq, true_and, and_true]); first | rfl | omega)))))); (focus (first | trivial | (simp only [go_sem, lessL, List.length_append, bytesE_append, List.length_cons, List.length_nil, ← List.append_assoc, ← Nat.add_assoc, bq34, bq92, bx2, bu2]; done) | ((try simp only [go_sem, lessL, List.length_append, bytesE_append, List.length_cons, List.length_nil, ← List.append_assoc, ← Nat.add_assoc, bq34, bq92, bx2, bu2]); ((repeat' apply And.intro) <;> (first | rfl | trivial | ((try simp only [EV.int.injEq, EV.str.injEq, EV.bool.injEq, EV.tuple.injEq, EV.slice.injEq, List.cons.injEq, true_and, and_true]); first | rfl | omega)))))); (try simp only []))
      exact ⟨by (simp only [List.length_append, List.length_cons, List.length_nil]; omega), by (simp only [List.length_append, List.length_cons, List.length_nil]; omega), by omega, by rw [List.append_assoc]; exact z4⟩
    · rw [hq] at z4 hc
      have hcl := hc.2
      (try simp only [List.length_append, List.length_cons, List.length_nil, hexP_length] at hcl)
      repeat' (first | refine esem_seqK 75557868529680893612285 ?_ | refine esem_block ?_ | (refine stp ?_; simp only [go_sem, and_false, or_false, not_true_eq_false, hR, Bool.not_false]) | (refine Pure.at (hfi) (by simp) (by simp) rfl ?_; (try simp only [go_sem, and_false, or_false, not_true_eq_false, hR, Bool.not_false])) | (refine Pure.at (plain_c _ _) (by simp) (by simp) rfl ?_; (try simp only [go_sem, and_false, or_false, not_true_eq_false, hR, Bool.not_false])) | (simp only [toNat_addE, add_sub_selfE, hwd]) | (refine Eff.at2 (ws_full _ out [92, 120] (by first | decide | (simp only [List.length_append, List.length_cons, List.length_nil]; omega) | omega) (by (try simp only [List.length_append, List.length_cons, List.length_nil]); omega) ) [0, b + 1] rfl (by first | (simp; done) | (simp; omega) | (simp [bC]; done) | omega) rfl ?_; (try simp only [go_sem, and_false, or_false, not_true_eq_false, hR, Bool.not_false])) | (refine Eff.at2 (wb_full _ (hexD.getD ((l.getD i 0).toNat / 16) 0) (out ++ [92, 120]) (by (try simp only [List.length_append, List.length_cons, List.length_nil]); omega) ) [0, b + 2] rfl (by first | (simp; done) | (simp; omega) | (simp [bC]; done) | omega) rfl ?_; (try simp only [go_sem, and_false, or_false, not_true_eq_false, hR, Bool.not_false])) | (refine Eff.at2 (wb_full _ (hexD.getD ((l.getD i 0).toNat % 16) 0) (out ++ [92, 120] ++ [hexD.getD ((l.getD i 0).toNat / 16) 0]) (by (try simp only [List.length_append, List.length_cons, List.length_nil]); omega) ) [0, b + 3] rfl (by first | (simp; done) | (simp; omega) | (simp [bC]; done) | omega) rfl ?_; (try simp only [go_sem, and_false, or_false, not_true_eq_false, hR, Bool.not_false])) | (simp (disch := omega) only [shr4, and15, toNat_div16, toNat_mod16]) | (simp only [hexfold]) | (simp (disch := omega) only [wE]) | (refine spl (fun h => ?_) (fun h => ?_) <;> first | (exfalso; omega) | ((try simp only [opRun, opSkip, stepRun, pickZ]); (try simp only [go_sem, and_false, or_false, not_true_eq_false, hR, Bool.not_false, h]))) | (refine and_om ?_ ?_; focus omega))
      (refine ⟨(i + (decE (l.drop i)).2, b + 3, out ++ ([92, 120] ++ ([hexD.getD ((l.getD i 0).toNat / 16) 0] ++ [hexD.getD ((l.getD i 0).toNat % 16) 0]))), ?_, ?_, rfl, rfl, ?_, ?_⟩; rotate_left; (focus (first | omega | (simp only []; omega))); (focus (first | (simp only [go_sem, weakL, List.length_append, bytesE_append, List.length_cons, List.length_nil, ← List.append_assoc, ← Nat.add_assoc, bq34, bq92, bx2, bu2]; done) | ((try simp only [go_sem, weakL, List.length_append, bytesE_append, List.length_cons, List.length_nil, ← List.append_assoc, ← Nat.add_assoc, bq34, bq92, bx2, bu2]); ((repeat' apply And.intro) <;> (first | rfl | trivial | ((try simp only [EV.int.injEq, EV.str.injEq, EV.bool.injEq, EV.tuple.injEq, EV.slice.injEq, List.cons.injEq, true_and, and_true]); first | rfl | omega)))))); (focus (first | trivial | (simp only [go_sem, lessL, List.length_append, bytesE_append, List.length_cons, List.length_nil, ← List.append_assoc, ← Nat.add_assoc, bq34, bq92, bx2, bu2]; done) | ((try simp only [go_sem, lessL, List.length_append, bytesE_append, List.length_cons, List.length_nil, ← List.append_assoc, ← Nat.add_assoc, bq34, bq92, bx2, bu2]); ((repeat' apply And.intro) <;> (first | rfl | trivial | ((try simp only [EV.int.injEq, EV.str.injEq, EV.bool.injEq, EV.tuple.injEq, EV.slice.injEq, List.cons.injEq, true_and, and_true]); first | rfl | omega)))))); (try simp only []))
      exact ⟨by (simp only [List.length_append, List.length_cons, List.length_nil]; omega), by (simp only [List.length_append, List.length_cons, List.length_nil]; omega), by omega, by rw [List.append_assoc]; exact z4⟩
    · rw [hq] at z4 hc
      have hcl := hc.2
      (try simp only [List.length_append, List.length_cons, List.length_nil, hexP_length] at hcl)
      repeat' (first | refine esem_seqK 75557868529680893612285 ?_ | refine esem_block ?_ | (refine stp ?_; simp only [go_sem, and_false, or_false, not_true_eq_false, hR, Bool.not_true]) | (refine Pure.at (hfi) (by simp) (by simp) rfl ?_; (try simp only [go_sem, and_false, or_false, not_true_eq_false, hR, Bool.not_true])) | (refine Pure.at (plain_c _ _) (by simp) (by simp) rfl ?_; (try simp only [go_sem, and_false, or_false, not_true_eq_false, hR, Bool.not_true])) | (simp only [toNat_addE, add_sub_selfE, hwd]) | (refine Eff.at2 (ws_full _ out [92, 120] (by first | decide | (simp only [List.length_append, List.length_cons, List.length_nil]; omega) | omega) (by (try simp only [List.length_append, List.length_cons, List.length_nil]); omega) ) [0, b + 1] rfl (by first | (simp; done) | (simp; omega) | (simp [bC]; done) | omega) rfl ?_; (try simp only [go_sem, and_false, or_false, not_true_eq_false, hR, Bool.not_true])) | (refine Eff.at2 (wb_full _ (hexD.getD ((l.getD i 0).toNat / 16) 0) (out ++ [92, 120]) (by (try simp only [List.length_append, List.length_cons, List.length_nil]); omega) ) [0, b + 2] rfl (by first | (simp; done) | (simp; omega) | (simp [bC]; done) | omega) rfl ?_; (try simp only [go_sem, and_false, or_false, not_true_eq_false, hR, Bool.not_true])) | (refine Eff.at2 (wb_full _ (hexD.getD ((l.getD i 0).toNat % 16) 0) (out ++ [92, 120] ++ [hexD.getD ((l.getD i 0).toNat / 16) 0]) (by (try simp only [List.length_append, List.length_cons, List.length_nil]); omega) ) [0, b + 3] rfl (by first | (simp; done) | (simp; omega) | (simp [bC]; done) | omega) rfl ?_; (try simp only [go_sem, and_false, or_false, not_true_eq_false, hR, Bool.not_true])) | (simp (disch := omega) only [shr4, and15, toNat_div16, toNat_mod16]) | (simp only [hexfold]) | (simp (disch := omega) only [wE]) | (refine spl (fun h => ?_) (fun h => ?_) <;> first | (exfalso; omega) | ((try simp only [opRun, opSkip, stepRun, pickZ]); (try simp only [go_sem, and_false, or_false, not_true_eq_false, hR, Bool.not_true, h]))) | (refine and_om ?_ ?_; focus omega))
      (refine ⟨(i + (decE (l.drop i)).2, b + 3, out ++ ([92, 120] ++ ([hexD.getD ((l.getD i 0).toNat / 16) 0] ++ [hexD.getD ((l.getD i 0).toNat % 16) 0]))), ?_, ?_, rfl, rfl, ?_, ?_⟩; rotate_left; (focus (first | omega | (simp only []; omega))); (focus (first | (simp only [go_sem, weakL, List.length_append, bytesE_append, List.length_cons, List.length_nil, ← List.append_assoc, ← Nat.add_assoc, bq34, bq92, bx2, bu2]; done) | ((try simp only [go_sem, weakL, List.length_append, bytesE_append, List.length_cons, List.length_nil, ← List.append_assoc, ← Nat.add_assoc, bq34, bq92, bx2, bu2]); ((repeat' apply And.intro) <;> (first | rfl | trivial | ((try simp only [EV.int.injEq, EV.str.injEq, EV.bool.injEq, EV.tuple.injEq, EV.slice.injEq, List.cons.injEq, true_and, and_true]); first | rfl | omega)))))); (focus (first | trivial | (simp only [go_sem, lessL, List.length_append, bytesE_append, List.length_cons, List.length_nil, ← List.append_assoc, ← Nat.add_assoc, bq34, bq92, bx2, bu2]; done) | ((try simp only [go_sem, lessL, List.length_append, bytesE_append, List.length_cons, List.length_nil, ← List.append_assoc, ← Nat.add_assoc, bq34, bq92, bx2, bu2]); ((repeat' apply And.intro) <;> (first | rfl | trivial | ((try simp only [EV.int.injEq, EV.str.injEq, EV.bool.injEq, EV.tuple.injEq, EV.slice.injEq, List.cons.injEq, true_and, and_true]); first | rfl | omega)))))); (try simp only []))
      exact ⟨by (simp only [List.length_append, List.length_cons, List.length_nil]; omega), by (simp only [List.length_append, List.length_cons, List.length_nil]; omega), by omega, by rw [List.append_assoc]; exact z4⟩
    · rw [hq] at z4 hc
      have hcl := hc.2
      (try simp only [List.length_append, List.length_cons, List.length_nil, hexP_length] at hcl)
      repeat' (first | refine esem_seqK 75557868529680893612285 ?_ | refine esem_block ?_ | (refine stp ?_; simp only [go_sem, and_false, or_false, not_true_eq_false, hR, Bool.not_true]) | (refine Pure.at (hfi) (by simp) (by simp) rfl ?_; (try simp only [go_sem, and_false, or_false, not_true_eq_false, hR, Bool.not_true])) | (refine Pure.at (plain_c _ _) (by simp) (by simp) rfl ?_; (try simp only [go_sem, and_false, or_false, not_true_eq_false, hR, Bool.not_true])) | (simp only [toNat_addE, add_sub_selfE, hwd]) | (refine Eff.at2 (ws_full _ out [92, 120] (by first | decide | (simp only [List.length_append, List.length_cons, List.length_nil]; omega) | omega) (by (try simp only [List.length_append, List.length_cons, List.length_nil]); omega) ) [0, b + 1] rfl (by first | (simp; done) | (simp; omega) | (simp [bC]; done) | omega) rfl ?_; (try simp only [go_sem, and_false, or_false, not_true_eq_false, hR, Bool.not_true])) | (refine Eff.at2 (wb_full _ (hexD.getD ((l.getD i 0).toNat / 16) 0) (out ++ [92, 120]) (by (try simp only [List.length_append, List.length_cons, List.length_nil]); omega) ) [0, b + 2] rfl (by first | (simp; done) | (simp; omega) | (simp [bC]; done) | omega) rfl ?_; (try simp only [go_sem, and_false, or_false, not_true_eq_false, hR, Bool.not_true])) | (refine Eff.at2 (wb_full _ (hexD.getD ((l.getD i 0).toNat % 16) 0) (out ++ [92, 120] ++ [hexD.getD ((l.getD i 0).toNat / 16) 0]) (by (try simp only [List.length_append, List.length_cons, List.length_nil]); omega) ) [0, b + 3] rfl (by first | (simp; done) | (simp; omega) | (simp [bC]; done) | omega) rfl ?_; (try simp only [go_sem, and_false, or_false, not_true_eq_false, hR, Bool.not_true])) | (simp (disch := omega) only [shr4, and15, toNat_div16, toNat_mod16]) | (simp only [hexfold]) | (simp (disch := omega) only [wE]) | (refine spl (fun h => ?_) (fun h => ?_) <;> first | (exfalso; omega) | ((try simp only [opRun, opSkip, stepRun, pickZ]); (try simp only [go_sem, and_false, or_false, not_true_eq_false, hR, Bool.not_true, h]))) | (refine and_om ?_ ?_; focus omega))
      (refine ⟨(i + (decE (l.drop i)).2, b + 3, out ++ ([92, 120] ++ ([hexD.getD ((l.getD i 0).toNat / 16) 0] ++ [hexD.getD ((l.getD i 0).toNat % 16) 0]))), ?_, ?_, rfl, rfl, ?_, ?_⟩; rotate_left; (focus (first | omega | (simp only []; omega))); (focus (first | (simp only [go_sem, weakL, List.length_append, bytesE_append, List.length_cons, List.length_nil, ← List.append_assoc, ← Nat.add_assoc, bq34, bq92, bx2, bu2]; done) | ((try simp only [go_sem, weakL, List.length_append, bytesE_append, List.length_cons, List.length_nil, ← List.append_assoc, ← Nat.add_assoc, bq34, bq92, bx2, bu2]); ((repeat' apply And.intro) <;> (first | rfl | trivial | ((try simp only [EV.int.injEq, EV.str.injEq, EV.bool.injEq, EV.tuple.injEq, EV.slice.injEq, List.cons.injEq, true_and, and_true]); first | rfl | omega)))))); (focus (first | trivial | (simp only [go_sem, lessL, List.length_append, bytesE_append, List.length_cons, List.length_nil, ← List.append_assoc, ← Nat.add_assoc, bq34, bq92, bx2, bu2]; done) | ((try simp only [go_sem, lessL, List.length_append, bytesE_append, List.length_cons, List.length_nil, ← List.append_assoc, ← Nat.add_assoc, bq34, bq92, bx2, bu2]); ((repeat' apply And.intro) <;> (first | rfl | trivial | ((try simp only [EV.int.injEq, EV.str.injEq, EV.bool.injEq, EV.tuple.injEq, EV.slice.injEq, List.cons.injEq, true_and, and_true]); first | rfl | omega)))))); (try simp only []))
      exact ⟨by (simp only [List.length_append, List.length_cons, List.length_nil]; omega), by (simp only [List.length_append, List.length_cons, List.length_nil]; omega), by omega, by rw [List.append_assoc]; exact z4⟩
    · rw [hq] at z4 hc
      have hcl := hc.2
      (try simp only [List.length_append, List.length_cons, List.length_nil, hexP_length] at hcl)
      repeat' (first | refine esem_seqK 75557868529680893612285 ?_ | refine esem_block ?_ | (refine stp ?_; simp only [go_sem, and_false, or_false, not_true_eq_false, hR, hP, Bool.not_true, Bool.not_false]) | (refine Pure.at (hfi) (by simp) (by simp) rfl ?_; (try simp only [go_sem, and_false, or_false, not_true_eq_false, hR, hP, Bool.not_true, Bool.not_false])) | (refine Pure.at (plain_c _ _) (by simp) (by simp) rfl ?_; (try simp only [go_sem, and_false, or_false, not_true_eq_false, hR, hP, Bool.not_true, Bool.not_false])) | (simp only [toNat_addE, add_sub_selfE, hwd]) | (refine Eff.at2 (ws_full _ out ([92, 117, 123] ++ hx ++ [125]) (by first | decide | (simp only [List.length_append, List.length_cons, List.length_nil]; omega) | omega) (by (try simp only [List.length_append, List.length_cons, List.length_nil]); omega) ) [0, b + 1] rfl (by first | (simp; done) | (simp; omega) | (simp [bC]; done) | omega) rfl ?_; (try simp only [go_sem, and_false, or_false, not_true_eq_false, hR, hP, Bool.not_true, Bool.not_false])) | (refine Pure.at (hfm (hnp hP (by omega) (by omega) (by omega) (by omega))) (by simp) (by simp) rfl ?_; (try simp only [go_sem, and_false, or_false, not_true_eq_false, hR, hP, Bool.not_true, Bool.not_false])) | (simp only [ebinS, go_sem]) | (refine and_om ?_ ?_; focus (simp only [List.length_append, List.length_cons, List.length_nil]; omega)) | (simp (disch := omega) only [wE]) | (refine spl (fun h => ?_) (fun h => ?_) <;> first | (exfalso; omega) | ((try simp only [opRun, opSkip, stepRun, pickZ]); (try simp only [go_sem, and_false, or_false, not_true_eq_false, hR, hP, Bool.not_true, Bool.not_false, h]))) | (refine and_om ?_ ?_; focus omega))
      (refine ⟨(i + (decE (l.drop i)).2, b + 1, out ++ ([92, 117, 123] ++ hx ++ [125])), ?_, ?_, rfl, rfl, ?_, ?_⟩; rotate_left; (focus (first | omega | (simp only []; omega))); (focus (first | (simp only [go_sem, weakL, List.length_append, bytesE_append, List.length_cons, List.length_nil, ← List.append_assoc, ← Nat.add_assoc, bq34, bq92, bx2, bu2]; done) | ((try simp only [go_sem, weakL, List.length_append, bytesE_append, List.length_cons, List.length_nil, ← List.append_assoc, ← Nat.add_assoc, bq34, bq92, bx2, bu2]); ((repeat' apply And.intro) <;> (first | rfl | trivial | ((try simp only [EV.int.injEq, EV.str.injEq, EV.bool.injEq, EV.tuple.injEq, EV.slice.injEq, List.cons.injEq, true_and, and_true]); first | rfl | omega)))))); (focus (first | trivial | (simp only [go_sem, lessL, List.length_append, bytesE_append, List.length_cons, List.length_nil, ← List.append_assoc, ← Nat.add_assoc, bq34, bq92, bx2, bu2]; done) | ((try simp only [go_sem, lessL, List.length_append, bytesE_append, List.length_cons, List.length_nil, ← List.append_assoc, ← Nat.add_assoc, bq34, bq92, bx2, bu2]); ((repeat' apply And.intro) <;> (first | rfl | trivial | ((try simp only [EV.int.injEq, EV.str.injEq, EV.bool.injEq, EV.tuple.injEq, EV.slice.injEq, List.cons.injEq, true_and, and_true]); first | rfl | omega)))))); (try simp only []))
      exact ⟨by (simp only [List.length_append, List.length_cons, List.length_nil]; omega), by (simp only [List.length_append, List.length_cons, List.length_nil]; omega), by omega, by rw [List.append_assoc]; exact z4⟩
    · rw [hq] at z4 hc
      have hcl := hc.2
      (try simp only [List.length_append, List.length_cons, List.length_nil, hexP_length] at hcl)
      repeat' (first | refine esem_seqK 75557868529680893612285 ?_ | refine esem_block ?_ | (refine stp ?_; simp only [go_sem, and_false, or_false, not_true_eq_false, hR, hP, Bool.not_true, Bool.not_false]) | (refine Pure.at (hfi) (by simp) (by simp) rfl ?_; (try simp only [go_sem, and_false, or_false, not_true_eq_false, hR, hP, Bool.not_true, Bool.not_false])) | (refine Pure.at (plain_c _ _) (by simp) (by simp) rfl ?_; (try simp only [go_sem, and_false, or_false, not_true_eq_false, hR, hP, Bool.not_true, Bool.not_false])) | (simp only [toNat_addE, add_sub_selfE, hwd]) | (refine Eff.at2 (ws_full _ out wd (by first | decide | (simp only [List.length_append, List.length_cons, List.length_nil]; omega) | omega) (by (try simp only [List.length_append, List.length_cons, List.length_nil]); omega) ) [0, b + 1] rfl (by first | (simp; done) | (simp; omega) | (simp [bC]; done) | omega) rfl ?_; (try simp only [go_sem, and_false, or_false, not_true_eq_false, hR, hP, Bool.not_true, Bool.not_false])) | (simp (disch := omega) only [wE]) | (refine spl (fun h => ?_) (fun h => ?_) <;> first | (exfalso; omega) | ((try simp only [opRun, opSkip, stepRun, pickZ]); (try simp only [go_sem, and_false, or_false, not_true_eq_false, hR, hP, Bool.not_true, Bool.not_false, h]))) | (refine and_om ?_ ?_; focus omega))
      (refine ⟨(i + (decE (l.drop i)).2, b + 1, out ++ (wd)), ?_, ?_, rfl, rfl, ?_, ?_⟩; rotate_left; (focus (first | omega | (simp only []; omega))); (focus (first | (simp only [go_sem, weakL, List.length_append, bytesE_append, List.length_cons, List.length_nil, ← List.append_assoc, ← Nat.add_assoc, bq34, bq92, bx2, bu2]; done) | ((try simp only [go_sem, weakL, List.length_append, bytesE_append, List.length_cons, List.length_nil, ← List.append_assoc, ← Nat.add_assoc, bq34, bq92, bx2, bu2]); ((repeat' apply And.intro) <;> (first | rfl | trivial | ((try simp only [EV.int.injEq, EV.str.injEq, EV.bool.injEq, EV.tuple.injEq, EV.slice.injEq, List.cons.injEq, true_and, and_true]); first | rfl | omega)))))); (focus (first | trivial | (simp only [go_sem, lessL, List.length_append, bytesE_append, List.length_cons, List.length_nil, ← List.append_assoc, ← Nat.add_assoc, bq34, bq92, bx2, bu2]; done) | ((try simp only [go_sem, lessL, List.length_append, bytesE_append, List.length_cons, List.length_nil, ← List.append_assoc, ← Nat.add_assoc, bq34, bq92, bx2, bu2]); ((repeat' apply And.intro) <;> (first | rfl | trivial | ((try simp only [EV.int.injEq, EV.str.injEq, EV.bool.injEq, EV.tuple.injEq, EV.slice.injEq, List.cons.injEq, true_and, and_true]); first | rfl | omega)))))); (try simp only []))
      exact ⟨by (simp only [List.length_append, List.length_cons, List.length_nil]; omega), by (simp only [List.length_append, List.length_cons, List.length_nil]; omega), by omega, by rw [List.append_assoc]; exact z4⟩
  · rw [quoL_end (by omega)] at z4
    repeat' (first | refine esem_seqK 75557868529680893612285 ?_ | refine esem_block ?_ | (refine stp ?_; simp only [go_sem]) | (refine Eff.at2 (wb_full _ 34 out (by omega) ) [0, b + 1] rfl (by first | (simp; done) | (simp; omega) | (simp [bC]; done) | omega) rfl ?_; (try simp only [go_sem])) | (refine Eff.at2 (str_full _ (out ++ [34]) (by simp) (by rw [List.length_append, List.length_singleton]; omega) ) [0, b + 2] rfl (by first | (simp; done) | (simp; omega) | (simp [bC]; done) | omega) rfl ?_; (try simp only [go_sem])) | (simp (disch := omega) only [wE]) | (refine spl (fun h => ?_) (fun h => ?_) <;> first | (exfalso; omega) | ((try simp only [opRun, opSkip, stepRun, pickZ]); (try simp only [go_sem, h]))) | (refine and_om ?_ ?_; focus omega))
    rw [z4]
    (refine done_zero (by simp [EV.bel, allBelow]) ?_; rw [hV])
end Go.Proofs.YtnjbdcdjcfhooaaGreatDoor
namespace Go.Proofs.YtnjbdcdjcfhooaaGreatDoor
open Go.E
set_option linter.all false
set_option maxRecDepth 20000
set_option maxHeartbeats 8000000
mutual
theorem EV.ren_idE : ∀ v : EV, v.ren (fun i => i) = v
  | .unk => rfl
  | .bool _ => rfl
  | .int _ _ => rfl
  | .str _ => rfl
  | .ptr none => rfl
  | .ptr (some _) => rfl
  | .slice none _ _ => rfl
  | .slice (some _) _ _ => rfl
  | .map none => rfl
  | .map (some _) => rfl
  | .fn _ xs ys => by simp only [EV.ren, renL_idE xs, renL_idE ys]
  | .nilFn => rfl
  | .iface _ v => by simp only [EV.ren, EV.ren_idE v]
  | .nilIface => rfl
  | .agg cs => by simp only [EV.ren, renL_idE cs]
  | .tuple cs => by simp only [EV.ren, renL_idE cs]
theorem renL_idE : ∀ l : List EV, renL (fun i => i) l = l
  | [] => rfl
  | v :: l => by simp only [renL, EV.ren_idE v, renL_idE l]
end
theorem EO.ren_idE : ∀ o : EO, o.ren (fun i => i) = o
  | .cells c t z wr fz => by simp only [EO.ren, renL_idE]
  | .sIter s p => rfl
  | .map es => by
    simp only [EO.ren]
    congr 1
    induction es with
    | nil => rfl
    | cons y r ih => obtain ⟨a, b⟩ := y; simp only [renP, EV.ren_idE, ih]
theorem cmp_id {s : ES} {Q : ER → ES → Prop} {v : EV} (hb : blBelow s.nx s.bl) (hv : v.bel s.nx) (hQ : Q (.ret v) s) : Cmp s Q (.ret v) s :=
  ⟨fun i => i, .ret v, s, ⟨fun _ _ => rfl, fun _ _ _ _ h => h, Nat.le_refl _, rfl, by show ER.ret v = ER.ret (v.ren _); rw [EV.ren_idE], hv, hb, fun i o h => by rw [EO.ren_idE]; exact h⟩, hQ⟩
theorem join_c (G : List Gl) (ps : List (List UInt8)) (n z : Nat) (hn : ps.length = n) (h0 : 0 < n) (hN : n ≤ 4000000) (sep : List UInt8) (hlen : (Lib.join ps sep).length ≤ 140737488355328) :
    Eff G Tryz.prog 85 [.slice (some ⟨0, 0⟩) n n, .str sep] [(0, .cells (ps.map EV.str) 9 z true 0)] 1 (.str (Lib.join ps sep)) [(0, .cells (ps.map EV.str) 9 z true 0)] 1 := by
  unfold Eff
  have hbl : ∀ k, allBelow k (ps.map EV.str) := by
    intro k
    clear hn hlen
    induction ps with
    | nil => trivial
    | cons p r ih => exact ⟨trivial, ih⟩
  refine ecalls_below (v' := .string ⟨(Lib.join ps sep).toArray⟩) (enters_of Tryz.func85 (by kernel_rfl) rfl) (fun ρ => by rw [VR]) (fun ρ w args' hR hA => ?_) (cmp_id (v := .str (Lib.join ps sep)) (by simp [blBelow, EO.bel, hbl]) trivial ⟨rfl, rfl⟩)
  obtain ⟨la⟩ := args'
  simp only [VRs] at hA
  obtain ⟨a1, r1, rfl, h1, a2, r2, rfl, h2, rfl⟩ := hA
  simp only [VR] at h1 h2
  obtain ⟨l, c', o', hl, hcap, -, ho, rfl⟩ := h1
  subst h2
  have hb := hR.live 0 _ l (show (⟨[(0, .cells (ps.map EV.str) 9 z true 0)], 1, G⟩ : ES).get 0 = _ from rfl) hl
  obtain ⟨b1, b2, b3, b4, cs, fr, b5, b6, b7, b8⟩ := hb
  have hc : n ≤ c' := by rcases hcap with h | h <;> omega
  have ho' : o' = l.d := by rcases ho with h | h <;> omega
  subst ho'
  have hlt : l.r < w.heap.size := (Array.getElem?_eq_some_iff.1 b5).1
  have hmap : (ps.map fun p => (⟨p.toArray⟩ : ByteArray)).map (·.data.toList) = ps := by
    rw [List.map_map]
    conv => rhs; rw [← List.map_id ps]
    rfl
  have := Tryz.strings_Join l.r l.d c' (ps.map fun p => (⟨p.toArray⟩ : ByteArray)) ⟨sep.toArray⟩ w (fun j x hj => by
    rw [List.getElem?_map] at hj
    cases hp : ps[j]? with
    | none => rw [hp] at hj; cases hj
    | some p =>
      rw [hp] at hj; cases hj
      obtain ⟨v', q1, q2⟩ := b7 j (.str p) (by rw [List.getElem?_map, hp]; rfl)
      rw [VR] at q2; subst q2
      simp only [World.cell?, b5]
      exact q1) hlt (by rw [List.length_map]; omega) (by rw [List.length_map]; omega) (by rw [hmap]; exact hlen)
  rw [List.length_map, hn, hmap] at this
  exact this
end Go.Proofs.YtnjbdcdjcfhooaaGreatDoor
