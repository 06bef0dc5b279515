/-
  The layer E, part N: regions that draw their order: one order is enough. Own work.
-/
import Derived.Test.YtafmlhflcnlalaaEvM
import Derived.OrdersIn
namespace Go.E
set_option linter.all false

/-! The real step. -/
theorem wpIn_monoQ {F : Fence} {n : Nat} {P : Program} {o : Oper} {a : Act} {w : World} {next : Act → World → Prop} {Q Q2 : Exit → Act → World → Prop} (h : o.wpIn F n P a w next Q) (hq : ∀ e a w, Q e a w → Q2 e a w) : o.wpIn F n P a w next Q2 := by
  unfold Oper.wpIn at *
  refine ⟨h.1, ?_⟩
  have hh := h.2
  generalize (o.semAt F.round a.eval).run P w = r at *
  cases r with
  | ok x w' =>
    cases x <;> simp only [Oper.uponIn] at hh ⊢ <;>
      first
        | exact hh
        | exact ⟨hh.1, CallsIn.mono hh.2 (fun e w'' he => by cases e <;> first | exact he | exact hq _ _ _ he | exact (let ⟨a, w, x⟩ := he; ⟨a, w, hq _ _ _ x⟩))⟩
        | exact ⟨hh.1, RoundIn.mono hh.2 (fun e w'' he => by cases e <;> first | exact he | exact hq _ _ _ he | exact (let ⟨a, w, x⟩ := he; ⟨a, w, hq _ _ _ x⟩))⟩
  | halt x w' => cases x <;> simp only [Oper.uponIn] at hh ⊢ <;> first | exact hq _ _ _ hh | exact hh

theorem wideR_room (r : Option Nat) (n : Nat) : (wideR r).room n := fun _ h => by simp [wideR, Fence.wide] at h

theorem wpOpIn_ex {P : Program} {r : Option Nat} {ops : Array Oper} {i : Nat} {next : Act → World → Prop} {a : Act} {w : World} (h : wpOpIn (wideR r) 0 P ops (fun _ _ _ => False) i next a w) : ∃ a' w', next a' w' := by
  unfold wpOpIn at h
  split at h
  · exact ⟨_, _, h⟩
  · split at h
    · rename_i o _ _
      have hh := h.2
      generalize (o.semAt (wideR r).round a.eval).run P w = res at *
      cases res with
      | ok x w' =>
        cases x <;> simp only [Oper.uponIn] at hh <;> try exact ⟨_, _, hh⟩
        case enter f as =>
          obtain ⟨e, w2, fr, hR, _⟩ := hh.2.2 [] (wideR_room _ _)
          cases e with
          | returned v => exact ⟨_, _, hR⟩
          | panicked c => exact hR.elim
          | outgrown => obtain ⟨_, _, x⟩ := hR; exact x.elim
        case row row as =>
          obtain ⟨v, w2, hR, _⟩ := hh.2 (Frame.enter P 0 #[] .normal) [] (wideR_room _ _)
          exact ⟨_, _, hR⟩
        case round l f t as b =>
          obtain ⟨e, w2, hR, _⟩ := hh.2.2 (Frame.enter P 0 #[] .normal) [] (wideR_room _ _)
          cases e with
          | returned v => exact ⟨_, _, hR⟩
          | panicked c => exact hR.elim
          | outgrown => obtain ⟨_, _, x⟩ := hR; exact x.elim
      | halt x w' => cases x <;> simp only [Oper.uponIn] at hh
    · exact ⟨_, _, h.2⟩

variable {P : Program} {L : List Oper} {base : Nat}

/-- What a step leaves. -/
def After (k : Nat) (ρ0 : Env) (s0 : ES) (w0 : World) (ρ : Env) (s : ES) (b : Nat) (K : Fr → ES → Prop) (a' : Act) (w' : World) : Prop :=
  ∃ fr' s' ρ', GoK k ρ0 s0 w0 ρ' s' w' ∧ FR ρ' fr' a' ∧ K fr' s' ∧ s.nx ≤ s'.nx ∧ ∀ c, c < s.nx → c ≠ b → s.get c = none → ρ c = none → s'.get c = none ∧ ρ' c = none

theorem oneOp_wp {k : Nat} {ρ0 ρ : Env} {s0 s : ES} {w0 w : World} {a : Act} {fr : Fr} {o : Oper} {b : Nat} {K : Fr → ES → Prop} (h : oneOp P b o fr s K) (r : Option Nat) (hG : GoK k ρ0 s0 w0 ρ s w) (hF : FR ρ fr a) (hk : k ≤ b)
    (hb : b < s.nx) (hg : s.get b = none) (hρ : ρ b = none) (Q : Exit → Act → World → Prop) : o.wpIn (wideR r) 0 P a w (After k ρ0 s0 w0 ρ s b K) Q := by
  unfold oneOp at h
  split at h
  · obtain ⟨_, h⟩ := h
    have hd : ∀ c, o.op ≠ .defer c := by intro c hc; rw [hc] at h; simp [eopA] at h
    obtain ⟨v, c, cs, t, v', hK, hc, hrun, hv⟩ := eopA_run h (w := w) hF
    have hgo := hG.rel.newCellsAt b hb hg hρ c cs t hc hk
    have hle : ρ.le (fun i => if i = b then some ⟨w.heap.size, 0, c.length, c.length, 0⟩ else ρ i) := fun x l' hx => by
      by_cases h : x = b
      · subst h; rw [hρ] at hx; cases hx
      · simp [h, hx]
    refine ⟨fun f _ => wideR_fn r f, ?_⟩
    rw [Oper.semAt_eq _ _ _ hd, hrun]
    refine ⟨_, _, _, hG.trans hgo, (hF.mono hle).put o.dst v v' hK.1 (hv _ (by simp)), hK.2, Nat.le_refl _, fun x hx hne h1 h2 => ⟨?_, ?_⟩⟩
    · rw [ES.get_add hb, if_neg (fun e => hne e.symm)]; exact h1
    · simp only [hne, if_false]; exact h2
  · refine wpIn_monoQ (Q := CPost s.nx ρ s w (fun _ _ _ => False)) (wpIn_eop (Q := fun _ _ _ => False) h r (GoK.refl hG.rel (Nat.le_refl _)) hF fun fr' s' ρ' w' a' h1 h2 h3 => ?_) ?_
    · exact ⟨fr', s', ρ', hG.trans ((h1.to1 hG.rel).toK hG.nx), h2, h3, h1.nx, fun c hc _ e1 e2 => ⟨h1.gone c hc e1, by rw [h1.old c hc]; exact e2⟩⟩
    · rintro e a w ⟨_, _, _, _, _, _, _, x⟩; exact x.elim

theorem stepG_wp {k : Nat} {ρ0 ρ : Env} {s0 s : ES} {w0 w : World} {a : Act} {fr : Fr} {j : Nat} {K : Fr → ES → Prop} (h : stepG P L base j K fr s) (r : Option Nat) (hG : GoK k ρ0 s0 w0 ρ s w) (hF : FR ρ fr a) (hk : k ≤ base)
    (hb : base + j < s.nx) (hg : s.get (base + j) = none) (hρ : ρ (base + j) = none) (Q : Exit → Act → World → Prop) : wpOpIn (wideR r) 0 P L.toArray Q j (After k ρ0 s0 w0 ρ s (base + j) K) a w := by
  obtain ⟨o, ho⟩ := stepG_ex h
  unfold stepG at h
  simp only [ho] at h
  unfold wpOpIn
  have ho' : L.toArray[j]? = some o := by simpa using ho
  simp only [ho']
  have hrun : ∀ fr, FR ρ fr a → oneOp P (base + j) o fr s K → o.wpIn (wideR r) 0 P a w (After k ρ0 s0 w0 ρ s (base + j) K) Q := fun fr hF h => oneOp_wp h r hG hF (by omega) hb hg hρ Q
  have hskip : okDst fr.n o.dst ∧ K (fr.putO o.dst undefE) s → After k ρ0 s0 w0 ρ s (base + j) K (a.put o.dst undef) w := fun q =>
    ⟨_, _, _, hG, hF.put o.dst undefE undef q.1 VR.undef, q.2, Nat.le_refl _, fun c _ _ e1 e2 => ⟨e1, e2⟩⟩
  unfold gstep at h
  cases hgd : o.guard with
  | none =>
    simp only [hgd] at h
    rw [if_pos (by simp [Region.wanted, hgd])]
    exact hrun fr hF h
  | some jw =>
    obtain ⟨j', want⟩ := jw
    simp only [hgd] at h
    cases ht : guardT L j' with
    | none => simp [ht] at h
    | some t =>
      simp only [ht] at h
      have hy : ((L.toArray[j']?).bind (·.dst)) = some t := by
        simp only [guardT] at ht
        split at ht
        · rename_i oj hj; simp [hj, ht]
        · cases ht
      have hslot := hF.slot t
      split at h
      · rename_i b hb
        rw [hb, VR] at hslot
        have hget : a.tmps[t]? = some (.bool b) := by
          rw [Array.getD_eq_getD_getElem?] at hslot
          cases hx : a.tmps[t]? with
          | none => rw [hx] at hslot; simp [Go.undef] at hslot
          | some v => rw [hx] at hslot; simpa using hslot
        have hyield : yielded L.toArray a.tmps j' = some b := by
          simp only [yielded, hy, Option.bind_some, hget]
        by_cases hbw : b = want
        · subst hbw
          rw [if_pos (by simp [Region.wanted, hgd, hyield])]
          exact hrun fr hF (h.1 rfl)
        · rw [if_neg (by simp [Region.wanted, hgd, hyield, hbw])]
          refine ⟨fun f _ => wideR_fn r f, ?_⟩
          have hbn : b = !want := by cases b <;> cases want <;> simp at hbw ⊢
          exact hskip (h.2 hbn)
      · rename_i hb
        rw [hb, VR] at hslot
        obtain ⟨cs', hcs, hnil⟩ := hslot
        rw [VRs] at hnil
        have hyield : yielded L.toArray a.tmps j' = none := by
          simp only [yielded, hy, Option.bind_some]
          rw [Array.getD_eq_getD_getElem?] at hcs
          cases hx : a.tmps[t]? with
          | none => rfl
          | some v => rw [hx] at hcs; simp at hcs; subst hcs; rfl
        rw [if_neg (by simp [Region.wanted, hgd, hyield])]
        exact ⟨fun f _ => wideR_fn r f, hskip h⟩
      · exact h.elim

/-! What is reached. -/
def Kept (base : Nat) (pl : List (Nat × List Nat)) (ρ : Env) (s : ES) : Prop := ∀ p ∈ pl, base + p.1 < s.nx ∧ s.get (base + p.1) = none ∧ ρ (base + p.1) = none

theorem stepG_shape {j : Nat} {K : Fr → ES → Prop} {fr : Fr} {s : ES} (h : stepG P L base j K fr s) : stepG P L base j (fun f t => ∃ v t0, f = fr.putO (dstI L j) v ∧ Ext 0 none t0 t ∧ K (fr.putO (dstI L j) v) t0) fr s := by
  obtain ⟨o, ho⟩ := stepG_ex h
  refine stepG_sim ho h ((FEq.refl fr).agree _) (Ext.refl 0 s) (free_none _ _) (by simp) fun v t t2 e1 _ hq => ?_
  simp only [dstI, ho]
  exact ⟨v, t, rfl, e1, hq⟩

theorem reach {k : Nat} {ρ0 : Env} {s0 : ES} {w0 : World} {K : Fr → ES → Prop} (hK : KCong K) (hk : k ≤ base) {ts : List Tmp} (rest : List (Nat × List Nat)) : ∀ (pre : List (Nat × List Nat)) (fr : Fr) (s : ES) (ρ : Env) (w : World) (a : Act),
    canon P L base K (pre ++ rest) fr s → GoK k ρ0 s0 w0 ρ s w → FR ρ fr a → Kept base pre ρ s → pre.Pairwise (fun x y => x.1 ≠ y.1) → (∀ p ∈ pre, Apt (dstI L p.1) ts) → ∃ f t, canon P L base K rest f t ∧ Agree ts fr f
  | [], fr, s, ρ, w, a, h, _, _, _, _, _ => ⟨fr, s, h, (FEq.refl fr).agree _⟩
  | (c, rc) :: pre, fr, s, ρ, w, a, h, hG, hF, hkept, hnd, hp => by
    simp only [List.cons_append, canon] at h
    obtain ⟨h1, h2, h3⟩ := hkept (c, rc) (by simp)
    obtain ⟨a', w', fr', s', ρ', hG', hF', ⟨v, t0, rfl, e1, hq⟩, hnx, hold⟩ := wpOpIn_ex (stepG_wp (stepG_shape h) none hG hF hk h1 h2 h3 _)
    have hc := canon_congr hK _ _ _ _ _ hq.2 (FEq.refl _) e1
    rw [List.pairwise_cons] at hnd
    obtain ⟨f, t, r1, r2⟩ := reach hK hk rest pre _ s' ρ' w' a' hc hG' hF' (fun p hpp => by
      obtain ⟨q1, q2, q3⟩ := hkept p (by simp [hpp])
      have hne : base + p.1 ≠ base + c := fun e => hnd.1 p hpp (by simp only; omega)
      exact ⟨by omega, hold _ q1 hne q2 q3⟩) hnd.2 (fun p hpp => hp p (by simp [hpp]))
    exact ⟨f, t, r1, ((hp (c, rc) (by simp)).agree fr v).trans r2⟩

/-! The check. -/
def aptB (d : Option Tmp) (ts : List Tmp) : Bool := match d with | some t => !ts.elem t | none => true
def dneB (d e : Option Tmp) : Bool := match d, e with | some a, some b => !(a == b) | _, _ => true
theorem aptB_spec {d : Option Tmp} {ts : List Tmp} (h : aptB d ts = true) : Apt d ts := by
  rintro t rfl ht
  simp [aptB, ht] at h
theorem dneB_spec {d e : Option Tmp} (h : dneB d e = true) : Dne d e := by
  rintro t rfl rfl
  simp [dneB] at h
def clsB (a b : Cls) : Bool := match a, b with | .P, .P => true | .R, .R => true | .A, .A => true | .E, .E => true | _, _ => false
theorem clsB_spec {a b : Cls} (h : clsB a b = true) : a = b := by cases a <;> cases b <;> simp [clsB] at h ⊢

def okKind (L : List Oper) (x y : Nat) (ry : List Nat) : Bool :=
  clsB (clsAt L y) .P || clsB (clsAt L y) .A || clsB (clsAt L x) .P || (clsB (clsAt L x) .R && clsB (clsAt L y) .R) || (clsB (clsAt L x) .R && ry.elem x)
def wB (W : List (List Nat)) (y x : Nat) : Bool := (W.getD y []).elem x
def okB (L : List Oper) (W : List (List Nat)) (x y : Nat × List Nat) : Bool :=
  !wB W x.1 y.1 && !(x.1 == y.1) && dneB (dstI L x.1) (dstI L y.1) && aptB (dstI L y.1) (rdsI L x.1) &&
  (wB W y.1 x.1 || (aptB (dstI L x.1) (rdsI L y.1) && okKind L x.1 y.1 y.2)) &&
  x.2.all (fun r => !(r == y.1) && aptB (dstI L y.1) (rdsI L r) && dneB (dstI L r) (dstI L y.1)) &&
  y.2.all (fun r => r == x.1 || (aptB (dstI L x.1) (rdsI L r) && dneB (dstI L x.1) (dstI L r)) || wB W r x.1)
def ownB (L : List Oper) (x : Nat × List Nat) : Bool := aptB (dstI L x.1) (rdsI L x.1) && !x.2.elem x.1 && (x.2.isEmpty || clsB (clsAt L x.1) .E)
def pairsB (L : List Oper) (W : List (List Nat)) : List (Nat × List Nat) → Bool
  | [] => true
  | x :: rest => ownB L x && rest.all (okB L W x) && pairsB L W rest
def bindsL (L : List Oper) (j : Nat) : List Nat := match L[j]? with | some o => (o.after.toList.filter (Region.binds .any)).map (·.on) | none => []
def wOkB (L : List Oper) (W : List (List Nat)) (j : Nat) : Bool :=
  (W.getD j []).all (fun c => (bindsL L j).any fun e => e == c || wB W e c) && (bindsL L j).all (fun e => wB W j e && !(e == j) && Nat.blt e L.length)
def ancs (L : List Oper) : List Nat → List (List Nat) → List (List Nat)
  | [], r => r
  | j :: js, r => ancs L js (r ++ [((bindsL L j).foldl (fun m e => (if m.elem e then m else e :: m) ++ ((r.getD e []).filter fun x => !m.elem x && !(x == e))) [])])
def okPlan (L : List Oper) (pl : List (Nat × List Nat)) : Bool :=
  let W := ancs L (List.range L.length) []
  Nat.beq pl.length L.length && Nat.ble W.length L.length && (List.range L.length).all (fun i => wOkB L W i && (pl.map (·.1)).elem i) && pl.all (fun p => Nat.blt p.1 L.length) && pairsB L W pl

end Go.E
