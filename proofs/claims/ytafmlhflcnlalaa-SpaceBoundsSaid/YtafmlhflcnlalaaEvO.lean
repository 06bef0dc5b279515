/-
  The layer E, part O: regions that draw their order: the rule. Own work.
-/
import Derived.Test.YtafmlhflcnlalaaEvN
namespace Go.E
set_option linter.all false

structure OkB (L : List Oper) (W : List (List Nat)) (x y : Nat × List Nat) : Prop where
  w : wB W x.1 y.1 = false
  ne : x.1 ≠ y.1
  dne : Dne (dstI L x.1) (dstI L y.1)
  bwd : Apt (dstI L y.1) (rdsI L x.1)
  kind : wB W y.1 x.1 = true ∨ (Apt (dstI L x.1) (rdsI L y.1) ∧ okKind L x.1 y.1 y.2 = true)
  chk1 : ∀ r ∈ x.2, r ≠ y.1 ∧ Apt (dstI L y.1) (rdsI L r) ∧ Dne (dstI L r) (dstI L y.1)
  chk2 : ∀ r ∈ y.2, r = x.1 ∨ (Apt (dstI L x.1) (rdsI L r) ∧ Dne (dstI L x.1) (dstI L r)) ∨ wB W r x.1 = true
theorem okB_spec {L : List Oper} {W : List (List Nat)} {x y : Nat × List Nat} (h : okB L W x y = true) : OkB L W x y := by
  simp only [okB, Bool.and_eq_true, Bool.or_eq_true, List.all_eq_true, Bool.not_eq_true', beq_iff_eq, beq_eq_false_iff_ne] at h
  obtain ⟨⟨⟨⟨⟨⟨h1, h2⟩, h3⟩, h4⟩, h5⟩, h6⟩, h7⟩ := h
  refine ⟨h1, h2, dneB_spec h3, aptB_spec h4, h5.imp id fun q => ⟨aptB_spec q.1, q.2⟩, fun r hr => ?_, fun r hr => ?_⟩
  · obtain ⟨⟨a, b⟩, c⟩ := h6 r hr
    exact ⟨a, aptB_spec b, dneB_spec c⟩
  · rcases h7 r hr with (a | ⟨b, c⟩) | d
    · exact .inl a
    · exact .inr (.inl ⟨aptB_spec b, dneB_spec c⟩)
    · exact .inr (.inr d)
theorem pairsB_spec {L : List Oper} {W : List (List Nat)} : ∀ {pl : List (Nat × List Nat)}, pairsB L W pl = true → (∀ p ∈ pl, ownB L p = true) ∧ pl.Pairwise (OkB L W)
  | [], _ => ⟨by simp, .nil⟩
  | x :: rest, h => by
    simp only [pairsB, Bool.and_eq_true, List.all_eq_true] at h
    obtain ⟨h1, h2⟩ := pairsB_spec h.2
    exact ⟨fun p hp => (List.mem_cons.1 hp).elim (fun e => e ▸ h.1.1) (h1 p), List.pairwise_cons.2 ⟨fun y hy => okB_spec (h.1.2 y hy), h2⟩⟩

def idx (pl : List (Nat × List Nat)) : List Nat := pl.map (·.1)
theorem mem_idx {pl : List (Nat × List Nat)} {i : Nat} : i ∈ idx pl ↔ ∃ p ∈ pl, p.1 = i := by simp [idx]

variable {P : Program} {L : List Oper} {base : Nat}

theorem pull {k : Nat} {ρ0 ρ : Env} {s0 s : ES} {w0 w : World} {a : Act} {fr : Fr} {W : List (List Nat)} {K : Fr → ES → Prop} (hK : KCong K) (hk : k ≤ base) {j : Nat} {rs : List Nat} {pre post : List (Nat × List Nat)}
    (h : canon P L base K (pre ++ (j, rs) :: post) fr s) (hG : GoK k ρ0 s0 w0 ρ s w) (hF : FR ρ fr a) (hkept : Kept base (pre ++ (j, rs) :: post) ρ s) (hown : ∀ p ∈ pre ++ (j, rs) :: post, ownB L p = true) (hpw : (pre ++ (j, rs) :: post).Pairwise (OkB L W))
    (hWC : ∀ i, i ∉ idx (pre ++ (j, rs) :: post) → ∀ c, wB W i c = true → c ∉ idx (pre ++ (j, rs) :: post)) (hj : ∀ c, wB W j c = true → c ∉ idx (pre ++ (j, rs) :: post)) : stepG P L base j (canon P L base K (pre ++ post)) fr s := by
  rw [List.pairwise_append] at hpw
  obtain ⟨hpp, hpq, hpr⟩ := hpw
  rw [List.pairwise_cons] at hpq
  have hcj : ∀ p ∈ pre, OkB L W p (j, rs) := fun p hp => hpr p hp (j, rs) (by simp)
  have hun : ∀ p ∈ pre, Apt (dstI L p.1) (rdsI L j) ∧ okKind L p.1 j rs = true := fun p hp => by
    rcases (hcj p hp).kind with hw | hw
    · exact absurd (mem_idx.2 ⟨p, by simp [hp], rfl⟩) (hj _ hw)
    · exact hw
  have hnd : pre.Pairwise (fun x y => x.1 ≠ y.1) := hpp.imp fun h => h.ne
  by_cases hPA : clsAt L j = .P ∨ clsAt L j = .A
  · -- its value, from the one order
    obtain ⟨f, t, hc, hag⟩ := reach hK hk (ts := rdsI L j) ((j, rs) :: post) pre fr s ρ w a h hG hF (fun p hp => hkept p (by simp [hp])) hnd fun p hp => (hun p hp).1
    simp only [canon] at hc
    obtain ⟨o, ho⟩ := stepG_ex hc
    have hd : dstI L j = o.dst := by simp only [dstI, ho]
    have hrd : rdsI L j = rdsOf L o := by simp only [rdsI, ho]
    obtain ⟨v, oo, hwr, hv⟩ := stepG_PA ho (by simpa only [clsAt, ho] using hPA) hc
    have hval : ∀ f2 t2 (K2 : Fr → ES → Prop), Agree (rdsI L j) f f2 → (stepG P L base j K2 f2 t2 ↔ (oo.isSome = true → base + j < t2.nx) ∧ K2 (f2.putO (dstI L j) v) (t2.addO (base + j) oo)) := by
      intro f2 t2 K2 ha
      rw [stepG_move ho (hrd ▸ ha), hv, hd]
      cases hx : o.dst with
      | none => exact Iff.rfl
      | some u => simp only [lk_putO, if_true]
    obtain ⟨q1, q2, q3⟩ := hkept (j, rs) (by simp)
    refine (hval fr s _ hag.symm).2 ⟨fun _ => q1, ?_⟩
    refine pullPA hK (fun f2 t2 K2 ha hst => ((hval f2 t2 K2 (hag.symm.trans ha)).1 hst).2) post pre fr _ s _ h ((FEq.refl fr).agree _) (FEq.refl _) ?_ ?_ fun p hp => ?_
    · cases oo with
      | none => exact ⟨rfl, fun _ => rfl⟩
      | some x => exact Ext.add q1
    · intro _
      exact ⟨q2, q1, hwr⟩
    · have := hcj p hp
      exact ⟨this.ne, (hun p hp).1, this.bwd, this.dne, this.chk1⟩
  · -- an act or a reading
    have hsplit : ∀ (p1 p2 : List (Nat × List Nat)), pre = p1 ++ p2 → ApartREs L j rs p2 := by
      intro p1 p2
      induction p2 generalizing p1 with
      | nil => intro _; trivial
      | cons c p2 ih =>
        intro e
        refine ⟨?_, ih (p1 ++ [c]) (by simp [e])⟩
        have hc : c ∈ pre := by simp [e]
        have hc2 : c ∈ pre ++ (j, rs) :: post := by simp [e]
        have hok := hcj c hc
        obtain ⟨hfwd, hkind⟩ := hun c hc
        have hown' := hown c hc2
        simp only [ownB, Bool.and_eq_true, Bool.or_eq_true] at hown'
        obtain ⟨⟨ho1, ho2⟩, ho3⟩ := hown'
        have hk2 : clsAt L c.1 = .P ∨ (clsAt L c.1 = .R ∧ clsAt L j = .R) ∨ (clsAt L c.1 = .R ∧ c.1 ∈ rs) := by
          simp only [okKind, Bool.or_eq_true, Bool.and_eq_true] at hkind
          rcases hkind with (((h | h) | h) | h) | h
          · exact absurd (.inl (clsB_spec h)) hPA
          · exact absurd (.inr (clsB_spec h)) hPA
          · exact .inl (clsB_spec h)
          · exact .inr (.inl ⟨clsB_spec h.1, clsB_spec h.2⟩)
          · exact .inr (.inr ⟨clsB_spec h.1, by simpa using h.2⟩)
        have hcp2 : ∀ y ∈ p2, OkB L W c y := by
          rw [e, List.pairwise_append] at hpp
          exact (List.pairwise_cons.1 hpp.2.1).1
        have hp1c : ∀ y ∈ p1, OkB L W y c := by
          rw [e, List.pairwise_append] at hpp
          exact fun y hy => hpp.2.2 y hy c (by simp)
        have hnp2 : c.1 ∉ p2.map (·.1) := by
          intro hm
          obtain ⟨y, hy, hye⟩ := List.mem_map.1 hm
          exact (hcp2 y hy).ne hye.symm
        refine ⟨?_, hfwd, hok.bwd, aptB_spec ho1, hok.dne, ?_, ?_⟩
        · rcases ho3 with ho3 | ho3
          · simpa using ho3
          · have hE := clsB_spec ho3
            rcases hk2 with h | h | h <;> simp [hE] at h
        · rcases hk2 with h | h | h
          · exact .inl h
          · exact .inr (.inl h)
          · exact .inr (.inr ⟨h.1, h.2, hnp2⟩)
        · intro r hr
          rcases hok.chk2 r hr with h | h | h
          · exact .inr (.inl h)
          · exact .inr (.inr h)
          · -- it is owed to what stands before
            have hri : r ∈ idx (pre ++ (j, rs) :: post) := by
              by_cases hx : r ∈ idx (pre ++ (j, rs) :: post)
              · exact hx
              · exact absurd (mem_idx.2 ⟨c, hc2, rfl⟩) (hWC r hx _ h)
            obtain ⟨y, hy, rfl⟩ := mem_idx.1 hri
            rw [e] at hy
            simp only [List.append_assoc, List.mem_append, List.mem_cons] at hy
            rcases hy with hy | (hy | hy) | hy | hy
            · have := (hp1c y hy).w
              rw [this] at h; cases h
            · subst hy; exact .inr (.inl rfl)
            · exact .inl (List.mem_map.2 ⟨y, hy, rfl⟩)
            · subst hy
              have := hown (j, rs) (by simp)
              simp only [ownB, Bool.and_eq_true, Bool.not_eq_true'] at this
              have h2 := this.1.2
              exact absurd hr (by simpa using h2)
            · exact absurd rfl ((hpq.1 y hy).chk1 _ hr).1
    have h1 := pullRE hK post pre fr s h (hsplit [] pre rfl)
    obtain ⟨o, ho⟩ := stepG_ex h1
    refine stepG_sim ho h1 ((FEq.refl fr).agree _) (Ext.refl 0 s) (free_none _ _) (by simp) fun v t t2 e1 _ hq => ?_
    exact canon_congr hK _ _ _ _ _ hq.2 (FEq.refl _) e1

end Go.E
