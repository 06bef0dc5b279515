/-
  The layer E, part H: a call that is known in a small state, made in a greater one. Own work.
-/
import Derived.Test.YtafmlhflcnlalaaEvG
namespace Go.E
set_option linter.all false

mutual
def EV.ren (π : Nat → Nat) : EV → EV
  | .unk => .unk
  | .bool b => .bool b
  | .int k n => .int k n
  | .str s => .str s
  | .ptr none => .ptr none
  | .ptr (some a) => .ptr (some ⟨π a.b, a.o⟩)
  | .slice none n c => .slice none n c
  | .slice (some a) n c => .slice (some ⟨π a.b, a.o⟩) n c
  | .map none => .map none
  | .map (some r) => .map (some (π r))
  | .fn f as bs => .fn f (renL π as) (renL π bs)
  | .nilFn => .nilFn
  | .iface t v => .iface t (EV.ren π v)
  | .nilIface => .nilIface
  | .agg cs => .agg (renL π cs)
  | .tuple cs => .tuple (renL π cs)
def renL (π : Nat → Nat) : List EV → List EV
  | [] => []
  | v :: vs => EV.ren π v :: renL π vs
end
def renP (π : Nat → Nat) : List (EV × EV) → List (EV × EV)
  | [] => []
  | (x, y) :: r => (x.ren π, y.ren π) :: renP π r
def EO.ren (π : Nat → Nat) : EO → EO
  | .cells c t z wr fz => .cells (renL π c) t z wr fz
  | .map es => .map (renP π es)
  | .sIter s p => .sIter s p
def ER.ren (π : Nat → Nat) : ER → ER
  | .ret v => .ret (v.ren π)
  | .pan v => .pan (v.ren π)

theorem renL_length (π : Nat → Nat) : ∀ l : List EV, (renL π l).length = l.length
  | [] => rfl
  | v :: l => by simp [renL, renL_length π l]
theorem renL_get (π : Nat → Nat) : ∀ (l : List EV) (i : Nat), (renL π l)[i]? = (l[i]?).map (EV.ren π)
  | [], i => by simp [renL]
  | v :: l, i => by
    cases i with
    | zero => simp [renL]
    | succ i => simp [renL, renL_get π l i]
theorem renP_length (π : Nat → Nat) : ∀ l : List (EV × EV), (renP π l).length = l.length
  | [] => rfl
  | (_, _) :: l => by simp [renP, renP_length π l]
theorem renP_get (π : Nat → Nat) : ∀ (l : List (EV × EV)) (i : Nat), (renP π l)[i]? = (l[i]?).map fun x => (x.1.ren π, x.2.ren π)
  | [], i => by simp [renP]
  | (_, _) :: l, i => by
    cases i with
    | zero => simp [renP]
    | succ i => simp [renP, renP_get π l i]

mutual
/-- From the small state's names to the great one's. -/
theorem VR.renTo {ρ ρ' : Env} {π : Nat → Nat} (h : ∀ i l, ρ i = some l → ρ' (π i) = some l) : ∀ (v : EV) (v' : Value), VR ρ v v' → VR ρ' (v.ren π) v'
  | .unk, _, _ => by simp [EV.ren, VR]
  | .bool _, _, x => by simpa [EV.ren, VR] using x
  | .int _ _, _, x => by simpa [EV.ren, VR] using x
  | .str _, _, x => by simpa [EV.ren, VR] using x
  | .ptr none, _, x => by simpa [EV.ren, VR] using x
  | .ptr (some _), _, x => by
    simp only [EV.ren, VR] at x ⊢
    obtain ⟨l, a, b⟩ := x; exact ⟨l, h _ _ a, b⟩
  | .slice none _ _, _, x => by simpa [EV.ren, VR] using x
  | .slice (some _) _ _, _, x => by
    simp only [EV.ren, VR] at x ⊢
    obtain ⟨l, c', o', a, b⟩ := x; exact ⟨l, c', o', h _ _ a, b⟩
  | .map none, _, x => by simpa [EV.ren, VR] using x
  | .map (some _), _, x => by
    simp only [EV.ren, VR] at x ⊢
    obtain ⟨l, a, b⟩ := x; exact ⟨l, h _ _ a, b⟩
  | .fn _ as bs, _, x => by
    simp only [EV.ren, VR] at x ⊢
    obtain ⟨as', bs', a, b, c⟩ := x; exact ⟨as', bs', a, VRs.renTo h as _ b, VRs.renTo h bs _ c⟩
  | .nilFn, _, x => by simpa [EV.ren, VR] using x
  | .iface _ y, _, x => by
    simp only [EV.ren, VR] at x ⊢
    obtain ⟨z, a, b⟩ := x; exact ⟨z, a, VR.renTo h y z b⟩
  | .nilIface, _, x => by simpa [EV.ren, VR] using x
  | .agg cs, _, x => by
    simp only [EV.ren, VR] at x ⊢
    obtain ⟨cs', a, b⟩ := x; exact ⟨cs', a, VRs.renTo h cs _ b⟩
  | .tuple cs, _, x => by
    simp only [EV.ren, VR] at x ⊢
    obtain ⟨cs', a, b⟩ := x; exact ⟨cs', a, VRs.renTo h cs _ b⟩
theorem VRs.renTo {ρ ρ' : Env} {π : Nat → Nat} (h : ∀ i l, ρ i = some l → ρ' (π i) = some l) : ∀ (v : List EV) (v' : List Value), VRs ρ v v' → VRs ρ' (renL π v) v'
  | [], _, x => by simpa [renL, VRs] using x
  | v :: vs, _, x => by
    simp only [renL, VRs] at x ⊢
    obtain ⟨v', l', a, b, c⟩ := x; exact ⟨v', l', a, VR.renTo h v v' b, VRs.renTo h vs l' c⟩
end
mutual
/-- Back: of values whose names are all known. -/
theorem VR.renFrom {ρ ρ' : Env} {π : Nat → Nat} {k : Nat} (h : ∀ i, i < k → ρ i = ρ' (π i)) : ∀ (v : EV) (v' : Value), VR ρ' (v.ren π) v' → v.bel k → VR ρ v v'
  | .unk, _, _, _ => by simp [VR]
  | .bool _, _, x, _ => by simpa [EV.ren, VR] using x
  | .int _ _, _, x, _ => by simpa [EV.ren, VR] using x
  | .str _, _, x, _ => by simpa [EV.ren, VR] using x
  | .ptr none, _, x, _ => by simpa [EV.ren, VR] using x
  | .ptr (some a), _, x, hb => by
    simp only [EV.ren, VR, EV.bel] at x hb ⊢
    rw [h _ hb]; exact x
  | .slice none _ _, _, x, _ => by simpa [EV.ren, VR] using x
  | .slice (some a) _ _, _, x, hb => by
    simp only [EV.ren, VR, EV.bel] at x hb ⊢
    rw [h _ hb]; exact x
  | .map none, _, x, _ => by simpa [EV.ren, VR] using x
  | .map (some _), _, x, hb => by
    simp only [EV.ren, VR, EV.bel] at x hb ⊢
    rw [h _ hb]; exact x
  | .fn _ as bs, _, x, hb => by
    simp only [EV.ren, VR, EV.bel] at x hb ⊢
    obtain ⟨as', bs', a, b, c⟩ := x; exact ⟨as', bs', a, VRs.renFrom h as _ b hb.1, VRs.renFrom h bs _ c hb.2⟩
  | .nilFn, _, x, _ => by simpa [EV.ren, VR] using x
  | .iface _ y, _, x, hb => by
    simp only [EV.ren, VR, EV.bel] at x hb ⊢
    obtain ⟨z, a, b⟩ := x; exact ⟨z, a, VR.renFrom h y z b hb⟩
  | .nilIface, _, x, _ => by simpa [EV.ren, VR] using x
  | .agg cs, _, x, hb => by
    simp only [EV.ren, VR, EV.bel] at x hb ⊢
    obtain ⟨cs', a, b⟩ := x; exact ⟨cs', a, VRs.renFrom h cs _ b hb⟩
  | .tuple cs, _, x, hb => by
    simp only [EV.ren, VR, EV.bel] at x hb ⊢
    obtain ⟨cs', a, b⟩ := x; exact ⟨cs', a, VRs.renFrom h cs _ b hb⟩
theorem VRs.renFrom {ρ ρ' : Env} {π : Nat → Nat} {k : Nat} (h : ∀ i, i < k → ρ i = ρ' (π i)) : ∀ (v : List EV) (v' : List Value), VRs ρ' (renL π v) v' → allBelow k v → VRs ρ v v'
  | [], _, x, _ => by simpa [renL, VRs] using x
  | v :: vs, _, x, hb => by
    simp only [renL, VRs, allBelow] at x hb ⊢
    obtain ⟨v', l', a, b, c⟩ := x; exact ⟨v', l', a, VR.renFrom h v v' b hb.1, VRs.renFrom h vs l' c hb.2⟩
end

theorem BR.renTo {ρ ρ' : Env} {π : Nat → Nat} (h : ∀ i l, ρ i = some l → ρ' (π i) = some l) {w : World} {l : Loc} {o : EO} (hb : BR ρ w l o) : BR ρ' w l (o.ren π) := by
  cases o with
  | cells c t z wr fz =>
    obtain ⟨h1, h2, h3, h4, cs, fr, h5, h6, h7, h8⟩ := hb
    refine ⟨by rw [renL_length]; exact h1, h2, h3, h4, cs, fr, h5, h6, fun i v hi => ?_, h8⟩
    rw [renL_get] at hi
    cases hc : c[i]? with
    | none => simp [hc] at hi
    | some u =>
      simp [hc] at hi; subst hi
      obtain ⟨v', a, b⟩ := h7 i u hc
      exact ⟨v', a, b.renTo h _ _⟩
  | map es =>
    obtain ⟨es', cl, h1, h2, h3⟩ := hb
    refine ⟨es', cl, h1, by rw [renP_length]; exact h2, fun i k v hi => ?_⟩
    rw [renP_get] at hi
    cases hc : es[i]? with
    | none => simp [hc] at hi
    | some u =>
      simp [hc] at hi
      obtain ⟨e, a, b, c⟩ := h3 i u.1 u.2 hc
      rw [← hi.1, ← hi.2]
      exact ⟨e, a, b.renTo h _ _, c.renTo h _ _⟩
  | sIter s p => exact hb
theorem BR.renFrom {ρ ρ' : Env} {π : Nat → Nat} {k : Nat} (h : ∀ i, i < k → ρ i = ρ' (π i)) {w : World} {l : Loc} {o : EO} (hb : BR ρ' w l (o.ren π)) (hk : o.bel k) : BR ρ w l o := by
  cases o with
  | cells c t z wr fz =>
    obtain ⟨h1, h2, h3, h4, cs, fr, h5, h6, h7, h8⟩ := hb
    refine ⟨by rw [renL_length] at h1; exact h1, h2, h3, h4, cs, fr, h5, h6, fun i v hi => ?_, h8⟩
    obtain ⟨v', a, b⟩ := h7 i (v.ren π) (by rw [renL_get, hi]; rfl)
    exact ⟨v', a, b.renFrom h _ _ (allBelow_get hk hi)⟩
  | map es =>
    obtain ⟨es', cl, h1, h2, h3⟩ := hb
    refine ⟨es', cl, h1, by rw [renP_length] at h2; exact h2, fun i x y hi => ?_⟩
    obtain ⟨e, a, b, c⟩ := h3 i (x.ren π) (y.ren π) (by rw [renP_get, hi]; rfl)
    exact ⟨e, a, b.renFrom h _ _ (pairsBelow_get hk hi).1, c.renFrom h _ _ (pairsBelow_get hk hi).2⟩
  | sIter s p => exact hb

/-- The great state's blocks behind the call: those that the call tells, those that it was not handed. -/
def Merged (π : Nat → Nat) (s s' S S' : ES) : Prop :=
  s.nx ≤ s'.nx ∧ S'.nx = S.nx + (s'.nx - s.nx) ∧ ∀ j O, S'.get j = some O → (∃ i o, s'.get i = some o ∧ π i = j ∧ O = o.ren π) ∨ (S.get j = some O ∧ ∀ i o, s.get i = some o → π i ≠ j)

theorem ECalls.frame {P : Program} {g : FuncId} {args args2 : List EV} {s S : ES} {Q Q2 : ER → ES → Prop} (h : ECalls P g args s Q) (π : Nat → Nat) (hargs : args2 = renL π args) (hab : allBelow s.nx args)
    (hinj : ∀ i j, i < s.nx → j < s.nx → π i = π j → i = j) (hlt : ∀ i, i < s.nx → π i < S.nx) (hnew : ∀ i, π (s.nx + i) = S.nx + i) (hbl : blBelow s.nx s.bl)
    (hget : ∀ i o, s.get i = some o → S.get (π i) = some (o.ren π))
    (hQ : ∀ x s', Q x s' → ∃ S', Merged π s s' S S' ∧ Q2 (x.ren π) S') : ECalls P g args2 S Q2 := by
  subst hargs
  intro ρ w args' hR hA
  let ρg : Env := fun i => if i < s.nx then ρ (π i) else none
  have hgi : ∀ i, i < s.nx → ρg i = ρ (π i) := fun i hi => if_pos hi
  have hsb : ∀ i o, s.get i = some o → i < s.nx ∧ o.bel s.nx := fun i o hi => blBelow_lkp hbl (ES.get_lt hi).2
  have hRg : Rel ρg s w := by
    refine ⟨fun b o l hg hr => ?_, fun i hi => if_neg (by omega), fun b b' o o' l l' hg hg' hr hr' hne hw => ?_⟩
    · have hb := hsb b o hg
      rw [hgi b hb.1] at hr
      exact (hR.live _ _ _ (hget b o hg) hr).renFrom hgi hb.2
    · have hb := hsb b o hg
      have hb' := hsb b' o' hg'
      rw [hgi b hb.1] at hr
      rw [hgi b' hb'.1] at hr'
      exact hR.sep _ _ _ _ _ _ (hget b o hg) (hget b' o' hg') hr hr' (fun e => hne (hinj b b' hb.1 hb'.1 e)) (by cases o <;> exact hw)
  have hown : ∀ r, Owned ρg s r → ∃ b o l, s.get b = some o ∧ ρ (π b) = some l ∧ l.r = r ∧ o.wr = true := by
    rintro r ⟨b, o, l, hg, hr, hw, e⟩
    rw [hgi b (hsb b o hg).1] at hr
    exact ⟨b, o, l, hg, hr, e, hw⟩
  have hwr : ∀ o : EO, (o.ren π).wr = o.wr := fun o => by cases o <;> rfl
  have hcall := h ρg w args' hRg (VRs.renFrom hgi args _ hA hab)
  have main : ∀ e w', EPost ρg s w Q e w' → EPost ρ S w Q2 e w' := by
    rintro e w' ⟨x, s', ρg', hret, hG, hq⟩
    obtain ⟨S', ⟨hle, hnx, hm0⟩, hq2⟩ := hQ x s' hq
    have hm : ∀ j O, S'.get j = some O → (∃ i o, s'.get i = some o ∧ i < s'.nx ∧ π i = j ∧ O = o.ren π) ∨ (j < S.nx ∧ S.get j = some O ∧ ∀ i o, s.get i = some o → π i ≠ j) := by
      intro j O hj
      rcases hm0 j O hj with ⟨i, o, a1, a2, a3⟩ | ⟨a1, a2⟩
      · exact .inl ⟨i, o, a1, (ES.get_lt a1).1, a2, a3⟩
      · exact .inr ⟨(ES.get_lt a1).1, a1, a2⟩
    let ρ' : Env := fun j => if j < S.nx then ρ j else ρg' (s.nx + (j - S.nx))
    have hπ : ∀ i l, ρg' i = some l → ρ' (π i) = some l := by
      intro i l hi
      by_cases hlt' : i < s.nx
      · rw [hG.old i hlt', hgi i hlt'] at hi
        show (if π i < S.nx then ρ (π i) else _) = _
        rw [if_pos (hlt i hlt')]; exact hi
      · have : π i = S.nx + (i - s.nx) := by rw [← hnew (i - s.nx)]; congr 1; omega
        show (if π i < S.nx then ρ (π i) else _) = _
        rw [if_neg (by omega), this, show s.nx + (S.nx + (i - s.nx) - S.nx) = i by omega]; exact hi
    have hπ' : ∀ i, i < s'.nx → ρ' (π i) = ρg' i := by
      intro i hi
      by_cases hlt' : i < s.nx
      · show (if π i < S.nx then ρ (π i) else _) = _
        rw [if_pos (hlt i hlt'), hG.old i hlt', hgi i hlt']
      · have : π i = S.nx + (i - s.nx) := by rw [← hnew (i - s.nx)]; congr 1; omega
        show (if π i < S.nx then ρ (π i) else _) = _
        rw [if_neg (by omega), this, show s.nx + (S.nx + (i - s.nx) - S.nx) = i by omega]
    have hπinj : ∀ i j, π i = π j → i = j := by
      intro i j hij
      by_cases h1 : i < s.nx <;> by_cases h2 : j < s.nx
      · exact hinj i j h1 h2 hij
      · have a1 := hlt i h1
        have : π j = S.nx + (j - s.nx) := by rw [← hnew (j - s.nx)]; congr 1; omega
        omega
      · have a1 := hlt j h2
        have : π i = S.nx + (i - s.nx) := by rw [← hnew (i - s.nx)]; congr 1; omega
        omega
      · have a1 : π j = S.nx + (j - s.nx) := by rw [← hnew (j - s.nx)]; congr 1; omega
        have a2 : π i = S.nx + (i - s.nx) := by rw [← hnew (i - s.nx)]; congr 1; omega
        omega
    have hold : ∀ j, j < S.nx → ρ' j = ρ j := fun j hj => if_pos hj
    have hlei : ρ.le ρ' := fun j l hj => by
      rcases Nat.lt_or_ge j S.nx with h1 | h1
      · rw [hold j h1]; exact hj
      · rw [hR.fresh j h1] at hj; cases hj
    -- a block of the frame lies as it lay
    have hframe : ∀ j O l, S.get j = some O → ρ j = some l → (∀ i o, s.get i = some o → π i ≠ j) → w'.heap[l.r]? = w.heap[l.r]? := by
      intro j O l hg hr hne
      have hb := hR.live j O l hg hr
      refine hG.step.block l.r hb.lt ?_
      intro ho
      obtain ⟨b, o, l2, c1, c2, c3, c4⟩ := hown _ ho
      exact hR.sep (π b) j _ _ l2 l (hget b o c1) hg c2 hr (hne b o c1) (by rw [hwr]; exact c4) c3
    refine ⟨x.ren π, S', ρ', ?_, ?_, hq2⟩
    · cases x with
      | ret v => obtain ⟨v', e1, e2⟩ := hret; exact ⟨v', e1, e2.renTo hπ _ _⟩
      | pan v => obtain ⟨v', e1, e2⟩ := hret; exact ⟨v', e1, e2.renTo hπ _ _⟩
    · refine ⟨⟨fun j O l hg hr => ?_, fun j hj => ?_, fun j j' O O' l l' hg hg' hr hr' hne hw => ?_⟩, hold, by omega, hR, fun j hj hn => ?_, ?_, fun j O l hg hr => ?_⟩
      · rcases hm j O hg with ⟨i, o, a1, a2, a3, a4⟩ | ⟨a1, a2, a3⟩
        · subst a3; subst a4
          rw [hπ' i a2] at hr
          exact (hG.rel.live i o l a1 hr).renTo hπ
        · rw [hold j a1] at hr
          exact (hR.live j O l a2 hr).mono hlei (hframe j O l a2 hr a3)
      · show (if j < S.nx then ρ j else _) = _
        rw [if_neg (by omega)]
        exact hG.rel.fresh _ (by omega)
      · rcases hm j O hg with ⟨i, o, a1, a2, a3, a4⟩ | ⟨a1, a2, a3⟩
        · subst a3; subst a4
          rw [hπ' i a2] at hr
          rw [hwr] at hw
          rcases hm j' O' hg' with ⟨i', o', b1, b2, b3, b4⟩ | ⟨b1, b2, b3⟩
          · subst b3; subst b4
            rw [hπ' i' b2] at hr'
            exact hG.rel.sep i i' o o' l l' a1 b1 hr hr' (fun e => hne (by rw [e])) hw
          · rw [hold j' b1] at hr'
            have hlt' := (hR.live j' O' l' b2 hr').lt
            rcases hG.src i o l a1 hr with ⟨b0, o0, l0, c1, c2, c3, c4⟩ | c1
            · rw [hgi b0 (hsb b0 o0 c1).1] at c2
              have := hR.sep (π b0) j' _ _ l0 l' (hget b0 o0 c1) b2 c2 hr' (b3 b0 o0 c1) (by rw [hwr]; exact c4 hw)
              rwa [c3] at this
            · omega
        · rw [hold j a1] at hr
          have hlt' := (hR.live j O l a2 hr).lt
          rcases hm j' O' hg' with ⟨i', o', b1, b2, b3, b4⟩ | ⟨b1, b2, b3⟩
          · subst b3; subst b4
            rw [hπ' i' b2] at hr'
            rcases hG.src i' o' l' b1 hr' with ⟨b0, o0, l0, c1, c2, c3, c4⟩ | c1
            · rw [hgi b0 (hsb b0 o0 c1).1] at c2
              have := hR.sep j (π b0) _ _ l l0 a2 (hget b0 o0 c1) hr c2 (fun e => a3 b0 o0 c1 e.symm) hw
              rwa [c3] at this
            · omega
          · rw [hold j' b1] at hr'
            exact hR.sep j j' O O' l l' a2 b2 hr hr' hne hw
      · cases hx : S'.get j with
        | none => rfl
        | some O =>
          rcases hm j O hx with ⟨i, o, a1, a2, a3, a4⟩ | ⟨a1, a2, a3⟩
          · by_cases hi : i < s.nx
            · cases hy : s.get i with
              | none => rw [hG.gone i hi hy] at a1; cases a1
              | some o2 => have := hget i o2 hy; rw [a3, hn] at this; cases this
            · have : π i = S.nx + (i - s.nx) := by rw [← hnew (i - s.nx)]; congr 1; omega
              omega
          · rw [hn] at a2; cases a2
      · refine ⟨hG.step.os, hG.step.tape, hG.step.output, hG.step.size, fun r hr ho => hG.step.block r hr fun ho2 => ho ?_⟩
        obtain ⟨b, o, l2, c1, c2, c3, c4⟩ := hown _ ho2
        exact ⟨π b, _, l2, hget b o c1, c2, by rw [hwr]; exact c4, c3⟩
      · rcases hm j O hg with ⟨i, o, a1, a2, a3, a4⟩ | ⟨a1, a2, a3⟩
        · subst a3; subst a4
          rw [hπ' i a2] at hr
          rcases hG.src i o l a1 hr with ⟨b0, o0, l0, c1, c2, c3, c4⟩ | c1
          · rw [hgi b0 (hsb b0 o0 c1).1] at c2
            exact .inl ⟨π b0, _, l0, hget b0 o0 c1, c2, c3, by rw [hwr, hwr]; exact c4⟩
          · exact .inr c1
        · rw [hold j a1] at hr
          exact .inl ⟨j, O, l, a2, hr, rfl, id⟩
  revert hcall
  split
  · exact fun hc => CallsIn.mono hc main
  · exact fun hc => main _ _ hc
  · exact id

end Go.E
