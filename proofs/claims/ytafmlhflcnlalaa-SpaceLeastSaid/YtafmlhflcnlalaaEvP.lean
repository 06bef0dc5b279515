/-
  The layer E, part P: regions that draw their order: the rule. Own work.
-/
import Derived.Test.YtafmlhflcnlalaaEvO
namespace Go.E
set_option linter.all false

variable {P : Program} {L : List Oper} {base : Nat}

def Clo (K : Fr → ES → Prop) (fr : Fr) (s : ES) : Prop := ∃ f t, FEq fr f ∧ Ext 0 none s t ∧ K f t
theorem ext_none_trans {s t u : ES} (h : Ext 0 none s t) (k : Ext 0 none t u) : Ext 0 none s u := ⟨k.nx.trans h.nx, fun c => (k.get c).trans (h.get c)⟩
theorem ext_none_symm {s t : ES} (h : Ext 0 none s t) : Ext 0 none t s := ⟨h.nx.symm, fun c => (h.get c).symm⟩
theorem kcong_clo (K : Fr → ES → Prop) : KCong (Clo K) := fun _ _ _ _ ⟨f, t, h1, h2, h3⟩ hF hS => ⟨f, t, hF.symm.trans h1, ext_none_trans (ext_none_symm hS) h2, h3⟩
theorem canon_clo {K : Fr → ES → Prop} : ∀ (pl : List (Nat × List Nat)) (fr : Fr) (s : ES) (fr2 : Fr) (s2 : ES), canon P L base K pl fr s → FEq fr fr2 → Ext 0 none s s2 → canon P L base (Clo K) pl fr2 s2
  | [], fr, s, _, _, h, hF, hS => ⟨fr, s, hF.symm, ext_none_symm hS, h⟩
  | (i, rs) :: rest, fr, s, fr2, s2, h, hF, hS => by
    simp only [canon] at h ⊢
    obtain ⟨o, ho⟩ := stepG_ex h
    refine stepG_sim ho h (hF.agree _) hS (free_none _ _) (by simp) fun v t t2 e1 _ hr => ?_
    have hF' := hF.putO o.dst v
    exact ⟨rchks_iff.2 fun r hr' => rchk1_sim (rchks_iff.1 hr.1 r hr') (hF'.agree _) (fun t _ => hF'.lk t) e1 (free_none _ _) (by simp), canon_clo rest _ _ _ _ hr.2 hF' e1⟩

theorem mem_ready {ops : Array Oper} {listed : Array Bool} {i : Nat} (h : i ∈ Region.ready .any ops listed) : i < ops.size ∧ listed.getD i true = false ∧ ∃ o, ops[i]? = some o ∧ ∀ e ∈ o.after.toList, Region.binds .any e = true → listed.getD e.on false = true := by
  simp only [Region.ready, List.mem_filter, List.mem_range, Bool.and_eq_true, Bool.not_eq_true'] at h
  obtain ⟨h1, h2, h3⟩ := h
  refine ⟨h1, h2, ?_⟩
  cases ho : ops[i]? with
  | none => simp [ho] at h3
  | some o =>
    simp only [ho, Option.map_some, Option.getD_some, Array.all_eq_true_iff_forall_mem] at h3
    exact ⟨o, rfl, fun e he hb => by
      have := h3 e (by simpa using he)
      simpa [hb] using this⟩
theorem ready_mem {ops : Array Oper} {listed : Array Bool} {i : Nat} {o : Oper} (h1 : i < ops.size) (h2 : listed.getD i true = false) (ho : ops[i]? = some o) (h3 : ∀ e ∈ o.after.toList, Region.binds .any e = true → listed.getD e.on false = true) : i ∈ Region.ready .any ops listed := by
  simp only [Region.ready, List.mem_filter, List.mem_range, Bool.and_eq_true, Bool.not_eq_true']
  refine ⟨h1, h2, ?_⟩
  simp only [ho, Option.map_some, Option.getD_some, Array.all_eq_true_iff_forall_mem]
  intro e he
  cases hb : Region.binds .any e with
  | false => rfl
  | true => simpa using h3 e (by simpa using he) hb

theorem wOk_spec {W : List (List Nat)} {j : Nat} (h : wOkB L W j = true) : (∀ c, wB W j c = true → ∃ e ∈ bindsL L j, e = c ∨ wB W e c = true) ∧ ∀ e ∈ bindsL L j, wB W j e = true ∧ e ≠ j ∧ e < L.length := by
  simp only [wOkB, Bool.and_eq_true, List.all_eq_true, List.any_eq_true, Bool.or_eq_true, beq_iff_eq, Bool.not_eq_true', beq_eq_false_iff_ne] at h
  refine ⟨fun c hc => ?_, fun e he => ?_⟩
  · obtain ⟨e, he, h2⟩ := h.1 c (by simpa [wB] using hc)
    exact ⟨e, he, h2⟩
  · obtain ⟨⟨a, b⟩, c⟩ := h.2 e he
    exact ⟨a, b, by simpa [Nat.blt_eq] using c⟩

theorem draw_any {k : Nat} {ρ0 : Env} {s0 : ES} {w0 : World} {W : List (List Nat)} {Q : X → Fr → ES → Prop} (hk : k ≤ base) (r : Option Nat) (hW : ∀ j < L.length, wOkB L W j = true) (hWl : W.length ≤ L.length) :
    ∀ (fuel : Nat) (rem : List (Nat × List Nat)) (listed : Array Bool) (fr : Fr) (s : ES) (ρ : Env) (w : World) (a : Act), rem.length = fuel → (∀ p ∈ rem, ownB L p = true) → rem.Pairwise (OkB L W) → (∀ p ∈ rem, p.1 < L.length) →
      (∀ i < L.length, i ∉ idx rem → ∀ c, wB W i c = true → c ∉ idx rem) → (∀ i < L.length, listed[i]? = some (!(idx rem).elem i)) → canon P L base (Clo (Q .normal)) rem fr s → GoK k ρ0 s0 w0 ρ s w → FR ρ fr a → Kept base rem ρ s →
      wpAnyIn (wideR r) 0 P .any L.toArray (CPost k ρ0 s0 w0 Q) fuel listed a w
  | 0, rem, listed, fr, s, ρ, w, a, hlen, _, _, _, _, hl, h, hG, hF, _ => by
    have hrem := List.eq_nil_of_length_eq_zero hlen
    subst hrem
    refine ⟨?_, ?_⟩
    · refine List.eq_nil_iff_forall_not_mem.2 fun i hi => ?_
      obtain ⟨h1, h2, _⟩ := mem_ready hi
      have := hl i (by simpa using h1)
      simp [Array.getD_eq_getD_getElem?, this, idx] at h2
    · obtain ⟨f, t, e1, e2, hq⟩ := h
      have hS := Rel.less (s' := t) hG.rel (fun b o hg => by rw [e2.get] at hg; exact hg) (by rw [e2.nx]; exact Nat.le_refl _)
      exact ⟨.normal, f, t, ρ, rfl, hF.feq e1, hG.trans (hS.toK hG.nx), hq⟩
  | fuel + 1, rem, listed, fr, s, ρ, w, a, hlen, hown, hpw, hlt, hWC, hl, h, hG, hF, hkept => by
    have hget : ∀ i < L.length, ∀ d, listed.getD i d = !(idx rem).elem i := fun i hi d => by
      rw [Array.getD_eq_getD_getElem?, hl i hi]; rfl
    refine ⟨fun hr => ?_, fun i hi => ?_⟩
    · -- the first of the one order is ready
      cases rem with
      | nil => simp at hlen
      | cons p rest =>
        have hp := hlt p (by simp)
        have hin : p.1 ∈ Region.ready .any L.toArray listed := by
          obtain ⟨o, ho⟩ : ∃ o, L[p.1]? = some o := ⟨_, List.getElem?_eq_getElem hp⟩
          refine ready_mem (o := o) (by simpa using hp) (by rw [hget _ hp]; simp [idx]) (by simpa using ho) fun e he hb => ?_
          have hbl : e.on ∈ bindsL L p.1 := by
            simp only [bindsL, ho]
            exact List.mem_map.2 ⟨e, List.mem_filter.2 ⟨he, hb⟩, rfl⟩
          obtain ⟨h1, h2, h3⟩ := (wOk_spec (hW _ hp)).2 _ hbl
          rw [hget _ h3]
          have hne : e.on ∉ idx (p :: rest) := by
            intro hm
            obtain ⟨y, hy, hye⟩ := mem_idx.1 hm
            rcases List.mem_cons.1 hy with rfl | hy
            · exact h2 hye.symm
            · have := ((List.pairwise_cons.1 hpw).1 y hy).w
              rw [hye, h1] at this; cases this
          simpa using hne
        rw [hr] at hin; cases hin
    · obtain ⟨h1, h2, o, ho, h3⟩ := mem_ready hi
      have hil : i < L.length := by simpa using h1
      rw [hget _ hil] at h2
      have hmem : i ∈ idx rem := by simpa using h2
      obtain ⟨⟨i', rs⟩, hp, hpi⟩ := mem_idx.1 hmem
      simp only at hpi; subst hpi
      obtain ⟨pre, post, rfl⟩ := List.append_of_mem hp
      have hdirect : ∀ e ∈ bindsL L i', e ∉ idx (pre ++ (i', rs) :: post) := by
        intro e he
        have hlt2 := ((wOk_spec (hW _ hil)).2 e he).2.2
        have ho' : L[i']? = some o := by simpa using ho
        simp only [bindsL, ho', List.mem_map, List.mem_filter] at he
        obtain ⟨e', ⟨he1, he2⟩, rfl⟩ := he
        have := h3 e' he1 he2
        rw [hget _ hlt2] at this
        simpa using this
      have hj : ∀ c, wB W i' c = true → c ∉ idx (pre ++ (i', rs) :: post) := by
        intro c hc
        obtain ⟨e, he, h4⟩ := (wOk_spec (hW _ hil)).1 c hc
        rcases h4 with rfl | h4
        · exact hdirect _ he
        · exact hWC e ((wOk_spec (hW _ hil)).2 e he).2.2 (hdirect e he) c h4
      have hWC2 : ∀ i, i ∉ idx (pre ++ (i', rs) :: post) → ∀ c, wB W i c = true → c ∉ idx (pre ++ (i', rs) :: post) := by
        intro i hi c hc
        by_cases hlt3 : i < L.length
        · exact hWC i hlt3 hi c hc
        · -- there is no such row
          have : W.getD i [] = [] := by
            rw [List.getD_eq_getElem?_getD, List.getElem?_eq_none (by omega)]; rfl
          have hc2 : wB W i c = false := by simp only [wB, this]; rfl
          rw [hc2] at hc; cases hc
      have hst := pull (kcong_clo _) hk h hG hF hkept hown hpw hWC2 hj
      obtain ⟨q1, q2, q3⟩ := hkept (i', rs) (by simp)
      refine wpOpIn_mono (fun a' w' hx => ?_) (stepG_wp hst r hG hF hk q1 q2 q3 _)
      obtain ⟨fr', s', ρ', hG', hF', hc', hnx, hold⟩ := hx
      have hsub : (pre ++ post).Sublist (pre ++ (i', rs) :: post) := List.Sublist.append (List.Sublist.refl _) (List.sublist_cons_self _ _)
      have hni : i' ∉ idx (pre ++ post) := by
        intro hm
        obtain ⟨y, hy, hye⟩ := mem_idx.1 hm
        rw [List.pairwise_append] at hpw
        rcases List.mem_append.1 hy with hy | hy
        · exact (hpw.2.2 y hy (i', rs) (by simp)).ne hye
        · exact ((List.pairwise_cons.1 hpw.2.1).1 y hy).ne hye.symm
      have hiff : ∀ c, c ∈ idx (pre ++ (i', rs) :: post) ↔ c = i' ∨ c ∈ idx (pre ++ post) := by
        intro c
        simp only [idx, List.map_append, List.map_cons, List.mem_append, List.mem_cons]
        constructor
        · exact fun h => h.elim (fun h => .inr (.inl h)) fun h => h.elim .inl fun h => .inr (.inr h)
        · exact fun h => h.elim (fun h => .inr (.inl h)) fun h => h.elim .inl fun h => .inr (.inr h)
      refine draw_any hk r hW hWl fuel (pre ++ post) _ fr' s' ρ' w' a' (by simp at hlen ⊢; omega) (fun p hp => hown p (hsub.subset hp)) (hpw.sublist hsub) (fun p hp => hlt p (hsub.subset hp)) ?_ ?_ hc' hG' hF' ?_
      · intro x hx hxn c hc hm
        by_cases hxi : x = i'
        · subst hxi
          exact hj c hc ((hiff c).2 (.inr hm))
        · exact hWC x hx (fun h => ((hiff x).1 h).elim hxi hxn) c hc ((hiff c).2 (.inr hm))
      · intro x hx
        have hsz : i' < listed.size := by
          have := hl i' hil
          exact (Array.getElem?_eq_some_iff.1 this).1
        by_cases hxi : x = i'
        · subst hxi
          rw [Array.getElem?_setIfInBounds_self_of_lt hsz]
          simpa using hni
        · rw [Array.getElem?_setIfInBounds_ne (fun e => hxi e.symm), hl x hx]
          have : (idx (pre ++ (i', rs) :: post)).elem x = (idx (pre ++ post)).elem x := by
            rw [Bool.eq_iff_iff]
            simp only [List.elem_eq_mem, decide_eq_true_eq, hiff]
            exact ⟨fun h => h.elim (fun e => absurd e hxi) id, .inr⟩
          rw [this]
      · intro p hp
        obtain ⟨q1, q2, q3⟩ := hkept p (hsub.subset hp)
        have hne : base + p.1 ≠ base + i' := fun e => hni (mem_idx.2 ⟨p, hp, by omega⟩)
        exact ⟨by omega, hold _ q1 hne q2 q3⟩

/-! The rule. -/
def cutL (k : Nat) : List (Nat × EO) → List (Nat × EO)
  | [] => []
  | (b, o) :: r => if b < k then (b, o) :: cutL k r else cutL k r
def ES.keep (s : ES) (n : Nat) : ES := ⟨cutL s.nx s.bl, s.nx + n⟩
theorem lkp_cutL (k : Nat) : ∀ (l : List (Nat × EO)) (b : Nat), lkp (cutL k l) b = if b < k then lkp l b else none
  | [], b => by simp [cutL, lkp]
  | (c, o) :: r, b => by
    simp only [cutL]
    by_cases hc : c < k
    · simp only [hc, if_true, lkp, lkp_cutL k r]
      by_cases h : c = b
      · subst h; simp [hc]
      · simp only [h, if_false]
    · simp only [hc, if_false, lkp, lkp_cutL k r]
      by_cases h : c = b
      · subst h; simp [hc]
      · simp only [h, if_false]
theorem ES.get_keep (s : ES) (n b : Nat) : (s.keep n).get b = if b < s.nx then s.get b else none := by
  simp only [ES.get, ES.keep, lkp_cutL]
  by_cases h : b < s.nx
  · simp only [h, if_true]; rw [if_pos (by omega)]
  · simp only [h, if_false]; split <;> rfl

theorem okPlan_spec {pl : List (Nat × List Nat)} (h : okPlan L pl = true) : ∃ W : List (List Nat), W.length ≤ L.length ∧ (∀ j < L.length, wOkB L W j = true) ∧ pl.length = L.length ∧ (∀ i < L.length, i ∈ idx pl) ∧ (∀ p ∈ pl, p.1 < L.length) ∧ pairsB L W pl = true := by
  simp only [okPlan, Bool.and_eq_true, List.all_eq_true, List.mem_range, Nat.ble_eq, Nat.blt_eq] at h
  obtain ⟨⟨⟨⟨h1, h0⟩, h2⟩, h3⟩, h4⟩ := h
  exact ⟨_, h0, fun j hj => (h2 j hj).1, Nat.eq_of_beq_eq_true h1, fun i hi => by simpa [idx] using (h2 i hi).2, h3, h4⟩

theorem esem_draw {k : Nat} {Q : X → Fr → ES → Prop} {fr : Fr} {s : ES} {id : Nat} (hm : P.follows .mixedOrders = true) (pl : List (Nat × List Nat)) (hp : okPlan L pl = true)
    (h : canon P L s.nx (Q .normal) pl fr (s.keep L.length)) : ESem P k (.region id L.toArray true) Q fr s := by
  intro hk r ρ w a hR hF
  obtain ⟨W, hWl, hW, hlen, hall, hlt, hpairs⟩ := okPlan_spec hp
  obtain ⟨hown, hpw⟩ := pairsB_spec hpairs
  have hR' : Rel ρ s { w with drawn := w.drawn + 1 } := ⟨fun b o l hg hl => by
    have := hR.live b o l hg hl
    exact this.mono (Env.le_refl _) rfl, hR.fresh, hR.sep⟩
  have hG0 : GoK k ρ s w ρ s { w with drawn := w.drawn + 1 } := ⟨hR', fun _ _ => rfl, hk, fun _ _ h => h, ⟨rfl, rfl, rfl, Nat.le_refl _, fun _ _ _ => rfl⟩, fun b o l hg hl => .inl ⟨b, o, l, hg, hl, rfl, fun e => e⟩⟩
  have hkeep := Rel.less (s' := s.keep L.length) hR' (fun b o hg => by
    rw [ES.get_keep] at hg
    split at hg
    · exact hg
    · cases hg) (by simp [ES.keep])
  have hG := hG0.trans (hkeep.toK hk)
  refine wpIn_region_any hm (draw_any hk r hW hWl _ pl _ fr _ ρ _ a (by simpa using hlen) hown hpw hlt ?_ ?_ (canon_clo pl _ _ _ _ h (FEq.refl _) (Ext.refl 0 _)) hG hF ?_)
  · intro i hi hn; exact absurd (hall i hi) hn
  · intro i hi
    have := hall i hi
    simp [this, hi]
  · intro p hp
    have := hlt p hp
    exact ⟨by simp [ES.keep]; omega, by rw [ES.get_keep, if_neg (by omega)], hR.fresh _ (by omega)⟩

end Go.E
