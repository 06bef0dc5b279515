/-
  The layer E, part M: regions that draw their order: taking an operation first. Own work.
-/
import Derived.Test.YtafmlhflcnlalaaEvL
namespace Go.E
set_option linter.all false

structure FEq (fr fr2 : Fr) : Prop where
  n : fr2.n = fr.n
  lk : ∀ t, fr2.lk t = fr.lk t
theorem FEq.refl (fr : Fr) : FEq fr fr := ⟨rfl, fun _ => rfl⟩
theorem FEq.agree {fr fr2 : Fr} (h : FEq fr fr2) (ts : List Tmp) : Agree ts fr fr2 := ⟨h.n, fun t _ => h.lk t⟩
theorem lk_putO (fr : Fr) (d : Option Tmp) (v : EV) (u : Tmp) : (fr.putO d v).lk u = if d = some u then v else fr.lk u := by
  cases d with
  | none => simp [Fr.putO]
  | some t =>
    simp only [Fr.putO, Fr.put, Fr.lk, lkp, Option.some.injEq]
    by_cases h : t = u <;> simp [h]
theorem n_putO (fr : Fr) (d : Option Tmp) (v : EV) : (fr.putO d v).n = fr.n := by cases d <;> rfl
theorem FEq.putO {fr fr2 : Fr} (h : FEq fr fr2) (d : Option Tmp) (v : EV) : FEq (fr.putO d v) (fr2.putO d v) :=
  ⟨by rw [n_putO, n_putO, h.n], fun t => by rw [lk_putO, lk_putO, h.lk]⟩
theorem FR.feq {ρ : Env} {fr fr2 : Fr} {a : Act} (h : FR ρ fr a) (e : FEq fr fr2) : FR ρ fr2 a := ⟨h.defers, by rw [h.size, e.n], fun t => by rw [e.lk]; exact h.slot t⟩

def Apt (d : Option Tmp) (ts : List Tmp) : Prop := ∀ t, d = some t → t ∉ ts
def Dne (d e : Option Tmp) : Prop := ∀ t, d = some t → e ≠ some t
theorem Dne.symm {d e : Option Tmp} (h : Dne d e) : Dne e d := fun t h1 h2 => h t h2 h1
theorem Apt.agree {d : Option Tmp} {ts : List Tmp} (h : Apt d ts) (fr : Fr) (v : EV) : Agree ts fr (fr.putO d v) :=
  ⟨n_putO _ _ _, fun t ht => by rw [lk_putO, if_neg (fun e => h t e ht)]⟩
theorem Agree.symm {ts : List Tmp} {fr fr2 : Fr} (h : Agree ts fr fr2) : Agree ts fr2 fr := ⟨h.1.symm, fun t ht => (h.2 t ht).symm⟩
theorem Agree.trans {ts : List Tmp} {fr fr2 fr3 : Fr} (h : Agree ts fr fr2) (k : Agree ts fr2 fr3) : Agree ts fr fr3 := ⟨k.1.trans h.1, fun t ht => (k.2 t ht).trans (h.2 t ht)⟩
theorem FEq.swap (fr : Fr) {d e : Option Tmp} (h : Dne d e) (v u : EV) : FEq ((fr.putO d v).putO e u) ((fr.putO e u).putO d v) := by
  refine ⟨by simp only [n_putO], fun t => ?_⟩
  simp only [lk_putO]
  by_cases h1 : d = some t
  · have : e ≠ some t := h t h1
    simp [h1, this]
  · simp [h1]
theorem FEq.trans {fr fr2 fr3 : Fr} (h : FEq fr fr2) (k : FEq fr2 fr3) : FEq fr fr3 := ⟨k.n.trans h.n, fun t => (k.lk t).trans (h.lk t)⟩
theorem FEq.symm {fr fr2 : Fr} (h : FEq fr fr2) : FEq fr2 fr := ⟨h.n.symm, fun t => (h.lk t).symm⟩

def dstI (L : List Oper) (i : Nat) : Option Tmp := match L[i]? with | some o => o.dst | none => none
def rdsI (L : List Oper) (i : Nat) : List Tmp := match L[i]? with | some o => rdsOf L o | none => []

theorem stepG_ex {P : Program} {L : List Oper} {base i : Nat} {K : Fr → ES → Prop} {fr : Fr} {s : ES} (h : stepG P L base i K fr s) : ∃ o, L[i]? = some o := by
  unfold stepG at h
  split at h
  · exact h.elim
  · exact ⟨_, by assumption⟩
theorem free_none (b : Nat) (s : ES) : Free b none s := fun h => by simp at h
theorem ext_any {b c : Nat} {s s2 : ES} (h : Ext b none s s2) : Ext c none s s2 := ⟨h.nx, h.get⟩

/-- One value in one state. -/
def Val (P : Program) (L : List Oper) (base i : Nat) (fr : Fr) (s : ES) (v : EV) (s' : ES) : Prop := ∀ K : Fr → ES → Prop, stepG P L base i K fr s ↔ K (fr.putO (dstI L i) v) s'

theorem stepG_move {P : Program} {L : List Oper} {base i : Nat} {o : Oper} (ho : L[i]? = some o) {fr fr2 : Fr} (ha : Agree (rdsOf L o) fr fr2) (s : ES) (K : Fr → ES → Prop) :
    stepG P L base i K fr2 s = stepG P L base i (fun f t => K (fr2.putO o.dst (match o.dst with | some t => f.lk t | none => .unk)) t) fr s := by
  have hk : ∀ v (t : ES), K (fr2.putO o.dst (match o.dst with | some t => (fr.putO o.dst v).lk t | none => .unk)) t = K (fr2.putO o.dst v) t := by
    intro v t
    cases hd : o.dst with
    | none => rfl
    | some d => simp [lk_putO]
  have hko : KO o fr2 K = KO o fr (fun f t => K (fr2.putO o.dst (match o.dst with | some t => f.lk t | none => .unk)) t) := by
    funext v t
    simp only [KO, ha.1, hk]
  unfold stepG
  simp only [ho]
  rw [gstep_agree ha]
  congr 1
  · unfold oneOp
    split
    · rw [eopA_agree (agree_ops ha), hko]
    · rw [eop_agree (agree_ops ha), hko]
  · rw [ha.1]
    have := hk undefE s
    rw [this]

theorem Val.move {P : Program} {L : List Oper} {base i : Nat} {fr fr2 : Fr} {s s' : ES} {v : EV} (h : Val P L base i fr s v s') (ha : Agree (rdsI L i) fr fr2) : Val P L base i fr2 s v s' := by
  intro K
  obtain ⟨o, ho⟩ := stepG_ex ((h fun _ _ => True).2 trivial)
  simp only [rdsI, ho] at ha
  rw [stepG_move ho ha, h]
  simp only [dstI, ho]
  cases hd : o.dst with
  | none => rfl
  | some d => simp [lk_putO]

/-! The one order. -/
def rchk1 (P : Program) (L : List Oper) (base r : Nat) (fr : Fr) (s : ES) : Prop := stepG P L base r (fun f _ => ∀ t, dstI L r = some t → f.lk t = fr.lk t) fr s
def rchks (P : Program) (L : List Oper) (base : Nat) : List Nat → Fr → ES → Prop
  | [], _, _ => True
  | r :: rs, fr, s => rchk1 P L base r fr s ∧ rchks P L base rs fr s
def canon (P : Program) (L : List Oper) (base : Nat) (K : Fr → ES → Prop) : List (Nat × List Nat) → Fr → ES → Prop
  | [], fr, s => K fr s
  | (i, rs) :: rest, fr, s => stepG P L base i (fun fr s => rchks P L base rs fr s ∧ canon P L base K rest fr s) fr s

variable {P : Program} {L : List Oper} {base : Nat}
theorem rchks_iff : ∀ {rs : List Nat} {fr : Fr} {s : ES}, rchks P L base rs fr s ↔ ∀ r ∈ rs, rchk1 P L base r fr s
  | [], fr, s => by simp [rchks]
  | r :: rs, fr, s => by simp only [rchks, List.forall_mem_cons, rchks_iff (rs := rs)]

theorem rchk1_sim {r : Nat} {fr fr2 : Fr} {s s2 : ES} {b : Nat} {oo : Option EO} (h : rchk1 P L base r fr s) (ha : Agree (rdsI L r) fr fr2) (hd : ∀ t, dstI L r = some t → fr2.lk t = fr.lk t) (hx : Ext b oo s s2) (hf : Free b oo s) (hne : oo.isSome = true → b ≠ base + r) : rchk1 P L base r fr2 s2 := by
  obtain ⟨o, ho⟩ := stepG_ex h
  unfold rchk1 at h ⊢
  refine stepG_sim ho h (by simpa only [rdsI, ho] using ha) hx hf hne fun v t t2 _ _ hk u hu => ?_
  have := hk u hu
  simp only [dstI, ho] at hu
  rw [lk_putO, if_pos hu] at this ⊢
  rw [this, hd u (by simp only [dstI, ho, hu])]

def KCong (K : Fr → ES → Prop) : Prop := ∀ fr s fr2 s2, K fr s → FEq fr fr2 → Ext 0 none s s2 → K fr2 s2
theorem canon_congr {K : Fr → ES → Prop} (hK : KCong K) : ∀ pl : List (Nat × List Nat), KCong (canon P L base K pl)
  | [] => hK
  | (i, rs) :: rest => fun fr s fr2 s2 h hF hS => by
    simp only [canon] at h ⊢
    obtain ⟨o, ho⟩ := stepG_ex h
    refine stepG_sim ho h (hF.agree _) hS (free_none _ _) (by simp) fun v t t2 e1 _ hr => ?_
    have hF' := hF.putO o.dst v
    exact ⟨rchks_iff.2 fun r hr' => rchk1_sim (rchks_iff.1 hr.1 r hr') (hF'.agree _) (fun t _ => hF'.lk t) e1 (free_none _ _) (by simp), canon_congr hK rest _ _ _ _ hr.2 hF' e1⟩

/-- What is owed to take a reckoning or a new block before another operation. -/
structure ApartPA (L : List Oper) (j : Nat) (p : Nat × List Nat) : Prop where
  ne : p.1 ≠ j
  fwd : Apt (dstI L p.1) (rdsI L j)
  bwd : Apt (dstI L j) (rdsI L p.1)
  dne : Dne (dstI L p.1) (dstI L j)
  chk : ∀ r ∈ p.2, r ≠ j ∧ Apt (dstI L j) (rdsI L r) ∧ Dne (dstI L r) (dstI L j)

theorem pullPA {K : Fr → ES → Prop} (hK : KCong K) {j : Nat} {rs : List Nat} {fr0 : Fr} {v : EV} {oo : Option EO}
    (hv : ∀ f t (K2 : Fr → ES → Prop), Agree (rdsI L j) fr0 f → stepG P L base j K2 f t → K2 (f.putO (dstI L j) v) (t.addO (base + j) oo)) (post : List (Nat × List Nat)) :
    ∀ (pre : List (Nat × List Nat)) (fr fr2 : Fr) (s s2 : ES), canon P L base K (pre ++ (j, rs) :: post) fr s → Agree (rdsI L j) fr0 fr → FEq (fr.putO (dstI L j) v) fr2 → Ext (base + j) oo s s2 → Free (base + j) oo s →
      (∀ p ∈ pre, ApartPA L j p) → canon P L base K (pre ++ post) fr2 s2
  | [], fr, fr2, s, s2, h, ha, hF, hx, hf, _ => by
    simp only [List.nil_append, canon] at h ⊢
    refine canon_congr hK post _ _ _ _ (hv fr s _ ha h).2 hF ?_
    cases oo with
    | none => exact ext_any hx
    | some x =>
      obtain ⟨h1, h2, h3⟩ := hf rfl
      exact ⟨hx.nx, fun c => by rw [hx.get]; simp only [ES.addO]; rw [ES.get_add h2]⟩
  | (c, rc) :: pre, fr, fr2, s, s2, h, ha, hF, hx, hf, hp => by
    simp only [List.cons_append, canon] at h ⊢
    obtain ⟨o, ho⟩ := stepG_ex h
    have hc := hp (c, rc) (by simp)
    have hdc : o.dst = dstI L c := by simp only [dstI, ho]
    have hrd : rdsOf L o = rdsI L c := by simp only [rdsI, ho]
    refine stepG_sim ho h (hrd ▸ (hc.bwd.agree fr v).trans (hF.agree _)) hx hf (fun _ e => hc.ne (by simp only at *; omega)) fun u t t2 e1 e2 hq => ?_
    rw [hdc] at hq ⊢
    have hF2 : FEq ((fr.putO (dstI L c) u).putO (dstI L j) v) (fr2.putO (dstI L c) u) := (FEq.swap fr hc.dne u v).trans (hF.putO _ _)
    refine ⟨rchks_iff.2 fun r hr => ?_, pullPA hK hv post pre _ _ t t2 hq.2 (ha.trans (hc.fwd.agree fr u)) hF2 e1 e2 fun p hpp => hp p (by simp [hpp])⟩
    obtain ⟨h1, h2, h3⟩ := hc.chk r hr
    refine rchk1_sim (rchks_iff.1 hq.1 r hr) ((h2.agree _ v).trans (hF2.agree _)) (fun t ht => ?_) e1 e2 (fun _ e => h1 (by omega))
    rw [hF2.lk, lk_putO, if_neg (h3 t ht)]

/-- What is owed to take a reading or an act before another operation. -/
structure ApartRE (L : List Oper) (j : Nat) (rs : List Nat) (p : Nat × List Nat) (rest : List (Nat × List Nat)) : Prop where
  nil : p.2 = []
  fwd : Apt (dstI L p.1) (rdsI L j)
  bwd : Apt (dstI L j) (rdsI L p.1)
  own : Apt (dstI L p.1) (rdsI L p.1)
  dne : Dne (dstI L p.1) (dstI L j)
  kind : clsAt L p.1 = .P ∨ (clsAt L p.1 = .R ∧ clsAt L j = .R) ∨ (clsAt L p.1 = .R ∧ p.1 ∈ rs ∧ p.1 ∉ rest.map (·.1))
  chk : ∀ r ∈ rs, r ∈ rest.map (·.1) ∨ r = p.1 ∨ (Apt (dstI L p.1) (rdsI L r) ∧ Dne (dstI L p.1) (dstI L r))
def ApartREs (L : List Oper) (j : Nat) (rs : List Nat) : List (Nat × List Nat) → Prop
  | [] => True
  | p :: rest => ApartRE L j rs p rest ∧ ApartREs L j rs rest

theorem val_of_R {i : Nat} (hc : clsAt L i = .P ∨ clsAt L i = .R) {K : Fr → ES → Prop} {fr : Fr} {s : ES} (h : stepG P L base i K fr s) : ∃ v, Val P L base i fr s v s := by
  obtain ⟨o, ho⟩ := stepG_ex h
  simp only [clsAt, ho] at hc
  obtain ⟨v, hv⟩ := stepG_PR ho hc h
  exact ⟨v, fun K2 => by rw [hv]; simp only [dstI, ho]⟩

theorem pullRE {K : Fr → ES → Prop} (hK : KCong K) {j : Nat} {rs : List Nat} (post : List (Nat × List Nat)) :
    ∀ (pre : List (Nat × List Nat)) (fr : Fr) (s : ES), canon P L base K (pre ++ (j, rs) :: post) fr s → ApartREs L j rs pre →
      stepG P L base j (fun f t => (∀ r ∈ rs, r ∉ pre.map (·.1) → rchk1 P L base r f t) ∧ canon P L base K (pre ++ post) f t) fr s
  | [], fr, s, h, _ => by
    simp only [List.nil_append, canon] at h
    obtain ⟨o, ho⟩ := stepG_ex h
    refine stepG_sim ho h ((FEq.refl fr).agree _) (Ext.refl 0 s) (free_none _ _) (by simp) fun v t t2 e1 _ hq => ?_
    exact ⟨fun r hr _ => rchk1_sim (rchks_iff.1 hq.1 r hr) ((FEq.refl _).agree _) (fun _ _ => rfl) e1 (free_none _ _) (by simp), canon_congr hK post _ _ _ _ hq.2 (FEq.refl _) e1⟩
  | (c, rc) :: pre, fr, s, h, hp => by
    obtain ⟨hc, hp⟩ := hp
    have hnil : rc = [] := hc.nil
    subst hnil
    simp only [List.cons_append, canon] at h
    have hPR : clsAt L c = .P ∨ clsAt L c = .R := by rcases hc.kind with h | h | h <;> simp [h]
    obtain ⟨vc, hvc⟩ := val_of_R hPR h
    have h1 := pullRE hK post pre _ s ((hvc _).1 h).2 hp
    obtain ⟨oj, hoj⟩ := stepG_ex h1
    have hdj : oj.dst = dstI L j := by simp only [dstI, hoj]
    have hrj : rdsOf L oj = rdsI L j := by simp only [rdsI, hoj]
    -- what is looked at again
    have hchk : ∀ (v : EV) (t t2 : ES), Ext 0 none t t2 → (∀ r ∈ rs, r ∉ pre.map (·.1) → rchk1 P L base r ((fr.putO (dstI L c) vc).putO (dstI L j) v) t) →
        ∀ r ∈ rs, r ∉ ((c, ([] : List Nat)) :: pre).map (·.1) → rchk1 P L base r (fr.putO (dstI L j) v) t2 := by
      intro v t t2 e1 hq r hr hn
      simp only [List.map_cons, List.mem_cons, not_or] at hn
      rcases hc.chk r hr with h | h | ⟨h2, h3⟩
      · exact absurd h hn.2
      · exact absurd h hn.1
      · have hF := FEq.swap fr hc.dne vc v
        have hF2 : Agree (rdsI L r) ((fr.putO (dstI L c) vc).putO (dstI L j) v) (fr.putO (dstI L j) v) := (hF.agree _).trans (h2.agree _ vc).symm
        refine rchk1_sim (hq r hr hn.2) hF2 (fun u hu => ?_) e1 (free_none _ _) (by simp)
        have h4 := hF.lk u
        rw [lk_putO _ _ vc, if_neg (fun e => h3 u e hu)] at h4
        rw [← h4]
    -- behind the act, the earlier one still has its value
    have hend : ∀ (v : EV) (t : ES), Val P L base c (fr.putO (dstI L j) v) t vc t → canon P L base K (pre ++ post) ((fr.putO (dstI L c) vc).putO (dstI L j) v) t →
        canon P L base K ((c, []) :: pre ++ post) (fr.putO (dstI L j) v) t := by
      intro v t hv hq
      simp only [List.cons_append, canon]
      exact (hv _).2 ⟨trivial, canon_congr hK _ _ _ _ _ hq (FEq.swap fr hc.dne vc v) (Ext.refl 0 t)⟩
    by_cases hcR : clsAt L c = .P
    · refine stepG_sim hoj h1 (hrj ▸ (hc.fwd.agree fr vc).symm) (Ext.refl 0 s) (free_none _ _) (by simp) fun v t t2 e1 _ hq => ?_
      rw [hdj] at hq ⊢
      refine ⟨hchk v t t2 e1 hq.1, hend v t2 ?_ (canon_congr hK _ _ _ _ _ hq.2 (FEq.refl _) e1)⟩
      obtain ⟨oc, hoc⟩ := stepG_ex h
      obtain ⟨v', oo, _, hv'⟩ := stepG_PA hoc (.inl (by simpa only [clsAt, hoc] using hcR)) h
      have hcP : cls oc.op = .P := by simpa only [clsAt, hoc] using hcR
      -- the value is the same in every state
      have hval : Val P L base c fr t2 vc t2 := by
        intro K2
        obtain ⟨v2, hv2⟩ := stepG_PR hoc (.inl hcP) ((hv' t2 fun _ _ => True).2 ⟨fun e => by
          have := (hv' s fun _ t => t = s).1 ((hvc fun _ t => t = s).2 rfl)
          cases oo with
          | none => simp at e
          | some x =>
            have h3 : (s.add (base + c) x) = s := this.2
            have := congrArg (fun z => z.bl.length) h3
            simp [ES.add] at this, trivial⟩)
        have e2 : ∀ u, dstI L c = some u → v2 = vc := fun u hu => by
          have a1 := (hv2 fun f _ => f.lk u = v2).2 (by rw [lk_putO, if_pos (by simpa only [dstI, hoc] using hu)])
          have a2 := ((hv' t2 _).1 a1).2
          have a3 := (hvc fun f _ => f.lk u = vc).2 (by rw [lk_putO, if_pos hu])
          have a4 := ((hv' s _).1 a3).2
          rw [lk_putO, if_pos (by simpa only [dstI, hoc] using hu)] at a2 a4
          rw [← a2, ← a4]
        rw [hv2]
        have : fr.putO oc.dst v2 = fr.putO (dstI L c) vc := by
          have hd : oc.dst = dstI L c := by simp only [dstI, hoc]
          rw [hd]
          cases hx : dstI L c with
          | none => rfl
          | some u => rw [e2 u hx]
        rw [this]
      exact hval.move (hc.bwd.agree fr v)
    · rcases hc.kind with hk | ⟨hk, hkj⟩ | ⟨hk, hin, hnp⟩
      · exact absurd hk hcR
      · obtain ⟨vj, hvj⟩ := val_of_R (.inr hkj) h1
        have hq := (hvj _).1 h1
        have hvj' := hvj.move (hc.fwd.agree fr vc).symm
        exact (hvj' _).2 ⟨hchk vj s s (Ext.refl 0 s) hq.1, hend vj s (hvc.move (hc.bwd.agree fr vj)) hq.2⟩
      · refine stepG_sim hoj h1 (hrj ▸ (hc.fwd.agree fr vc).symm) (Ext.refl 0 s) (free_none _ _) (by simp) fun v t t2 e1 _ hq => ?_
        rw [hdj] at hq ⊢
        refine ⟨hchk v t t2 e1 hq.1, hend v t2 ?_ (canon_congr hK _ _ _ _ _ hq.2 (FEq.refl _) e1)⟩
        have hr := hq.1 c hin hnp
        have hF := FEq.swap fr hc.dne vc v
        have hr2 : stepG P L base c (fun f _ => ∀ u, dstI L c = some u → f.lk u = vc) (fr.putO (dstI L j) v) t2 := by
          unfold rchk1 at hr
          obtain ⟨oc, hoc⟩ := stepG_ex hr
          have hd : oc.dst = dstI L c := by simp only [dstI, hoc]
          refine stepG_sim hoc hr (by
            have : rdsOf L oc = rdsI L c := by simp only [rdsI, hoc]
            rw [this]
            exact (hF.agree _).trans (hc.own.agree _ vc).symm) e1 (free_none _ _) (by simp) fun x y y2 _ _ hk u hu => ?_
          have := hk u hu
          rw [hd, lk_putO, if_pos hu] at this ⊢
          rw [this, ← hF.lk, lk_putO, if_pos hu]
        obtain ⟨v3, hv3⟩ := val_of_R (.inr hk) hr2
        have h3 := (hv3 _).1 hr2
        intro K2
        rw [hv3]
        have : ((fr.putO (dstI L j) v).putO (dstI L c) v3) = ((fr.putO (dstI L j) v).putO (dstI L c) vc) := by
          cases hx : dstI L c with
          | none => rfl
          | some u =>
            have := h3 u hx
            rw [lk_putO, if_pos hx] at this
            rw [this]
        rw [this]

end Go.E
