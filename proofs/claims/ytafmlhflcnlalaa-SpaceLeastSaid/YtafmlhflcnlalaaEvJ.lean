/-
  The layer E, part J: regions that draw their order: the operations' kinds, and what they owe. Own work.
-/
import Derived.Test.YtafmlhflcnlalaaEvI
namespace Go.E
set_option linter.all false

/-- A state beside another: the same, or with one block more. -/
def ES.add (s : ES) (b : Nat) (o : EO) : ES := ⟨(b, o) :: s.bl, s.nx⟩
structure Ext (b : Nat) (oo : Option EO) (s s2 : ES) : Prop where
  nx : s2.nx = s.nx
  get : ∀ c, s2.get c = match oo with
    | some o => if b = c then some o else s.get c
    | none => s.get c
def Free (b : Nat) (oo : Option EO) (s : ES) : Prop := oo.isSome = true → s.get b = none ∧ b < s.nx ∧ (∀ o, oo = some o → o.wr = true)
theorem Ext.refl (b : Nat) (s : ES) : Ext b none s s := ⟨rfl, fun _ => rfl⟩
theorem Ext.some {b : Nat} {oo : Option EO} {s s2 : ES} (h : Ext b oo s s2) (hf : Free b oo s) {c : Nat} {o : EO} (hg : s.get c = some o) : s2.get c = some o := by
  rw [h.get]
  cases oo with
  | none => exact hg
  | some x =>
    by_cases hbc : b = c
    · subst hbc; rw [(hf rfl).1] at hg; cases hg
    · simp only [hbc, if_false]; exact hg
theorem ES.get_add {s : ES} {b : Nat} {o : EO} (hb : b < s.nx) (c : Nat) : (s.add b o).get c = if b = c then Option.some o else s.get c := by
  simp only [ES.get, ES.add, lkp]
  by_cases h : b = c
  · subst h; simp [hb]
  · simp only [h, if_false]
theorem Ext.add {s : ES} {b : Nat} {o : EO} (hb : b < s.nx) : Ext b (Option.some o) s (s.add b o) := ⟨rfl, fun c => ES.get_add hb c⟩

theorem Ext.new {b : Nat} {oo : Option EO} {s s2 : ES} (h : Ext b oo s s2) (hf : Free b oo s) (o : EO) : Ext b oo (s.new o) (s2.new o) ∧ Free b oo (s.new o) := by
  refine ⟨⟨by simp [ES.new, h.nx], fun c => ?_⟩, fun hs => ?_⟩
  · rw [ES.get_new, ES.get_new, h.nx, h.get]
    cases oo with
    | none => rfl
    | some x =>
      have hb := (hf rfl).2.1
      by_cases h1 : s.nx = c
      · subst h1
        simp only [if_true]
        rw [if_neg (by omega)]
      · simp only [h1, if_false]
  · obtain ⟨h1, h2, h3⟩ := hf hs
    exact ⟨by rw [ES.get_new, if_neg (by omega)]; exact h1, by simp [ES.new]; omega, h3⟩
theorem Ext.set {b : Nat} {oo : Option EO} {s s2 : ES} (h : Ext b oo s s2) (hf : Free b oo s) {a : Nat} {o0 : EO} (ha : s.get a = Option.some o0) (o : EO) : Ext b oo (s.set a o) (s2.set a o) ∧ Free b oo (s.set a o) := by
  refine ⟨⟨by simp [ES.set, h.nx], fun c => ?_⟩, fun hs => ?_⟩
  · rw [ES.get_set, ES.get_set, h.get, h.get]
    cases oo with
    | none => rfl
    | some x =>
      have hne : b ≠ a := fun e => by subst e; rw [(hf rfl).1] at ha; cases ha
      by_cases h1 : a = c
      · subst h1
        simp only [if_true, if_neg hne]
      · simp only [h1, if_false]
  · obtain ⟨h1, h2, h3⟩ := hf hs
    have hne : a ≠ b := fun e => by subst e; rw [h1] at ha; cases ha
    exact ⟨by rw [ES.get_set, if_neg hne]; exact h1, h2, h3⟩

/-- A call in a state with one block more. -/
theorem ECalls.ext {P : Program} {g : FuncId} {args : List EV} {s s2 : ES} {Q Q2 : ER → ES → Prop} {b : Nat} {oo : Option EO} (h : ECalls P g args s Q) (hx : Ext b oo s s2) (hf : Free b oo s)
    (hQ : ∀ x t t2, Ext b oo t t2 → Free b oo t → Q x t → Q2 x t2) : ECalls P g args s2 Q2 := by
  intro ρ w args' hR hA
  have hR1 : Rel ρ s w := (hR.less (s' := s) (fun c o hg => hx.some hf hg) (by rw [hx.nx]; exact Nat.le_refl _)).rel
  have hc := h ρ w args' hR1 hA
  have main : ∀ e w', EPost ρ s w Q e w' → EPost ρ s2 w Q2 e w' := by
    rintro e w' ⟨x, t, ρ', hret, hG, hq⟩
    let t2 : ES := match oo with
      | Option.some o => t.add b o
      | none => t
    have hft : Free b oo t := fun hs => by
      obtain ⟨h1, h2, h3⟩ := hf hs
      exact ⟨hG.gone b h2 h1, Nat.lt_of_lt_of_le h2 hG.nx, h3⟩
    have hxt : Ext b oo t t2 := by
      cases oo with
      | none => exact Ext.refl b t
      | some o => exact Ext.add (hft rfl).2.1
    refine ⟨x, t2, ρ', hret, ?_, hQ x t t2 hxt hft hq⟩
    have hown : ∀ r, Owned ρ s r → Owned ρ s2 r := fun r ⟨c, o, l, a1, a2, a3, a4⟩ => ⟨c, o, l, hx.some hf a1, a2, a3, a4⟩
    cases hoo : oo with
    | none =>
      subst hoo
      refine ⟨hG.rel, fun i hi => hG.old i (by rw [← hx.nx]; exact hi), by rw [hx.nx]; exact hG.nx, hR, fun c hcl hn => ?_, ⟨hG.step.os, hG.step.tape, hG.step.output, hG.step.size, fun r hr ho => hG.step.block r hr fun o => ho (hown r o)⟩, fun c o l hg hl => ?_⟩
      · have hn' := hx.get c; simp only at hn'
        exact hG.gone c (by rw [← hx.nx]; exact hcl) (by rw [← hn']; exact hn)
      · rcases hG.src c o l hg hl with ⟨c0, o0, l0, a1, a2, a3, a4⟩ | h1
        · exact .inl ⟨c0, o0, l0, hx.some hf a1, a2, a3, a4⟩
        · exact .inr h1
    | some o0 =>
      subst hoo
      obtain ⟨f1, f2, f3⟩ := hf rfl
      have hwr : o0.wr = true := f3 o0 rfl
      have hb2 : s2.get b = Option.some o0 := by rw [hx.get]; simp
      have ht2 : ∀ c, t2.get c = if b = c then Option.some o0 else t.get c := fun c => hxt.get c
      have hkeep : ∀ l, ρ b = Option.some l → w'.heap[l.r]? = w.heap[l.r]? := by
        intro l hl
        have hbr := hR.live b o0 l hb2 hl
        refine hG.step.block l.r hbr.lt ?_
        rintro ⟨c, o, l2, a1, a2, a3, a4⟩
        have hne : b ≠ c := fun e => by subst e; rw [f1] at a1; cases a1
        exact hR.sep b c o0 o l l2 hb2 (hx.some hf a1) hl a2 hne hwr a4.symm
      have hρ : ρ' b = ρ b := hG.old b f2
      have hother : ∀ c o l l0, b ≠ c → t.get c = Option.some o → ρ' c = Option.some l → ρ b = Option.some l0 → l0.r ≠ l.r := by
        intro c o l l0 hne hg hl hl0
        have hbr := (hR.live b o0 l0 hb2 hl0).lt
        rcases hG.src c o l hg hl with ⟨c0, o1, l1, a1, a2, a3, a4⟩ | h1
        · have hne0 : b ≠ c0 := fun e => by subst e; rw [f1] at a1; cases a1
          rw [← a3]
          exact hR.sep b c0 o0 o1 l0 l1 hb2 (hx.some hf a1) hl0 a2 hne0 hwr
        · omega
      refine ⟨⟨fun c o l hg hl => ?_, fun i hi => hG.rel.fresh i (by rw [hxt.nx] at hi; exact hi), fun c c' o o' l l' hg hg' hl hl' hne hw => ?_⟩, fun i hi => hG.old i (by rw [← hx.nx]; exact hi), by rw [hx.nx, hxt.nx]; exact hG.nx, hR, fun c hcl hn => ?_,
        ⟨hG.step.os, hG.step.tape, hG.step.output, hG.step.size, fun r hr ho => hG.step.block r hr fun o => ho (hown r o)⟩, fun c o l hg hl => ?_⟩
      · rw [ht2] at hg
        by_cases hbc : b = c
        · subst hbc
          simp only [if_true, Option.some.injEq] at hg
          subst hg
          rw [hρ] at hl
          exact (hR.live b o0 l hb2 hl).mono hG.le (hkeep l hl)
        · simp only [hbc, if_false] at hg
          exact hG.rel.live c o l hg hl
      · rw [ht2] at hg hg'
        by_cases hbc : b = c
        · subst hbc
          simp only [hne, if_false] at hg'
          rw [hρ] at hl
          exact hother c' o' l' l hne hg' hl' hl
        · simp only [hbc, if_false] at hg
          by_cases hbc' : b = c'
          · subst hbc'
            rw [hρ] at hl'
            exact fun e => hother c o l l' hbc hg hl hl' e.symm
          · simp only [hbc', if_false] at hg'
            exact hG.rel.sep c c' o o' l l' hg hg' hl hl' hne hw
      · rw [hx.get] at hn
        rw [ht2]
        by_cases hbc : b = c
        · simp [hbc] at hn
        · simp only [hbc, if_false] at hn ⊢
          exact hG.gone c (by rw [← hx.nx]; exact hcl) hn
      · rw [ht2] at hg
        by_cases hbc : b = c
        · subst hbc
          simp only [if_true, Option.some.injEq] at hg
          subst hg
          rw [hρ] at hl
          exact .inl ⟨b, o0, l, hb2, hl, rfl, id⟩
        · simp only [hbc, if_false] at hg
          rcases hG.src c o l hg hl with ⟨c0, o1, l1, a1, a2, a3, a4⟩ | h1
          · exact .inl ⟨c0, o1, l1, hx.some hf a1, a2, a3, a4⟩
          · exact .inr h1
  revert hc
  split
  · exact fun hc => CallsIn.mono hc main
  · exact fun hc => main _ _ hc
  · exact id

/-! Two frames that agree where an operation looks. -/
def opTemps : Op → List Tmp := fun op => op.operands.toList.filterMap fun | .tmp t => Option.some t | _ => none
def Agree (ts : List Tmp) (fr fr2 : Fr) : Prop := fr2.n = fr.n ∧ ∀ t ∈ ts, fr2.lk t = fr.lk t

theorem Agree.ev {op : Op} {fr fr2 : Fr} (h : Agree (opTemps op) fr fr2) : ∀ x ∈ op.operands.toList, ev fr2 x = ev fr x := by
  intro x hx
  cases x with
  | tmp t => exact h.2 t (by simp only [opTemps, List.mem_filterMap]; exact ⟨.tmp t, hx, rfl⟩)
  | const v => rfl
  | func f => rfl
  | global g => rfl

theorem opnds_agree {fr fr2 : Fr} {l : List Operand} (h : ∀ x ∈ l, ev fr2 x = ev fr x) : opnds fr2 l = opnds fr l := List.map_congr_left h
theorem partsE_agree {fr fr2 : Fr} {l : List (Nat × Operand)} (h : ∀ x ∈ l.map (·.2), ev fr2 x = ev fr x) : partsE fr2 l = partsE fr l := by
  refine List.map_congr_left fun x hx => ?_
  rw [h x.2 (List.mem_map_of_mem hx)]
theorem optOp_agree {fr fr2 : Fr} {o : Option Operand} (h : ∀ x, o = Option.some x → ev fr2 x = ev fr x) : optOp fr2 o = optOp fr o := by
  cases o with
  | none => rfl
  | some x => simp only [optOp, h x rfl]

/-- What an operation comes to hangs on its operands alone. -/
theorem eop_agree {P : Program} {op : Op} {fr fr2 : Fr} {s : ES} {K Kp : EV → ES → Prop} (h : ∀ x ∈ op.operands.toList, ev fr2 x = ev fr x) : eop P op fr2 s K Kp = eop P op fr s K Kp := by
  cases op <;> simp only [eop] <;> (try simp only [Op.operands, List.mem_cons, List.not_mem_nil, or_false, forall_eq_or_imp, forall_eq] at h)
  case move => rw [h]
  case assign => rw [h]
  case pick => rw [h.1, h.2.1, h.2.2]
  case box => rw [h]
  case build t ps => rw [partsE_agree (by simpa using h)]
  case buildSlice t n ps => rw [partsE_agree (by simpa using h)]
  case load => rw [h]
  case store => rw [h.1, h.2]
  case nilCheck => rw [h]
  case binOp => rw [h.1, h.2]
  case unOp => rw [h]
  case convert => rw [h]
  case slice t x lo hi mx =>
    rw [h x (by simp), optOp_agree (o := lo) (fun y hy => h y (by subst hy; simp)), optOp_agree (o := hi) (fun y hy => h y (by subst hy; simp)), optOp_agree (o := mx) (fun y hy => h y (by subst hy; simp))]
  case fieldAddr => rw [h]
  case field => rw [h]
  case indexAddr => rw [h.1, h.2]
  case index => rw [h.1, h.2]
  case makeInterface => rw [h]
  case makeFunc f first cap =>
    rw [opnds_agree (l := first.toList) (fun x hx => h x (by simp [hx])), opnds_agree (l := cap.toList) (fun x hx => h x (by simp [hx]))]
  case extract => rw [h]
  case call c =>
    obtain ⟨callee, args, ts⟩ := c
    have hargs : opnds fr2 args.toList = opnds fr args.toList := opnds_agree fun x hx => h x (by simp [Call.operands, hx])
    cases callee with
    | builtin b => simp only [ecall, hargs]
    | invoke x m => rfl
    | value f => simp only [ecall, hargs, h f (by simp [Call.operands])]

/-! What only reckons comes to one value, whatever is asked of it. -/
def Det (f : (EV → Prop) → Prop) : Prop := ∀ K, f K → ∃ v, ∀ K' : EV → Prop, f K' ↔ K' v
theorem Det.mono {f : (EV → Prop) → Prop} (h : Det f) {K K' : EV → Prop} (hK : ∀ v, K v → K' v) (hf : f K) : f K' := by
  obtain ⟨v, h1⟩ := h K hf
  exact (h1 K').2 (hK v ((h1 K).1 hf))
theorem det_id (v : EV) : ∃ u, ∀ K' : EV → Prop, K' v ↔ K' u := ⟨v, fun _ => Iff.rfl⟩
theorem det_and {p : Prop} (hp : p) (v : EV) : ∃ u, ∀ K' : EV → Prop, (p ∧ K' v) ↔ K' u := ⟨v, fun _ => ⟨fun q => q.2, fun q => ⟨hp, q⟩⟩⟩
theorem det_under {p : Prop} (hp : p) {f : (EV → Prop) → Prop} (h : ∃ u, ∀ K' : EV → Prop, f K' ↔ K' u) : ∃ u, ∀ K' : EV → Prop, (p ∧ f K') ↔ K' u :=
  let ⟨u, hu⟩ := h
  ⟨u, fun K' => ⟨fun q => (hu K').1 q.2, fun q => ⟨hp, (hu K').2 q⟩⟩⟩

theorem det_ebinI (op : BinOp) (k : IntKind) (a : Int) (k' : IntKind) (b : Int) : Det (ebinI op k a k' b) := by
  intro K h
  cases op <;> exact det_and h.1 _
theorem det_ebinS (op : BinOp) (x y : List UInt8) : Det (ebinS op x y) := by
  intro K h
  cases op <;> first | exact det_and h.1 _ | exact det_id _ | exact h.elim
theorem det_ebin (op : BinOp) (x y : EV) : Det (ebin op x y) := by
  intro K h
  unfold ebin at h
  split at h
  · exact det_ebinI _ _ _ _ _ K h
  · exact det_ebinS _ _ _ K h
  all_goals first | (split at h <;> first | exact det_id _ | exact h.elim) | exact h.elim
theorem det_ebinT (P : Program) (op : BinOp) (t : TypeId) (x y : EV) (c : Bool) : Det (ebinT P op t x y c) := by
  intro K h
  cases hi : tiOf P t with
  | none =>
    unfold ebinT at h
    rw [hi] at h
    split at h <;> first | exact h.elim | exact h.2.elim | exact det_ebin _ _ _ K h
  | some i =>
    obtain ⟨u, sz, by_, z⟩ := i
    unfold ebinT at h ⊢
    rw [hi] at h
    simp only [hi] at h ⊢
    split at h
    · cases u <;> first | exact h.elim | exact det_ebin _ _ _ K h
    · obtain ⟨hc, h⟩ := h
      cases u <;> first | exact h.elim | skip
      cases op <;> first | exact h.elim | exact det_and hc _
    · cases u <;> first | exact h.elim | exact det_ebin _ _ _ K h
    · cases u <;> first | exact h.elim | exact det_ebin _ _ _ K h
    · cases u <;> first | exact h.elim | exact det_ebin _ _ _ K h
    · exact det_ebin _ _ _ K h
    · exact det_ebin _ _ _ K h
    · exact h.elim
theorem det_eun (op : UnOp) (x : EV) : Det (eun op x) := by
  intro K h
  unfold eun at h
  split at h <;> first | exact det_id _ | exact h.elim
theorem det_econv (P : Program) (src dst : TypeId) (x : EV) : Det (econv P src dst x) := by
  intro K h
  unfold econv at h ⊢
  cases h1 : tiOf P src with
  | none => simp only [h1] at h
  | some i =>
    cases h2 : tiOf P dst with
    | none => simp only [h1, h2] at h
    | some j =>
      obtain ⟨u, sz, by_, z⟩ := j
      simp only [h1, h2] at h ⊢
      cases x <;> first | exact h.elim | skip
      all_goals cases u <;> first | exact h.elim | exact det_id _
theorem det_epart (j : TI) (cs : List EV) (off : Nat) : Det (epart j cs off) := by
  intro K h
  unfold epart at h ⊢
  split at h
  · rename_i ha
    simp only [if_pos ha]
    exact det_and h.1 _
  · rename_i ha
    simp only [if_neg ha]
    split at h
    · exact det_id _
    · exact h.elim
theorem det_eIndexS (s : List UInt8) (n : Int) : Det (eIndexS s n) := fun _ h => det_and h.1 _
theorem det_eindex (P : Program) (i : TI) (x ix : EV) : Det (eindex P i x ix) := by
  intro K h
  obtain ⟨u, sz, by_, z⟩ := i
  unfold eindex at h
  split at h
  · rename_i hu
    simp only at hu; subst hu
    exact det_eIndexS _ _ K h
  · rename_i e cs k n hu
    simp only at hu; subst hu
    split at h
    · rename_i j hj
      simp only [eindex, hj]
      exact det_under h.1 (det_epart _ _ _ K h.2)
    · exact h.elim
  · exact h.elim
theorem det_efield (P : Program) (i : TI) (x : EV) (f : Nat) : Det (efield P i x f) := by
  intro K h
  obtain ⟨u, sz, by_, z⟩ := i
  unfold efield at h
  split at h
  · rename_i fs cs hu
    simp only at hu; subst hu
    split at h
    · rename_i off ft hf
      split at h
      · rename_i j hj
        simp only [efield, hf, hj]
        exact det_epart _ _ _ K h
      · exact h.elim
    · exact h.elim
  · exact h.elim
theorem det_eextract (x : EV) (n : Nat) : Det (eextract x n) := by
  intro K h
  unfold eextract at h
  split at h
  · split at h
    · rename_i v hv
      simp only [eextract, hv]
      exact det_id _
    · exact h.elim
  · exact h.elim
theorem det_ebuild (P : Program) (i : TI) (ps : List (Nat × EV)) : Det (ebuild P i ps) := by
  intro K h
  obtain ⟨u, sz, by_, z⟩ := i
  unfold ebuild at h
  split at h
  · rename_i fs hu
    simp only at hu; subst hu
    obtain ⟨ha, h⟩ := h
    split at h
    · rename_i c hc
      simp only [ebuild, hc]
      exact det_and ha _
    · exact h.elim
  · rename_i n e hu
    simp only at hu; subst hu
    split at h
    · rename_i j hj
      split at h
      · rename_i c hc
        simp only [ebuild, hj, hc]
        exact det_id _
      · exact h.elim
    · exact h.elim
  · exact h.elim
theorem det_eminmax (f : Int → Int → Int) : ∀ (r : List EV) (x : EV), Det (eminmax f x r)
  | [], x, _, _ => det_id x
  | y :: r, x, K, h => by
    cases x <;> cases y <;> first | exact (h : False).elim | skip
    simp only [eminmax] at h ⊢
    exact det_under h.1 (det_eminmax f r _ K h.2)
theorem det_eLoad (i : TI) (x : EV) (s : ES) : Det (eLoad i x s) := by
  intro K h
  unfold eLoad at h
  split at h
  · split at h
    · rename_i c t z wr fz hg
      simp only [eLoad, hg]
      split at h
      · rename_i ha; simp only [if_pos ha]; exact det_and h.1 _
      · rename_i ha; simp only [if_neg ha]
        split at h
        · exact det_id _
        · exact h.elim
    · exact h.elim
  · exact h.elim
theorem det_elen (i : TI) (x : EV) (s : ES) : Det (elen i x s) := by
  intro K h
  obtain ⟨u, sz, by_, z⟩ := i
  unfold elen at h
  split at h
  · rename_i hu; simp only at hu; subst hu; exact det_id _
  · rename_i hu; simp only at hu; subst hu; exact det_id _
  · rename_i hu; simp only at hu; subst hu; exact det_id _
  · rename_i hu; simp only at hu; subst hu; exact det_id _
  · rename_i hu; simp only at hu; subst hu
    split at h
    · rename_i hg
      simp only [elen, hg]
      exact det_id _
    · exact h.elim
  · exact h.elim
theorem det_eSlice (P : Program) (i : TI) (x : EV) (lo hi mx : Option EV) (s : ES) : Det fun K => eSlice P i x lo hi mx s fun v _ => K v := by
  intro K h
  obtain ⟨u, sz, by_, z⟩ := i
  unfold eSlice at h
  split at h
  · rename_i hu; simp only at hu; subst hu
    obtain ⟨hm, h⟩ := h
    unfold eSliceS at h
    split at h
    · rename_i e1 e2
      simp only [eSlice, eSliceS, e1, e2]
      exact det_under hm (det_and h.1 _)
    · exact h.elim
  · rename_i hu; simp only at hu; subst hu
    split at h
    · rename_i e1 e2 e3 e4
      split at h
      · rename_i hg
        simp only [eSlice, e1, e2, e3, e4, hg]
        exact det_and h.1 _
      · exact h.elim
    · exact h.elim
  · rename_i hu; simp only at hu; subst hu
    split at h
    · rename_i e1 e2 e3 e4
      simp only [eSlice, e1, e2, e3, e4]
      exact det_and h.1 _
    · exact h.elim
  · rename_i hu; simp only at hu; subst hu
    split at h
    · rename_i e1 e2 e3 e4
      split at h
      · rename_i hg
        simp only [eSlice, e1, e2, e3, e4, hg]
        exact det_and h.1 _
      · exact h.elim
    · exact h.elim
  · exact h.elim
theorem det_eFieldAddr (P : Program) (i : TI) (x : EV) (f : Nat) (s : ES) : Det fun K => eFieldAddr P i x f s fun v _ => K v := by
  intro K h
  obtain ⟨u, sz, by_, z⟩ := i
  unfold eFieldAddr at h
  split at h
  · rename_i hu; simp only at hu; subst hu
    split at h
    · rename_i hf
      split at h
      · rename_i hj
        simp only [eFieldAddr, hf, hj]
        exact det_and h.1 _
      · exact h.elim
    · exact h.elim
  · exact h.elim
theorem det_eIndexAddr (P : Program) (i : TI) (x ix : EV) (s : ES) : Det fun K => eIndexAddr P i x ix s fun v _ => K v := by
  intro K h
  obtain ⟨u, sz, by_, z⟩ := i
  unfold eIndexAddr at h
  split at h
  · split at h
    · rename_i hu; simp only at hu; subst hu
      split at h
      · rename_i hj
        simp only [eIndexAddr, hj]
        exact det_and h.1 _
      · exact h.elim
    · rename_i hu; simp only at hu; subst hu
      split at h
      · rename_i hj
        simp only [eIndexAddr, hj]
        exact det_and h.1 _
      · exact h.elim
    · exact h.elim
  · exact h.elim

/-- And on the state, which may hold one block more. -/
theorem eop_ext {P : Program} {op : Op} {fr : Fr} {s s2 : ES} {K Kp K2 Kp2 : EV → ES → Prop} {b : Nat} {oo : Option EO} (h : eop P op fr s K Kp) (hx : Ext b oo s s2) (hf : Free b oo s)
    (hK : ∀ v t t2, Ext b oo t t2 → Free b oo t → K v t → K2 v t2) (hKp : ∀ v t t2, Ext b oo t t2 → Free b oo t → Kp v t → Kp2 v t2) : eop P op fr s2 K2 Kp2 := by
  have h0 : ∀ v, K v s → K2 v s2 := fun v => hK v s s2 hx hf
  cases op <;> simp only [eop] at h ⊢ <;> try exact h.elim
  case move => exact h0 _ h
  case assign => exact h0 _ h
  case pick => split at h <;> first | exact ⟨fun e => h0 _ (h.1 e), fun e => h0 _ (h.2 e)⟩ | exact h.elim
  case alloc =>
    split at h
    · unfold eNew at h ⊢
      obtain ⟨h1, h2⟩ := hx.new hf (.cells _ _ 0 true 0)
      rw [hx.nx]; exact hK _ _ _ h1 h2 h
    · exact h.elim
  case box =>
    unfold eBox eNew at h ⊢
    obtain ⟨h1, h2⟩ := hx.new hf (.cells _ _ 0 true 0)
    rw [hx.nx]; exact ⟨h.1, hK _ _ _ h1 h2 h.2⟩
  case build =>
    split at h
    · unfold ebuild at h ⊢
      split at h
      · refine ⟨h.1, ?_⟩
        have h' := h.2
        split at h'
        · exact h0 _ h'
        · exact h'.elim
      · split at h
        · split at h
          · exact h0 _ h
          · exact h.elim
        · exact h.elim
      · exact h.elim
    · exact h.elim
  case buildSlice =>
    split at h
    · unfold ebuildSlice at h ⊢
      split at h
      · split at h
        · refine ⟨h.1, ?_⟩
          have h' := h.2
          split at h'
          · obtain ⟨h1, h2⟩ := hx.new hf (.cells _ _ 0 true 0)
            rw [hx.nx]; exact hK _ _ _ h1 h2 h'
          · exact h'.elim
        · exact h.elim
      · exact h.elim
    · exact h.elim
  case load =>
    split at h
    · unfold eLoad at h ⊢
      split at h
      · split at h
        · rename_i hg
          rw [hx.some hf hg]
          simp only
          split at h
          · rename_i ha; rw [if_pos ha]; exact ⟨h.1, h0 _ h.2⟩
          · rename_i ha; rw [if_neg ha]
            split at h
            · exact h0 _ h
            · exact h.elim
        · exact h.elim
      · exact h.elim
    · exact h.elim
  case store =>
    split at h
    · unfold eStore at h ⊢
      split at h
      · split at h
        · rename_i hg
          rw [hx.some hf hg]
          simp only
          obtain ⟨h1, h2⟩ := hx.set hf hg (.cells _ _ _ true _)
          exact ⟨h.1, hK _ _ _ h1 h2 h.2⟩
        · exact h.elim
      · exact h.elim
    · exact h.elim
  case nilCheck =>
    split at h
    · exact h0 _ h
    · exact h.elim
  case binOp => exact (det_ebinT _ _ _ _ _ _).mono h0 h
  case unOp => exact (det_eun _ _).mono h0 h
  case convert => exact (det_econv _ _ _ _).mono h0 h
  case slice =>
    split at h
    · unfold eSlice at h ⊢
      split at h
      · refine ⟨h.1, ?_⟩
        have h' := h.2
        unfold eSliceS at h' ⊢
        split at h'
        · exact ⟨h'.1, h0 _ h'.2⟩
        · exact h'.elim
      · split at h
        · split at h
          · rename_i hg
            rw [hx.some hf hg]
            exact ⟨h.1, h0 _ h.2⟩
          · exact h.elim
        · exact h.elim
      · split at h
        · exact ⟨h.1, h0 _ h.2⟩
        · exact h.elim
      · split at h
        · split at h
          · rename_i hg
            rw [hx.some hf hg]
            exact ⟨h.1, h0 _ h.2⟩
          · exact h.elim
        · exact h.elim
      · exact h.elim
    · exact h.elim
  case fieldAddr =>
    split at h
    · unfold eFieldAddr at h ⊢
      split at h
      · split at h
        · split at h
          · exact ⟨h.1, h0 _ h.2⟩
          · exact h.elim
        · exact h.elim
      · exact h.elim
    · exact h.elim
  case field =>
    split at h
    · exact (det_efield _ _ _ _).mono h0 h
    · exact h.elim
  case indexAddr =>
    split at h
    · unfold eIndexAddr at h ⊢
      split at h
      · split at h
        · split at h
          · exact ⟨h.1, h0 _ h.2⟩
          · exact h.elim
        · split at h
          · exact ⟨h.1, h0 _ h.2⟩
          · exact h.elim
        · exact h.elim
      · exact h.elim
    · exact h.elim
  case index =>
    split at h
    · exact (det_eindex _ _ _ _).mono h0 h
    · exact h.elim
  case makeInterface =>
    split at h
    · split at h
      · exact h.elim
      · exact h0 _ h
    · exact h.elim
  case makeFunc => exact h0 _ h
  case extract => exact (det_eextract _ _).mono h0 h
  case call c =>
    obtain ⟨callee, args, ts⟩ := c
    cases callee with
    | invoke x m => exact h.elim
    | value f =>
      simp only [ecall] at h ⊢
      split at h
      · refine ECalls.ext h hx hf ?_
        intro x t t2 h1 h2 h3
        cases x with
        | ret v => exact hK v t t2 h1 h2 h3
        | pan v => exact hKp v t t2 h1 h2 h3
      · exact h.elim
    | builtin b =>
      simp only [ecall] at h ⊢
      unfold ebuiltin at h ⊢
      split at h
      · split at h
        · unfold elen at h ⊢
          split at h <;> first | exact h0 _ h | exact h.elim | skip
          split at h
          · rename_i hg
            rw [hx.some hf hg]
            exact h0 _ h
          · exact h.elim
        · exact h.elim
      · exact (det_eminmax _ _ _).mono h0 h
      · exact (det_eminmax _ _ _).mono h0 h
      · exact h.elim

end Go.E
