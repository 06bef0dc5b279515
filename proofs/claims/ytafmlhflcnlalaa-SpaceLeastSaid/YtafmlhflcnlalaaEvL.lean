/-
  The layer E, part L: one step of a region that draws its order. Own work.
-/
import Derived.Test.YtafmlhflcnlalaaEvK
namespace Go.E
set_option linter.all false

/-- A new block under a name that was kept for it. -/
theorem Rel.newAt {ρ : Env} {s : ES} {w : World} (h : Rel ρ s w) (b : Nat) (hb : b < s.nx) (hg0 : s.get b = none) (hρ : ρ b = none) (o : EO) (ob : Obj) (l : Loc) (hl : l.r = w.heap.size)
    (hbr : BR (fun i => if i = b then some l else ρ i) (w.alloc ob) l o) {k : Nat} (hk : k ≤ b) :
    GoK k ρ s w (fun i => if i = b then some l else ρ i) (s.add b o) (w.alloc ob) := by
  have hle : ρ.le (fun i => if i = b then some l else ρ i) := fun c l' hc => by
    by_cases hx : c = b
    · subst hx; rw [hρ] at hc; cases hc
    · simp [hx, hc]
  have hold : ∀ r, r < w.heap.size → (w.alloc ob).heap[r]? = w.heap[r]? := fun r hr => by
    simp only [World.alloc, Array.getElem?_push, Nat.ne_of_lt hr, if_false]
  refine ⟨⟨?_, ?_, ?_⟩, fun i hi => by simp [show ¬ i = b by omega], by simp [ES.add]; omega, fun c hc hn => by rw [ES.get_add hb, if_neg (by omega)]; exact hn, ⟨rfl, rfl, rfl, by simp, fun r hr _ => hold r hr⟩, ?_⟩
  · intro c o' l' hg hr
    rw [ES.get_add hb] at hg
    by_cases hx : b = c
    · subst hx
      simp at hg hr; subst hg; subst hr; exact hbr
    · simp only [hx, if_false] at hg
      simp only [show ¬ c = b from fun e => hx e.symm, if_false] at hr
      have := h.live c o' l' hg hr
      exact this.mono hle (hold _ this.lt)
  · intro i hi
    simp only [ES.add] at hi
    simp only [show ¬ i = b by omega, if_false]
    exact h.fresh i hi
  · intro c c' o1 o2 l1 l2 hg hg' hr hr' hne hw
    rw [ES.get_add hb] at hg hg'
    by_cases hx : b = c
    · subst hx
      simp at hg hr; subst hg; subst hr
      simp only [hne, if_false] at hg'
      simp only [show ¬ c' = b from fun e => hne e.symm, if_false] at hr'
      have := (h.live c' o2 l2 hg' hr').lt
      omega
    · simp only [hx, if_false] at hg
      simp only [show ¬ c = b from fun e => hx e.symm, if_false] at hr
      have h1 := (h.live c o1 l1 hg hr).lt
      by_cases hy : b = c'
      · subst hy
        simp at hg' hr'; subst hg'; subst hr'
        omega
      · simp only [hy, if_false] at hg'
        simp only [show ¬ c' = b from fun e => hy e.symm, if_false] at hr'
        exact h.sep c c' o1 o2 l1 l2 hg hg' hr hr' hne hw
  · intro c o' l' hg hr
    rw [ES.get_add hb] at hg
    by_cases hx : b = c
    · subst hx
      simp at hr; subst hr
      exact .inr (by omega)
    · simp only [hx, if_false] at hg
      simp only [show ¬ c = b from fun e => hx e.symm, if_false] at hr
      exact .inl ⟨c, o', l', hg, hr, rfl, id⟩

theorem Rel.newCellsAt {ρ : Env} {s : ES} {w : World} (hR : Rel ρ s w) (b : Nat) (hb : b < s.nx) (hg0 : s.get b = none) (hρ : ρ b = none) (c : List EV) (cs : Array Value) (t : TypeId) (hc : VRs ρ c cs.toList) {k : Nat} (hk : k ≤ b) :
    GoK k ρ s w (fun i => if i = b then some ⟨w.heap.size, 0, c.length, c.length, 0⟩ else ρ i) (s.add b (.cells c t 0 true 0)) (w.alloc (.cells cs t)) := by
  refine hR.newAt b hb hg0 hρ _ _ ⟨w.heap.size, 0, c.length, c.length, 0⟩ rfl ?_ hk
  have hle : ρ.le (fun i => if i = b then some ⟨w.heap.size, 0, c.length, c.length, 0⟩ else ρ i) := fun x l' hx => by
    by_cases h : x = b
    · subst h; rw [hρ] at hx; cases hx
    · simp [h, hx]
  refine ⟨rfl, rfl, fun _ => rfl, Nat.le_refl _, cs, (0, 0), ?_, ?_, fun i v hi => ?_, fun _ i _ _ => by simp [free]⟩
  · simp only [World.alloc, Array.getElem?_push, if_true]
  · have := hc.length; simp at this; simp; omega
  · obtain ⟨v', a, b⟩ := hc.get i v hi
    exact ⟨v', by simpa using a, b.mono hle⟩

/-- What the model does at an operation that makes a block. -/
theorem eopA_run {P : Program} {b : Nat} {o : Oper} {fr : Fr} {s : ES} {K : EV → ES → Prop} (h : eopA P b o.op fr s K) {ρ : Env} {w : World} {a : Act} (hF : FR ρ fr a) :
    ∃ (v : EV) (c : List EV) (cs : Array Value) (t : TypeId) (v' : Value), K v (s.add b (.cells c t 0 true 0)) ∧ VRs ρ c cs.toList ∧ (execOp a.eval o).run P w = .ok (.value v') (w.alloc (.cells cs t)) ∧
      ∀ ρ' : Env, ρ' b = some ⟨w.heap.size, 0, c.length, c.length, 0⟩ → VR ρ' v v' := by
  obtain ⟨dst, op, type, pos, after, guard⟩ := o
  simp only at h
  cases op <;> simp only [eopA] at h <;> try exact h.elim
  case alloc t =>
    split at h
    · rename_i i hi
      obtain ⟨inf, d, z, T⟩ := tiOf_some hi
      refine ⟨_, _, z.cells, _, .pointer (some ⟨w.heap.size, 0, none⟩), h, by rw [T.cells]; exact VRs.ofV _, ?_, fun ρ' hρ' => by rw [VR]; exact ⟨_, hρ', by simp⟩⟩
      simp only [execOp, Instr.alloc, Sem.run_bind, T.run_zero w, Result.andThen_ok]
      simp [newVar, newRow, newObj, Sem.run]
    · exact h.elim
  case box t x =>
    refine ⟨_, _, (a.eval x).cells, _, .pointer (some ⟨w.heap.size, 0, none⟩), h.2, ((hF.ev x).cells h.1).1, ?_, fun ρ' hρ' => by rw [VR]; exact ⟨_, hρ', by simp⟩⟩
    simp [execOp, Instr.box, newVar, newRow, newObj, Sem.run]
  case buildSlice t len ps =>
    split at h
    · rename_i i hi
      obtain ⟨inf, d, z, T⟩ := tiOf_some hi
      split at h
      · rename_i e hu
        have hd : d = .slice e := by rw [T.u] at hu; cases d <;> simp [utOf] at hu; subst hu; rfl
        subst hd
        split at h
        · rename_i j hj
          obtain ⟨inf2, d2, z2, T2⟩ := tiOf_some hj
          obtain ⟨⟨hzl, hle⟩, h⟩ := h
          split at h
          · rename_i c hf
            have hz : VRs ρ j.zero z2.cells.toList := by rw [T2.cells]; exact VRs.ofV _
            have hzero : VRs ρ (zerosE j.zero len) ((Array.range (len * j.size)).map ((if len * j.size = 0 then #[] else z2.cells)[· % (if len * j.size = 0 then #[] else z2.cells).size]!)).toList := by
              by_cases h0 : len * j.size = 0
              · have : zerosE j.zero len = [] := by
                  apply List.eq_nil_of_length_eq_zero; rw [zerosE_length, hzl]; exact h0
                rw [this, h0]; simp [VRs]
              · simp only [h0, if_false]
                exact zeros_VRs hz len _ (by rw [hzl])
            obtain ⟨p1, p2⟩ := parts_rel hF ps
            obtain ⟨cs, h1, h2⟩ := fillE_sound (ρ := ρ) (partsE fr ps.toList) (ps.map fun (x : Nat × Operand) => (x.1, a.eval x.2)).toList _ _ c (by simpa using p1) (fun k n v hk => by simpa using p2 k n v hk) hzero hf
            refine ⟨_, c, cs, e, .slice (some ⟨w.heap.size, 0, none⟩) len len, h, h2, ?_, fun ρ' hρ' => by rw [VR]; exact ⟨_, len, 0, hρ', .inl rfl, Nat.le_refl _, .inl rfl, rfl⟩⟩
            have hexec : execOp a.eval { dst := dst, op := .buildSlice t len ps, type := type, pos := pos, after := after, guard := guard } = (do pure (.value (← Instr.buildSlice t len (ps.map fun (x : Nat × Operand) => (x.1, a.eval x.2))))) := rfl
            rw [hexec]
            simp only [Instr.buildSlice, Sem.run_bind, T.run_und w, Result.andThen_ok, T2.run_size w]
            rw [if_neg (by omega)]
            by_cases h0 : len * j.size = 0
            · simp only [h0, if_true] at h1 ⊢
              rw [pure_bind]
              simp only [h1]
              simp [newRow, newObj, Sem.run]
            · simp only [h0, if_false] at h1 ⊢
              simp only [Sem.run_bind, T2.run_zero w, Sem.run_pure, Result.andThen_ok, h1]
              simp [newRow, newObj, Sem.run]
          · exact h.elim
        · exact h.elim
      · exact h.elim
    · exact h.elim

/-! A step. -/
def rdsOf (L : List Oper) (o : Oper) : List Tmp := opTemps o.op ++ (match o.guard with
  | some (j, _) => match guardT L j with
    | some t => [t]
    | none => []
  | none => [])
def gstep (L : List Oper) (o : Oper) (fr : Fr) (run skip : Prop) : Prop :=
  match o.guard with
  | none => run
  | some (j, want) => match guardT L j with
    | none => False
    | some t => match fr.lk t with
      | .bool b => gsel b want run skip
      | .tuple [] => skip
      | _ => False
def KF : EV → ES → Prop := fun _ _ => False
def oneOp (P : Program) (b : Nat) (o : Oper) (fr : Fr) (s : ES) (K : Fr → ES → Prop) : Prop :=
  match cls o.op with
  | .A => b < s.nx ∧ eopA P b o.op fr s (KO o fr K)
  | _ => eop P o.op fr s (KO o fr K) KF
def stepG (P : Program) (L : List Oper) (base i : Nat) (K : Fr → ES → Prop) (fr : Fr) (s : ES) : Prop :=
  match L[i]? with
  | none => False
  | some o => gstep L o fr (oneOp P (base + i) o fr s K) (okDst fr.n o.dst ∧ K (fr.putO o.dst undefE) s)
def ES.addO (s : ES) (b : Nat) : Option EO → ES
  | some o => s.add b o
  | none => s

theorem gstep_split {L : List Oper} {o : Oper} {fr : Fr} {run skip : Prop} (h : gstep L o fr run skip) : (∀ run2 skip2 : Prop, gstep L o fr run2 skip2 ↔ run2) ∨ (∀ run2 skip2 : Prop, gstep L o fr run2 skip2 ↔ skip2) := by
  unfold gstep at h ⊢
  cases hg : o.guard with
  | none => exact .inl fun _ _ => by simp
  | some jw =>
    obtain ⟨j, want⟩ := jw
    simp only [hg] at h ⊢
    cases ht : guardT L j with
    | none => simp [ht] at h
    | some t =>
      simp only [ht] at h ⊢
      cases hv : fr.lk t <;> simp only [hv] at h ⊢ <;> try exact h.elim
      case bool b =>
        by_cases hb : b = want
        · subst hb
          exact .inl fun _ _ => ⟨fun q => q.1 rfl, fun q => ⟨fun _ => q, fun e => by cases b <;> cases e⟩⟩
        · have hb' : b = !want := by cases b <;> cases want <;> simp at hb ⊢
          exact .inr fun _ _ => ⟨fun q => q.2 hb', fun q => ⟨fun e => absurd e hb, fun _ => q⟩⟩
      case tuple vs =>
        cases vs with
        | nil => exact .inr fun _ _ => Iff.rfl
        | cons _ _ => exact h.elim

theorem gstep_agree {L : List Oper} {o : Oper} {fr fr2 : Fr} {run skip : Prop} (ha : Agree (rdsOf L o) fr fr2) : gstep L o fr2 run skip = gstep L o fr run skip := by
  unfold gstep
  cases hg : o.guard with
  | none => rfl
  | some jw =>
    obtain ⟨j, want⟩ := jw
    simp only
    cases ht : guardT L j with
    | none => rfl
    | some t =>
      simp only
      rw [ha.2 t (by simp [rdsOf, hg, ht])]

theorem agree_ops {L : List Oper} {o : Oper} {fr fr2 : Fr} (ha : Agree (rdsOf L o) fr fr2) : ∀ x ∈ o.op.operands.toList, Go.E.ev fr2 x = Go.E.ev fr x :=
  Agree.ev (op := o.op) ⟨ha.1, fun t ht => ha.2 t (by simp only [rdsOf, List.mem_append]; exact .inl ht)⟩

theorem Ext.addBoth {b c : Nat} {oo : Option EO} {s s2 : ES} (h : Ext b oo s s2) (hf : Free b oo s) (o : EO) (hc : c < s.nx) (hne : oo.isSome = true → b ≠ c) : Ext b oo (s.add c o) (s2.add c o) ∧ Free b oo (s.add c o) := by
  refine ⟨⟨h.nx, fun x => ?_⟩, fun hs => ?_⟩
  · rw [ES.get_add hc, ES.get_add (by rw [h.nx]; exact hc), h.get]
    cases oo with
    | none => rfl
    | some y =>
      have := hne rfl
      by_cases h1 : c = x
      · subst h1; simp [this]
      · simp only [h1, if_false]
  · obtain ⟨h1, h2, h3⟩ := hf hs
    exact ⟨by rw [ES.get_add hc, if_neg (fun e => hne hs e.symm)]; exact h1, h2, h3⟩

/-- A step hangs on what it reads, and abides one block more. -/
theorem stepG_sim {P : Program} {L : List Oper} {base i : Nat} {o : Oper} (ho : L[i]? = some o) {fr fr2 : Fr} {s s2 : ES} {K K2 : Fr → ES → Prop} {b : Nat} {oo : Option EO} (h : stepG P L base i K fr s) (ha : Agree (rdsOf L o) fr fr2)
    (hx : Ext b oo s s2) (hf : Free b oo s) (hne : oo.isSome = true → b ≠ base + i) (hK : ∀ v t t2, Ext b oo t t2 → Free b oo t → K (fr.putO o.dst v) t → K2 (fr2.putO o.dst v) t2) : stepG P L base i K2 fr2 s2 := by
  unfold stepG at h ⊢
  simp only [ho] at h ⊢
  rw [gstep_agree ha]
  have hrun : oneOp P (base + i) o fr s K → oneOp P (base + i) o fr2 s2 K2 := by
    intro hr
    have hko : ∀ v t t2, Ext b oo t t2 → Free b oo t → KO o fr K v t → KO o fr2 K2 v t2 := fun v t t2 e1 e2 e3 => ⟨by rw [ha.1]; exact e3.1, hK v t t2 e1 e2 e3.2⟩
    unfold oneOp at hr ⊢
    split at hr
    · rw [eopA_agree (agree_ops ha)]
      obtain ⟨hb, hr⟩ := hr
      refine ⟨by rw [hx.nx]; exact hb, ?_⟩
      obtain ⟨v, ob, _, hv⟩ := eopA_det hr
      obtain ⟨e1, e2⟩ := hx.addBoth hf ob hb hne
      exact (hv s2 _).2 (hko v _ _ e1 e2 ((hv s _).1 hr))
    · rw [eop_agree (agree_ops ha)]
      exact eop_ext hr hx hf hko fun _ _ _ _ _ e => e
  have hskip : (okDst fr.n o.dst ∧ K (fr.putO o.dst undefE) s) → (okDst fr2.n o.dst ∧ K2 (fr2.putO o.dst undefE) s2) := fun q => ⟨by rw [ha.1]; exact q.1, hK _ _ _ hx hf q.2⟩
  rcases gstep_split h with hs | hs
  · exact (hs _ _).2 (hrun ((hs _ _).1 h))
  · exact (hs _ _).2 (hskip ((hs _ _).1 h))

def clsAt (L : List Oper) (i : Nat) : Cls := match L[i]? with
  | some o => cls o.op
  | none => .E

/-- A step that only reckons, or makes a block: one value, whatever the state. -/
theorem stepG_PA {P : Program} {L : List Oper} {base i : Nat} {o : Oper} (ho : L[i]? = some o) (hc : cls o.op = .P ∨ cls o.op = .A) {fr : Fr} {s : ES} {K : Fr → ES → Prop} (h : stepG P L base i K fr s) :
    ∃ v oo, (∀ x, oo = some x → x.wr = true) ∧ ∀ s2 (K2 : Fr → ES → Prop), (stepG P L base i K2 fr s2 ↔ (oo.isSome = true → base + i < s2.nx) ∧ K2 (fr.putO o.dst v) (s2.addO (base + i) oo)) := by
  unfold stepG at h ⊢
  simp only [ho] at h ⊢
  rcases gstep_split h with hs | hs
  · have hr := (hs _ _).1 h
    rcases hc with hc | hc
    · simp only [oneOp, hc] at hr
      obtain ⟨v, hv⟩ := eop_det (.inl hc) hr
      refine ⟨v, none, by simp, fun s2 K2 => ?_⟩
      rw [hs]
      simp only [oneOp, hc, ES.addO]
      have hok : okDst fr.n o.dst := ((hv _ _).1 hr).1
      refine ⟨fun q => ⟨by simp, ?_⟩, fun q => ?_⟩
      · have := eop_pure (s2 := s) (K2 := fun u _ => KO o fr K2 u s2) (Kp2 := KF) hc q fun _ e => e
        exact ((hv _ _).1 this).2
      · have := (hv (fun u _ => KO o fr K2 u s2) KF).2 ⟨hok, q.2⟩
        exact eop_pure (s2 := s2) hc this fun _ e => e
    · simp only [oneOp, hc] at hr
      obtain ⟨v, ob, hw, hv⟩ := eopA_det hr.2
      refine ⟨v, some ob, by rintro x ⟨⟩; exact hw, fun s2 K2 => ?_⟩
      rw [hs]
      simp only [oneOp, hc, ES.addO]
      have hok : okDst fr.n o.dst := ((hv _ _).1 hr.2).1
      exact ⟨fun q => ⟨fun _ => q.1, ((hv _ _).1 q.2).2⟩, fun q => ⟨q.1 rfl, (hv _ _).2 ⟨hok, q.2⟩⟩⟩
  · have hr := (hs _ _).1 h
    refine ⟨undefE, none, by simp, fun s2 K2 => ?_⟩
    rw [hs]
    exact ⟨fun q => ⟨by simp, q.2⟩, fun q => ⟨hr.1, q.2⟩⟩

/-- A step that only reckons or reads: one value in this state. -/
theorem stepG_PR {P : Program} {L : List Oper} {base i : Nat} {o : Oper} (ho : L[i]? = some o) (hc : cls o.op = .P ∨ cls o.op = .R) {fr : Fr} {s : ES} {K : Fr → ES → Prop} (h : stepG P L base i K fr s) :
    ∃ v, ∀ K2 : Fr → ES → Prop, stepG P L base i K2 fr s ↔ K2 (fr.putO o.dst v) s := by
  unfold stepG at h ⊢
  simp only [ho] at h ⊢
  rcases gstep_split h with hs | hs
  · have hr := (hs _ _).1 h
    have hne : ∀ K2, oneOp P (base + i) o fr s K2 = eop P o.op fr s (KO o fr K2) KF := by
      intro K2; rcases hc with hc | hc <;> simp only [oneOp, hc]
    rw [hne] at hr
    obtain ⟨v, hv⟩ := eop_det hc hr
    have hok : okDst fr.n o.dst := ((hv _ _).1 hr).1
    refine ⟨v, fun K2 => ?_⟩
    rw [hs, hne, hv]
    exact ⟨fun q => q.2, fun q => ⟨hok, q⟩⟩
  · have hr := (hs _ _).1 h
    refine ⟨undefE, fun K2 => ?_⟩
    rw [hs]
    exact ⟨fun q => q.2, fun q => ⟨hr.1, q⟩⟩

end Go.E
