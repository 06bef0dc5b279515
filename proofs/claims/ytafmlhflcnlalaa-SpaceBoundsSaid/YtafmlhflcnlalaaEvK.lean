/-
  The layer E, part K: regions that draw their order: one order is enough. Own work.
-/
import Derived.Test.YtafmlhflcnlalaaEvJ
namespace Go.E
set_option linter.all false

inductive Cls where
  | P | R | A | E
  deriving DecidableEq
def cls : Op → Cls
  | .move _ | .assign _ | .pick .. | .build .. | .nilCheck _ | .binOp .. | .unOp .. | .convert .. | .fieldAddr .. | .field .. | .indexAddr .. | .index .. | .makeInterface .. | .makeFunc .. | .extract .. => .P
  | .load .. | .slice .. => .R
  | .call { callee := .builtin .len, .. } => .R
  | .call { callee := .builtin .min, .. } | .call { callee := .builtin .max, .. } => .P
  | .alloc _ | .box .. | .buildSlice .. => .A
  | _ => .E

theorem eSlice_at {P : Program} {i : TI} {x : EV} {lo hi mx : Option EV} {s : ES} {K : EV → ES → Prop} : eSlice P i x lo hi mx s K = eSlice P i x lo hi mx s fun v _ => K v s := by
  unfold eSlice; rfl
theorem eFieldAddr_at {P : Program} {i : TI} {x : EV} {f : Nat} {s : ES} {K : EV → ES → Prop} : eFieldAddr P i x f s K = eFieldAddr P i x f s fun v _ => K v s := by
  unfold eFieldAddr; rfl
theorem eIndexAddr_at {P : Program} {i : TI} {x ix : EV} {s : ES} {K : EV → ES → Prop} : eIndexAddr P i x ix s K = eIndexAddr P i x ix s fun v _ => K v s := by
  unfold eIndexAddr; rfl

/-- What only reckons, or only reads: one value, in this state. -/
theorem eop_det {P : Program} {op : Op} {fr : Fr} {s : ES} {K Kp : EV → ES → Prop} (hc : cls op = .P ∨ cls op = .R) (h : eop P op fr s K Kp) : ∃ v, ∀ K2 Kp2 : EV → ES → Prop, eop P op fr s K2 Kp2 ↔ K2 v s := by
  have lift : ∀ {f : (EV → Prop) → Prop}, Det f → f (fun v => K v s) → ∃ v, ∀ K2 Kp2 : EV → ES → Prop, f (fun v => K2 v s) ↔ K2 v s := fun hd hf => let ⟨v, hv⟩ := hd _ hf; ⟨v, fun K2 _ => hv _⟩
  cases op <;> simp only [cls, reduceCtorEq, or_self, or_false, false_or] at hc <;> simp only [eop] at h ⊢ <;> try exact h.elim
  case move => exact ⟨_, fun _ _ => Iff.rfl⟩
  case assign => exact ⟨_, fun _ _ => Iff.rfl⟩
  case pick =>
    split at h
    · rename_i t ht
      try simp only [ht]
      cases t with
      | true => exact ⟨_, fun K2 _ => ⟨fun q => q.1 rfl, fun q => ⟨fun _ => q, fun e => Bool.noConfusion e⟩⟩⟩
      | false => exact ⟨_, fun K2 _ => ⟨fun q => q.2 rfl, fun q => ⟨fun e => Bool.noConfusion e, fun _ => q⟩⟩⟩
    · exact h.elim
  case build =>
    split at h
    · rename_i i hi; (try simp only [hi]); exact lift (det_ebuild _ _ _) h
    · exact h.elim
  case load =>
    split at h
    · rename_i i hi; (try simp only [hi]); exact lift (det_eLoad _ _ _) h
    · exact h.elim
  case nilCheck =>
    split at h
    · rename_i hx; (try simp only [hx]); exact ⟨_, fun _ _ => Iff.rfl⟩
    · exact h.elim
  case binOp => exact lift (det_ebinT _ _ _ _ _ _) h
  case unOp => exact lift (det_eun _ _) h
  case convert => exact lift (det_econv _ _ _ _) h
  case slice =>
    split at h
    · rename_i i hi
      try simp only [hi]
      rw [eSlice_at] at h
      obtain ⟨v, hv⟩ := det_eSlice _ _ _ _ _ _ _ _ h
      exact ⟨v, fun K2 _ => by rw [eSlice_at]; exact hv _⟩
    · exact h.elim
  case fieldAddr =>
    split at h
    · rename_i i hi
      try simp only [hi]
      rw [eFieldAddr_at] at h
      obtain ⟨v, hv⟩ := det_eFieldAddr _ _ _ _ _ _ h
      exact ⟨v, fun K2 _ => by rw [eFieldAddr_at]; exact hv _⟩
    · exact h.elim
  case field =>
    split at h
    · rename_i i hi; (try simp only [hi]); exact lift (det_efield _ _ _ _) h
    · exact h.elim
  case indexAddr =>
    split at h
    · rename_i i hi
      try simp only [hi]
      rw [eIndexAddr_at] at h
      obtain ⟨v, hv⟩ := det_eIndexAddr _ _ _ _ _ _ h
      exact ⟨v, fun K2 _ => by rw [eIndexAddr_at]; exact hv _⟩
    · exact h.elim
  case index =>
    split at h
    · rename_i i hi; (try simp only [hi]); exact lift (det_eindex _ _ _ _) h
    · exact h.elim
  case makeInterface =>
    split at h
    · rename_i i hi
      obtain ⟨u, sz, by_, z⟩ := i
      try simp only [hi]
      simp only at h
      cases u <;> first | exact h.elim | exact ⟨_, fun _ _ => Iff.rfl⟩
    · exact h.elim
  case makeFunc => exact ⟨_, fun _ _ => Iff.rfl⟩
  case extract => exact lift (det_eextract _ _) h
  case call c =>
    obtain ⟨callee, args, ts⟩ := c
    cases callee with
    | invoke x m => exact h.elim
    | value f => simp [cls] at hc
    | builtin b =>
      simp only [ecall] at h ⊢
      unfold ebuiltin at h
      split at h
      · rename_i t tr x xr e1 e2
        split at h
        · rename_i i hi
          simp only [ebuiltin, e1, e2, hi]
          exact lift (det_elen _ _ _) h
        · exact h.elim
      · rename_i x xr e2
        simp only [ebuiltin, e2]
        exact lift (det_eminmax _ _ _) h
      · rename_i x xr e2
        simp only [ebuiltin, e2]
        exact lift (det_eminmax _ _ _) h
      · exact h.elim

/-- What only reckons asks nothing of the state. -/
theorem eop_pure {P : Program} {op : Op} {fr : Fr} {s s2 : ES} {K K2 Kp Kp2 : EV → ES → Prop} (hc : cls op = .P) (h : eop P op fr s K Kp) (hK : ∀ v, K v s → K2 v s2) : eop P op fr s2 K2 Kp2 := by
  cases op <;> simp only [cls, reduceCtorEq] at hc <;> simp only [eop] at h ⊢ <;> try exact h.elim
  case move => exact hK _ h
  case assign => exact hK _ h
  case pick => split at h <;> first | exact ⟨fun e => hK _ (h.1 e), fun e => hK _ (h.2 e)⟩ | exact h.elim
  case build =>
    split at h
    · exact (det_ebuild _ _ _).mono hK h
    · exact h.elim
  case nilCheck =>
    split at h
    · exact hK _ h
    · exact h.elim
  case binOp => exact (det_ebinT _ _ _ _ _ _).mono hK h
  case unOp => exact (det_eun _ _).mono hK h
  case convert => exact (det_econv _ _ _ _).mono hK h
  case fieldAddr =>
    split at h
    · unfold eFieldAddr at h ⊢
      split at h
      · split at h
        · split at h
          · exact ⟨h.1, hK _ h.2⟩
          · exact h.elim
        · exact h.elim
      · exact h.elim
    · exact h.elim
  case field =>
    split at h
    · exact (det_efield _ _ _ _).mono hK h
    · exact h.elim
  case indexAddr =>
    split at h
    · unfold eIndexAddr at h ⊢
      split at h
      · split at h
        · split at h
          · exact ⟨h.1, hK _ h.2⟩
          · exact h.elim
        · split at h
          · exact ⟨h.1, hK _ h.2⟩
          · exact h.elim
        · exact h.elim
      · exact h.elim
    · exact h.elim
  case index =>
    split at h
    · exact (det_eindex _ _ _ _).mono hK h
    · exact h.elim
  case makeInterface =>
    split at h
    · split at h
      · exact h.elim
      · exact hK _ h
    · exact h.elim
  case makeFunc => exact hK _ h
  case extract => exact (det_eextract _ _).mono hK h
  case call c =>
    obtain ⟨callee, args, ts⟩ := c
    cases callee with
    | invoke x m => exact h.elim
    | value f => simp [cls] at hc
    | builtin b =>
      cases b <;> simp [cls] at hc
      all_goals
        simp only [ecall] at h ⊢
        unfold ebuiltin at h ⊢
        split at h <;> first | exact h.elim | (rename_i hb _ _; cases hb; done) | exact (det_eminmax _ _ _).mono hK h

/-- New blocks under a name that was kept for them. -/
def eopA (P : Program) (b : Nat) (op : Op) (fr : Fr) (s : ES) (K : EV → ES → Prop) : Prop :=
  match op with
  | .alloc t => match tiOf P t with
    | some i => K (.ptr (some ⟨b, 0⟩)) (s.add b (.cells i.zero t 0 true 0))
    | none => False
  | .box t x => (ev fr x).known = true ∧ K (.ptr (some ⟨b, 0⟩)) (s.add b (.cells (ev fr x).cells t 0 true 0))
  | .buildSlice t len ps => match tiOf P t with
    | some i => match i.u with
      | .slice e => match tiOf P e with
        | some j => (j.zero.length = j.size ∧ len * j.size ≤ 16777216) ∧ match fillE (fun n => some (n * j.size, j.size)) (zerosE j.zero len) (partsE fr ps.toList) with
          | some c => K (.slice (some ⟨b, 0⟩) len len) (s.add b (.cells c e 0 true 0))
          | none => False
        | none => False
      | _ => False
    | none => False
  | _ => False

theorem eopA_det {P : Program} {b : Nat} {op : Op} {fr : Fr} {s : ES} {K : EV → ES → Prop} (h : eopA P b op fr s K) : ∃ v o, o.wr = true ∧ ∀ s2 (K2 : EV → ES → Prop), eopA P b op fr s2 K2 ↔ K2 v (s2.add b o) := by
  cases op <;> simp only [eopA] at h ⊢ <;> try exact h.elim
  case alloc =>
    split at h
    · rename_i i hi; (try simp only [hi]); exact ⟨_, _, rfl, fun _ _ => Iff.rfl⟩
    · exact h.elim
  case box => exact ⟨_, _, rfl, fun _ _ => ⟨fun q => q.2, fun q => ⟨h.1, q⟩⟩⟩
  case buildSlice =>
    split at h
    · rename_i i hi
      obtain ⟨u, sz, by_, z⟩ := i
      try simp only [hi]
      split at h
      · rename_i e hu
        simp only at hu; subst hu
        split at h
        · rename_i j hj
          obtain ⟨h1, h2⟩ := h
          split at h2
          · rename_i c hc
            simp only [hj, hc]
            exact ⟨_, _, rfl, fun _ _ => ⟨fun q => q.2, fun q => ⟨h1, q⟩⟩⟩
          · exact h2.elim
        · exact h.elim
      · exact h.elim
    · exact h.elim

theorem eopA_agree {P : Program} {b : Nat} {op : Op} {fr fr2 : Fr} {s : ES} {K : EV → ES → Prop} (h : ∀ x ∈ op.operands.toList, ev fr2 x = ev fr x) : eopA P b op fr2 s K = eopA P b op fr s K := by
  cases op <;> simp only [eopA] <;> (try simp only [Op.operands, List.mem_cons, List.not_mem_nil, or_false, forall_eq_or_imp, forall_eq] at h)
  case box => rw [h]
  case buildSlice t n ps => rw [partsE_agree (by simpa using h)]

end Go.E
