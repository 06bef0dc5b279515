/-
  The layer E, part R: code step by step: one rule a form; what outlives a region; branches that wait. Own work.
-/
import Derived.Test.YtafmlhflcnlalaaEvQ
namespace Go.E
set_option linter.all false

/-- What of a frame outlives a region: the slots of a mask. -/
def keepM (m : Nat) : List (Nat × EV) → List (Nat × EV)
  | [] => []
  | (t, v) :: r => if m / 2 ^ t % 2 = 1 then (t, v) :: dropL (keepM m r) t else keepM m r
def Fr.keep (m : Nat) (fr : Fr) : Fr := ⟨keepM m fr.m, .unk, fr.n⟩
theorem keepM_lkp {m : Nat} : ∀ {l : List (Nat × EV)} {t : Nat} {v : EV}, lkp (keepM m l) t = some v → lkp l t = some v ∧ m / 2 ^ t % 2 = 1
  | [], t, v, h => by simp [keepM, lkp] at h
  | (k, x) :: r, t, v, h => by
    simp only [keepM] at h
    simp only [lkp]
    by_cases hb : m / 2 ^ k % 2 = 1
    · rw [if_pos hb] at h
      simp only [lkp] at h
      by_cases hk : k = t
      · subst hk; simpa [hb] using h
      · simp only [hk, if_false] at h ⊢
        rw [lkp_dropL, if_neg hk] at h
        exact keepM_lkp h
    · rw [if_neg hb] at h
      obtain ⟨h1, h2⟩ := keepM_lkp h
      by_cases hk : k = t
      · subst hk; exact absurd h2 hb
      · simp only [hk, if_false]; exact ⟨h1, h2⟩

theorem Fr.keep_weak (m : Nat) (fr : Fr) : (fr.keep m).weak fr := ⟨rfl, rfl, fun t v h => by
  have := (keepM_lkp h).1
  simp only [Fr.lk, this]⟩
theorem esem_weak {P : Program} {k : Nat} {c : Code} {Q : X → Fr → ES → Prop} {fr fr' : Fr} {s : ES} (hw : fr'.weak fr) (h : ESem P k c Q fr' s) : ESem P k c Q fr s :=
  fun hk r ρ w a hR hF => h hk r ρ w a hR (hF.weak hw)

variable {P : Program} {k : Nat} {Q : X → Fr → ES → Prop} {fr : Fr} {s : ES}
/-- What follows, kept as it is until it is come to. -/
def seqN (P : Program) (k m : Nat) (y : Code) (Q : X → Fr → ES → Prop) : Fr → ES → Prop := fun fr s => ESem P k y Q (fr.keep m) s
theorem seqN_ap {m : Nat} {y : Code} : seqN P k m y Q fr s = ESem P k y Q (fr.keep m) s := rfl
theorem esem_seqK (m : Nat) {x y : Code} (h : ESem P k x (Then (seqN P k m y Q) Q) fr s) : ESem P k (.seq x y) Q fr s := by
  intro hk r ρ w a hR hF
  refine wpIn_seq (wpIn_mono (h hk r ρ w a hR hF) ?_)
  rintro e a' w' ⟨ex, fr', s', ρ', hx, hF', hG, hQ⟩
  cases ex with
  | normal =>
    cases hx
    exact wpIn_mono (hQ hG.nx r ρ' w' a' hG.rel (hF'.weak (Fr.keep_weak _ _))) fun e a w h => CPost.trans hG h
  | exit i => cases hx; exact ⟨.exit i, fr', s', ρ', rfl, hF', hG, hQ⟩
  | goto i => cases hx; exact ⟨.goto i, fr', s', ρ', rfl, hF', hG, hQ⟩
  | ret => cases hx; exact ⟨.ret, fr', s', ρ', rfl, hF', hG, hQ⟩
  | pan v => obtain ⟨v', rfl, hv⟩ := hx; exact ⟨.pan v, fr', s', ρ', ⟨v', rfl, hv⟩, hF', hG, hQ⟩
theorem esem_reg {id : Nat} {ops : Array Oper} (h : eops P ops.toList Q ops.toList fr s) : ESem P k (.region id ops false) Q fr s := ecode_sound _ _ _ _ h
theorem esem_skip (h : Q .normal fr s) : ESem P k .skip Q fr s := ecode_sound _ _ _ _ h
theorem esem_label {l : Nat} (h : Q .normal fr s) : ESem P k (.label l) Q fr s := ecode_sound _ _ _ _ h
theorem esem_ret (h : Q .ret fr s) : ESem P k .ret Q fr s := ecode_sound _ _ _ _ h
theorem esem_exit {i : Nat} (h : Q (.exit i) fr s) : ESem P k (.exit i) Q fr s := ecode_sound _ _ _ _ h
theorem esem_goto {i : Nat} (h : Q (.goto i) fr s) : ESem P k (.goto i) Q fr s := ecode_sound _ _ _ _ h
def csel (P : Program) (k : Nat) (x y : Code) (Q : X → Fr → ES → Prop) (v : EV) (fr : Fr) (s : ES) : Prop :=
  match v with
  | .bool b => gsel b true (ESem P k x Q fr s) (ESem P k y Q fr s)
  | _ => False
theorem esem_cond {c : Operand} {x y : Code} (h : csel P k x y Q (ev fr c) fr s) : ESem P k (.cond c x y) Q fr s := by
  intro hk r ρ w a hR hF
  unfold csel at h
  split at h
  · rename_i b hb
    have hc := hF.ev c
    rw [hb, VR] at hc
    cases b with
    | true => exact wpIn_cond_true hc (h.1 rfl hk r ρ w a hR hF)
    | false => exact wpIn_cond_false hc (h.2 rfl hk r ρ w a hR hF)
  · exact h.elim
theorem esem_block {id : Nat} {x : Code} (h : ESem P k x (InBlk id Q) fr s) : ESem P k (.block id x) Q fr s := by
  intro hk r ρ w a hR hF
  refine wpIn_block (wpIn_mono (h hk r ρ w a hR hF) ?_)
  rintro e a' w' ⟨ex, fr', s', ρ', hx, hF', hG, hQ⟩
  cases ex with
  | normal => cases hx; exact ⟨.normal, fr', s', ρ', rfl, hF', hG, hQ⟩
  | exit i =>
    cases hx
    simp only [InBlk] at hQ
    simp only [Exit.inBlock]
    split at hQ
    · rename_i hi; rw [if_pos hi]; exact ⟨.normal, fr', s', ρ', rfl, hF', hG, hQ⟩
    · rename_i hi; rw [if_neg hi]; exact ⟨.exit i, fr', s', ρ', rfl, hF', hG, hQ⟩
  | goto i => cases hx; exact ⟨.goto i, fr', s', ρ', rfl, hF', hG, hQ⟩
  | ret => cases hx; exact ⟨.ret, fr', s', ρ', rfl, hF', hG, hQ⟩
  | pan v => obtain ⟨v', rfl, hv⟩ := hx; exact ⟨.pan v, fr', s', ρ', ⟨v', rfl, hv⟩, hF', hG, hQ⟩

/-- Branches: the code that follows is not looked into. -/
theorem esem_id (h : ESem P k .skip Q fr s) : ESem P k .skip Q fr s := h

/-- The end of a function: the values and the state that are told. -/
theorem done_of {k : Nat} {v : EV} {s s0 : ES} {Q : ER → ES → Prop} (hl : lessL s s0.bl) (hb : blBelow s0.nx s0.bl) (hk : k ≤ s0.nx) (hv : v.bel s0.nx) (hQ : Q (.ret v) s0) : Done k Q (.ret v) s :=
  ⟨s0, ⟨fun _ _ hg => lessL_lkp hl (ES.get_lt hg).2, hb⟩, hk, hv, hQ⟩
theorem done_zero {v v' : EV} {s : ES} (h : v.bel 0) (e : v = v') : Done 0 (fun x s => x = .ret v' ∧ s = ES.zero) (.ret v) s :=
  ⟨ES.zero, ⟨fun b o h => by simp [ES.zero, ES.get] at h, trivial⟩, Nat.le_refl _, h, by rw [e], rfl⟩


/-! The operations' rules, for the simplifier: what follows is kept as it is until it is come to. -/
def eopsN (P : Program) (L : List Oper) (Q : X → Fr → ES → Prop) (l : List Oper) : Fr → ES → Prop := eops P L Q l
theorem eopsN_ap {L l : List Oper} : eopsN P L Q l fr s = eops P L Q l fr s := rfl
theorem eops_nil {L : List Oper} : eops P L Q [] fr s = Q .normal fr s := rfl
theorem eops_cons {L : List Oper} {o : Oper} {rest : List Oper} : eops P L Q (o :: rest) fr s = (match o.guard with
    | none => eop P o.op fr s (KO o fr (eopsN P L Q rest)) (KP Q fr)
    | some (j, want) => match guardT L j with
      | none => False
      | some t => match fr.lk t with
        | .bool b => gsel b want (opRun P o (fr.put t (.bool want)) s (eopsN P L Q rest) Q) (opSkip o (fr.put t (.bool !want)) s (eopsN P L Q rest))
        | .tuple [] => okDst fr.n o.dst ∧ eopsN P L Q rest (fr.putO o.dst undefE) s
        | _ => False) := rfl
theorem KO_ap {o : Oper} {next : Fr → ES → Prop} {v : EV} : KO o fr next v s = (okDst fr.n o.dst ∧ next (fr.putO o.dst v) s) := rfl
theorem KP_ap {v : EV} : KP Q fr v s = Q (.pan v) fr s := rfl
def stepRun (P : Program) (b : Nat) (o : Oper) (fr : Fr) (s : ES) (K : Fr → ES → Prop) : Prop := oneOp P b o fr s K
theorem stepG_eq {P : Program} {L : List Oper} {base i : Nat} {K : Fr → ES → Prop} {fr : Fr} {s : ES} : stepG P L base i K fr s = (match L[i]? with
  | none => False
  | some o => match o.guard with
    | none => oneOp P (base + i) o fr s K
    | some (j, want) => match guardT L j with
      | none => False
      | some t => match fr.lk t with
        | .bool b => gsel b want (stepRun P (base + i) o fr s K) (opSkip o fr s K)
        | .tuple [] => okDst fr.n o.dst ∧ K (fr.putO o.dst undefE) s
        | _ => False) := by
  unfold stepG
  cases L[i]? with
  | none => rfl
  | some o =>
    simp only [gstep]
    cases o.guard with
    | none => rfl
    | some jw => rfl
def canonN (P : Program) (L : List Oper) (base : Nat) (K : Fr → ES → Prop) (rs : List Nat) (rest : List (Nat × List Nat)) : Fr → ES → Prop := fun fr s => rchks P L base rs fr s ∧ canon P L base K rest fr s
theorem canonN_nil {L : List Oper} {base : Nat} {K : Fr → ES → Prop} {rest : List (Nat × List Nat)} : canonN P L base K [] rest fr s = canon P L base K rest fr s := by simp [canonN, rchks]
theorem canonN_cons {L : List Oper} {base : Nat} {K : Fr → ES → Prop} {r : Nat} {rs : List Nat} {rest : List (Nat × List Nat)} : canonN P L base K (r :: rs) rest fr s = (rchks P L base (r :: rs) fr s ∧ canon P L base K rest fr s) := rfl
theorem canon_nil {L : List Oper} {base : Nat} {K : Fr → ES → Prop} : canon P L base K [] fr s = K fr s := rfl
theorem canon_cons {L : List Oper} {base : Nat} {K : Fr → ES → Prop} {i : Nat} {rs : List Nat} {rest : List (Nat × List Nat)} : canon P L base K ((i, rs) :: rest) fr s = stepG P L base i (canonN P L base K rs rest) fr s := rfl

theorem gs_run_t {o : Oper} {n : Fr → ES → Prop} {B : Prop} : gsel true true (opRun P o fr s n Q) B = eop P o.op fr s (KO o fr n) (KP Q fr) := gsel_tt _ _
theorem gs_run_f {o : Oper} {n : Fr → ES → Prop} {B : Prop} : gsel false false (opRun P o fr s n Q) B = eop P o.op fr s (KO o fr n) (KP Q fr) := gsel_ff _ _
theorem gs_skip_t {o : Oper} {n : Fr → ES → Prop} {A : Prop} : gsel true false A (opSkip o fr s n) = (okDst fr.n o.dst ∧ n (fr.putO o.dst undefE) s) := gsel_tf _ _
theorem gs_skip_f {o : Oper} {n : Fr → ES → Prop} {A : Prop} : gsel false true A (opSkip o fr s n) = (okDst fr.n o.dst ∧ n (fr.putO o.dst undefE) s) := gsel_ft _ _
theorem gs_step_t {b : Nat} {o : Oper} {n : Fr → ES → Prop} {B : Prop} : gsel true true (stepRun P b o fr s n) B = oneOp P b o fr s n := gsel_tt _ _
theorem gs_step_f {b : Nat} {o : Oper} {n : Fr → ES → Prop} {B : Prop} : gsel false false (stepRun P b o fr s n) B = oneOp P b o fr s n := gsel_ff _ _
theorem gs_pick_t {K : EV → ES → Prop} {v : EV} {B : Prop} : gsel true true (pickZ K v s) B = K v s := gsel_tt _ _
theorem gs_pick_f {K : EV → ES → Prop} {v : EV} {A : Prop} : gsel false true A (pickZ K v s) = K v s := gsel_ft _ _
theorem gs_code_t {c : Code} {B : Prop} : gsel true true (ESem P k c Q fr s) B = ESem P k c Q fr s := gsel_tt _ _
theorem gs_code_f {c : Code} {A : Prop} : gsel false true A (ESem P k c Q fr s) = ESem P k c Q fr s := gsel_ft _ _

/-- A loop by what holds at the head of every round, of the slots that outlive it. -/
theorem esem_loopK (mk : Nat) {c : Code} (I : Nat → Fr → ES → Prop) (n : Nat) (h0 : I n fr s)
    (round : ∀ n fr s, I n fr s → ESem P k c (Then (fun fr' s' => ∃ m, m < n ∧ I m (fr'.keep mk) s') Q) fr s) : ESem P k (.loop c) Q fr s := by
  intro hk r ρ w a hR hF
  let p : Act → World → Nat → Prop := fun a' w' n => ∃ fr' s' ρ', I n fr' s' ∧ FR ρ' fr' a' ∧ GoK k ρ s w ρ' s' w'
  refine wpIn_loop (fun a' w' => ∃ n, p a' w' n) (fun a' w' => leastOf (p a' w')) ⟨n, fr, s, ρ, h0, hF, GoK.refl hR hk⟩ ?_
  rintro a' w' ⟨j, hj⟩
  obtain ⟨fr', s', ρ', hI, hF', hG⟩ := (leastOf_spec hj).1
  refine wpIn_mono (round _ fr' s' hI hG.nx r ρ' w' a' hG.rel hF') ?_
  rintro e a2 w2 ⟨ex, fr2, s2, ρ2, hx, hF2, hG2, hQ⟩
  cases ex with
  | normal =>
    cases hx
    obtain ⟨m, hm, hI2⟩ := hQ
    have hp : p a2 w2 m := ⟨_, _, _, hI2, hF2.weak (Fr.keep_weak mk fr2), hG.trans hG2⟩
    exact ⟨⟨m, hp⟩, Nat.lt_of_le_of_lt (leastOf_spec hp).2 hm⟩
  | exit i => cases hx; exact ⟨.exit i, fr2, s2, ρ2, rfl, hF2, hG.trans hG2, hQ⟩
  | goto i => cases hx; exact ⟨.goto i, fr2, s2, ρ2, rfl, hF2, hG.trans hG2, hQ⟩
  | ret => cases hx; exact ⟨.ret, fr2, s2, ρ2, rfl, hF2, hG.trans hG2, hQ⟩
  | pan v => obtain ⟨v', rfl, hv⟩ := hx; exact ⟨.pan v, fr2, s2, ρ2, ⟨v', rfl, hv⟩, hF2, hG.trans hG2, hQ⟩
/-- A loop of few rounds: each in its turn. -/
def loopN (P : Program) (k m : Nat) (c : Code) (Q : X → Fr → ES → Prop) : Nat → Fr → ES → Prop
  | 0, _, _ => False
  | n + 1, fr, s => ESem P k c (Then (fun fr s => loopN P k m c Q n (fr.keep m) s) Q) fr s
def loopB (P : Program) (k m : Nat) (c : Code) (Q : X → Fr → ES → Prop) (n : Nat) : Fr → ES → Prop := fun fr s => loopN P k m c Q n (fr.keep m) s
theorem loopB_ap {m n : Nat} {c : Code} : loopB P k m c Q (n + 1) fr s = ESem P k c (Then (loopB P k m c Q n) Q) (fr.keep m) s := rfl
theorem esem_loopN (m n : Nat) {c : Code} (h : loopB P k m c Q n fr s) : ESem P k (.loop c) Q fr s := by
  refine esem_weak (Fr.keep_weak m fr) (esem_loopK m (fun n fr s => loopN P k m c Q n fr s) n h ?_)
  intro n fr s h
  cases n with
  | zero => exact h.elim
  | succ n =>
    refine ESem.mono h fun x fr s hq => ?_
    cases x with
    | normal => exact ⟨n, Nat.lt_succ_self n, hq⟩
    | _ => exact hq

/-- A loop over states of one's own: what the slots and the blocks are at the head of a round, said anew each time. -/
def Back {α : Type} (F : α → List (Nat × EV)) (B : α → List (Nat × EO)) (R : α → Prop) (μ : α → Nat) (n0 : Nat) (a : α) (fr : Fr) (s : ES) : Prop := ∃ a', R a' ∧ μ a' < μ a ∧ fr.n = n0 ∧ weakL fr (F a') ∧ lessL s (B a')
theorem esem_loopS {α : Type} {c : Code} (F : α → List (Nat × EV)) (B : α → List (Nat × EO)) (N : α → Nat) (R : α → Prop) (μ : α → Nat) (a0 : α)
    (side : ∀ a, R a → frBel (N a) (F a) ∧ blBelow (N a) (B a) ∧ k ≤ N a) (h0 : R a0) (hF : weakL fr (F a0)) (hB : lessL s (B a0))
    (round : ∀ a, R a → ESem P k c (Then (Back F B R μ fr.n a) Q) ⟨F a, .unk, fr.n⟩ ⟨B a, N a⟩) : ESem P k (.loop c) Q fr s := by
  obtain ⟨s1, s2, s3⟩ := side a0 h0
  refine esem_trim (F a0) (B a0) (N a0) hF s1 hB s2 s3 ?_
  generalize fr.n = n0 at round ⊢
  intro hk r ρ w a hR hF
  let p : Act → World → Nat → Prop := fun a' w' n => ∃ x ρ', R x ∧ μ x = n ∧ FR ρ' ⟨F x, .unk, n0⟩ a' ∧ GoK k ρ ⟨B a0, N a0⟩ w ρ' ⟨B x, N x⟩ w'
  refine wpIn_loop (fun a' w' => ∃ n, p a' w' n) (fun a' w' => leastOf (p a' w')) ⟨μ a0, a0, ρ, h0, rfl, hF, GoK.refl hR hk⟩ ?_
  rintro a' w' ⟨j, hj⟩
  obtain ⟨x, ρ', hx, hμ, hF', hG⟩ := (leastOf_spec hj).1
  refine wpIn_mono (round x hx hG.nx r ρ' w' a' hG.rel hF') ?_
  rintro e a2 w2 ⟨ex, fr2, s2', ρ2, hex, hF2, hG2, hQ⟩
  cases ex with
  | normal =>
    cases hex
    obtain ⟨y, hy, hlt, hn, hw, hl⟩ := hQ
    obtain ⟨t1, t2, t3⟩ := side y hy
    have hw' : Fr.weak ⟨F y, .unk, n0⟩ fr2 := ⟨hn.symm, rfl, fun _ _ e => weakL_lkp hw e⟩
    have hp : p a2 w2 (μ y) := ⟨y, _, hy, rfl, (hF2.weak hw').cut t1 (.inl rfl), (hG.trans hG2).less _ (less_of hl t2) t3⟩
    exact ⟨⟨_, hp⟩, Nat.lt_of_le_of_lt (leastOf_spec hp).2 (hμ ▸ hlt)⟩
  | exit i => cases hex; exact ⟨.exit i, fr2, s2', ρ2, rfl, hF2, hG.trans hG2, hQ⟩
  | goto i => cases hex; exact ⟨.goto i, fr2, s2', ρ2, rfl, hF2, hG.trans hG2, hQ⟩
  | ret => cases hex; exact ⟨.ret, fr2, s2', ρ2, rfl, hF2, hG.trans hG2, hQ⟩
  | pan v => obtain ⟨v', rfl, hv⟩ := hex; exact ⟨.pan v, fr2, s2', ρ2, ⟨v', rfl, hv⟩, hF2, hG.trans hG2, hQ⟩

/-- A function with a body: how many slots, and where the results lie, as numbers. -/
theorem ecalls_in {P : Program} {g : FuncId} {fn : Func} {c : Code} {args : List EV} {s : ES} {Q : ER → ES → Prop} (n : Nat) (rs : List ResultVar) (hf : P.funcs[g]? = some fn) (hb : fn.body = some c) (hn : fn.ntmps = n) (hr : fn.results.toList = rs)
    (hname : (fn.name == "runtime.NumGoroutine") = false) (hl : args.length ≤ n) (h : ESem P s.nx c (Final P rs s.nx Q) ⟨enumL 0 args, undefE, n⟩ s) : ECalls P g args s Q := by
  subst hn; subst hr
  exact ecalls_esem hf hb hname hl h
theorem le_ble {a b : Nat} (h : Nat.ble a b = true) : a ≤ b := Nat.le_of_ble_eq_true h

theorem drawQ {id : Nat} {L : List Oper} (hm : P.follows .mixedOrders = true) (pl : List (Nat × List Nat)) (hp : okPlan L pl = true)
    (h : canon P L s.nx (Q .normal) pl fr (s.keep L.length)) : ESem P k (.region id L.toArray true) Q fr s := esem_draw hm pl hp h

theorem pure_hid {P : Program} {g : FuncId} {args : List EV} {v : EV} (h : ∀ V, V = v → Pure P g args V) : Pure P g args v := h v rfl
theorem Pure.to {P : Program} {g : FuncId} {args : List EV} {v v' : EV} (h : Pure P g args v) (e : v = v') : Pure P g args v' := e ▸ h
theorem and_om {a b : Prop} (h : a) (k : b) : a ∧ b := ⟨h, k⟩

attribute [go_sem ↓] reduceIte
attribute [go_sem] wrap64E Int.reduceDiv Int.reduceMod Int.reduceTDiv Int.reduceTMod decide_true decide_false eq_self not_false_eq_true
attribute [go_sem] List.all_cons List.all_nil Bool.and_true Bool.and_self Nat.reduceAdd Nat.reduceMul Nat.reduceSub Nat.reduceEqDiff Nat.reduceLT Nat.reduceLeDiff Int.reduceToNat Int.reduceLE Int.reduceLT Int.reduceNeg Int.reduceEq Int.reduceAdd Int.reduceMul Int.reduceSub Nat.reducePow Nat.reduceDiv Nat.reduceMod ne_eq not_true_eq_false not_false_eq_true reduceCtorEq if_true if_false true_and and_true List.map List.map_cons List.map_nil List.length_cons List.length_nil List.getElem?_cons_zero List.getElem?_cons_succ List.drop List.take List.drop_zero List.drop_succ_cons List.take_succ_cons List.take_zero List.cons_append List.nil_append List.append_nil Bool.not_true Bool.not_false Bool.false_eq_true forall_const decide_eq_true_eq decide_eq_false_iff_not false_implies true_implies implies_true Nat.zero_add Nat.add_zero Nat.one_mul Nat.mul_one Int.cast_ofNat_Int Option.some.injEq forall_eq'
attribute [go_sem] loopB_ap seqN_ap eopsN_ap eops_nil eops_cons KO_ap KP_ap stepG_eq canonN_nil canonN_cons canon_nil canon_cons gs_run_t gs_run_f gs_skip_t gs_skip_f gs_step_t gs_step_f gs_pick_t gs_pick_f gs_code_t gs_code_f csel Fr.keep keepM dropL
  minI_eq maxI_eq List.set_cons_zero List.set_cons_succ eop Fr.lk Fr.put Fr.putO lkp Then InBlk okDst ev ofV ebinT ebin ebinI eun econv Final eresults eresult1 packE enumL isConst optOp opnds partsE ecall ebuiltin eminmax elen eextract efield epart eindex eLoad eStore eNew eBox eFieldAddr eIndexAddr ebuild ebuildSlice fillE fieldPlaces allTi zerosE putC EV.cells EV.known UT.agg undefE ES.get ES.set ES.new ES.nx ES.bl setL guardT KC ES.zero EV.one
  oneOp cls eopA rchks rchk1 dstI ES.keep cutL ES.add KF

end Go.E
