/-
  The layer E, part G: functions; calls in a greater state; what a call comes to in the kit's words. Own work.
-/
import Derived.Test.YtafmlhflcnlalaaEvF
namespace Go.E
set_option linter.all false

/-! Results. -/
def eresult1 (P : Program) (rv : ResultVar) (fr : Fr) (s : ES) (K : EV → Prop) : Prop :=
  match rv with
  | .tmp t => K (fr.lk t)
  | .cell t ty => match tiOf P ty with
    | some i => eLoad i (fr.lk t) s K
    | none => False
def eresults (P : Program) (fr : Fr) (s : ES) : List ResultVar → (List EV → Prop) → Prop
  | [], K => K []
  | r :: rs, K => eresult1 P r fr s fun v => eresults P fr s rs fun vs => K (v :: vs)
def packE : List EV → EV
  | [v] => v
  | vs => .tuple vs

def resSem (tmps : Array Value) : ResultVar → Sem Value
  | .tmp t => pure (tmps.getD t undef)
  | .cell a t => do loadVar t (← asAddr (tmps.getD a undef))

theorem eresults_sound {P : Program} {fr : Fr} {s : ES} {ρ : Env} {w : World} {a : Act} (hR : Rel ρ s w) (hF : FR ρ fr a) : ∀ (rs : List ResultVar) (K : List EV → Prop), eresults P fr s rs K →
    ∃ vs, K vs ∧ ∃ vs', VRs ρ vs vs' ∧ (rs.mapM (m := Sem) (resSem a.tmps)).run P w = .ok vs' w
  | [], K, h => ⟨[], h, [], VRs.nil, rfl⟩
  | r :: rs, K, h => by
    simp only [eresults] at h
    obtain ⟨v, h1, v', h2, h3⟩ : ∃ v, (eresults P fr s rs fun vs => K (v :: vs)) ∧ ∃ v', VR ρ v v' ∧ (resSem a.tmps r).run P w = .ok v' w := by
      cases r with
      | tmp t => exact ⟨_, h, _, hF.slot t, rfl⟩
      | cell t ty =>
        simp only [eresult1] at h
        split at h
        · rename_i i hi
          obtain ⟨v, a1, v', a2, a3, x, a4⟩ := eLoad_sound hi h hR (hF.slot t)
          refine ⟨v, a1, v', a2, ?_⟩
          rw [a4] at a3
          simp only [resSem, a4]
          simpa [Instr.loadAt, Instr.sureAddr, asAddr] using a3
        · exact h.elim
    obtain ⟨vs, k1, vs', k2, k3⟩ := eresults_sound hR hF rs _ h1
    refine ⟨v :: vs, k1, v' :: vs', VRs.cons h2 k2, ?_⟩
    simp only [List.mapM_cons, Sem.run_bind, h3, Result.andThen_ok, k3, Sem.run_pure]

theorem run_results {P : Program} {fn : Func} {tmps : Array Value} {w : World} {vs' : List Value} (h : (fn.results.toList.mapM (m := Sem) (resSem tmps)).run P w = .ok vs' w) :
    (results fn tmps).run P w = .ok (if h : vs'.toArray.size = 1 then vs'.toArray[0] else .tuple vs'.toArray) w := by
  have : (results fn tmps) = (do let vs ← fn.results.mapM (resSem tmps); pure (if h : vs.size = 1 then vs[0] else .tuple vs)) := by
    unfold results
    congr 1
  rw [this, Array.mapM_eq_mapM_toList]
  simp only [Sem.run_bind, Sem.run_map, h, Result.andThen_ok, Sem.run_pure]

theorem packE_rel {ρ : Env} {vs : List EV} {vs' : List Value} (h : VRs ρ vs vs') : VR ρ (packE vs) (if h : vs'.toArray.size = 1 then vs'.toArray[0] else .tuple vs'.toArray) := by
  rcases vs with _ | ⟨v, _ | ⟨u, r⟩⟩
  · rw [VRs] at h; subst h; simp [packE, VR, VRs]
  · rw [VRs] at h
    obtain ⟨v', l', rfl, h1, h2⟩ := h
    rw [VRs] at h2; subst h2
    simpa [packE] using h1
  · have hl := h.length
    rw [dif_neg (by simp [hl])]
    simp only [packE, VR]
    exact ⟨_, rfl, by simpa using h⟩

/-- What is handed back: the values, and what is still said of the state. -/
def Done (k : Nat) (Q : ER → ES → Prop) (v : ER) (s : ES) : Prop := ∃ s0 : ES, Less s0 s ∧ k ≤ s0.nx ∧ (match v with | .ret v => v.bel s0.nx | .pan v => v.bel s0.nx) ∧ Q v s0
def Final (P : Program) (rs : List ResultVar) (k : Nat) (Q : ER → ES → Prop) : X → Fr → ES → Prop
  | .normal, fr, s => eresults P fr s rs fun vs => Done k Q (.ret (packE vs)) s
  | .ret, fr, s => eresults P fr s rs fun vs => Done k Q (.ret (packE vs)) s
  | .pan v, _, s => Done k Q (.pan v) s
  | .exit _, _, _ => False
  | .goto _, _, _ => False

def enumL : Nat → List EV → List (Nat × EV)
  | _, [] => []
  | i, v :: vs => (i, v) :: enumL (i + 1) vs
theorem enumL_lkp : ∀ (l : List EV) (i t : Nat), lkp (enumL i l) t = if i ≤ t then l[t - i]? else none
  | [], i, t => by simp [enumL, lkp]
  | v :: l, i, t => by
    simp only [enumL, lkp, enumL_lkp l (i + 1) t]
    by_cases h : i = t
    · subst h; simp
    · rw [if_neg h]
      by_cases h2 : i + 1 ≤ t
      · rw [if_pos h2, if_pos (by omega), show t - i = (t - (i + 1)) + 1 by omega]; simp
      · rw [if_neg h2, if_neg (by omega)]

theorem FR.enter {ρ : Env} {args : List EV} {args' : Array Value} (h : VRs ρ args args'.toList) (n : Nat) (hn : args.length ≤ n) : FR ρ ⟨enumL 0 args, undefE, n⟩ { tmps := args' ++ Array.replicate (n - args'.size) undef, defers := [] } := by
  have hl : args'.size = args.length := by have := h.length; simpa using this
  refine ⟨rfl, by simp; omega, fun t => ?_⟩
  simp only [Fr.lk, enumL_lkp, Nat.zero_le, if_true, Nat.sub_zero]
  rw [Array.getD_eq_getD_getElem?]
  cases hv : args[t]? with
  | none =>
    have : args.length ≤ t := by
      rcases Nat.lt_or_ge t args.length with h1 | h1
      · simp [h1] at hv
      · exact h1
    rw [Array.getElem?_append_right (by omega)]
    have : ((Array.replicate (n - args'.size) undef)[t - args'.size]?).getD undef = undef := by
      simp only [Array.getElem?_replicate]; split <;> rfl
    rw [this]; exact VR.undef
  | some v =>
    obtain ⟨v', h1, h2⟩ := h.get t v hv
    have hlt : t < args'.size := by
      have := (List.getElem?_eq_some_iff.1 hv).1; omega
    rw [Array.getElem?_append_left hlt]
    have : args'[t]? = some v' := by simpa using h1
    rw [this]; exact h2

/-- A function with a body. -/
theorem ecalls_of {P : Program} {g : FuncId} {fn : Func} {c : Code} {args : List EV} {s : ES} {Q : ER → ES → Prop} (hf : P.funcs[g]? = some fn) (hb : fn.body = some c) (hname : (fn.name == "runtime.NumGoroutine") = false) (hn : args.length ≤ fn.ntmps)
    (h : ecode P s.nx c (Final P fn.results.toList s.nx Q) ⟨enumL 0 args, undefE, fn.ntmps⟩ s) : ECalls P g args s Q := by
  intro ρ w args' hR hA
  have hcall : (callFunc g args').run P w = .ok (.enter g args') w := by
    simp only [callFunc, Sem.run_bind, program, Sem.run, Result.andThen_ok, hf, hname, Bool.false_eq_true, if_false, hb, Option.isNone_some]
    rfl
  rw [hcall]
  refine callsIn_of_wp (F := wideR none) hf hb trivial ?_ rfl
  refine wpIn_mono (ecode_sound c _ _ s h (Nat.le_refl _) none ρ w _ hR (FR.enter hA fn.ntmps hn)) ?_
  rintro e a w' ⟨x, fr', s', ρ', hx, hF, hG, hQ⟩
  have hdone : ∀ v' (vs : EV), VR ρ' vs v' → Done s.nx Q (.ret vs) s' → EPost ρ s w Q (.returned v') w' := by
    rintro v' vs hv ⟨s0, hl, hk, hb, hq⟩
    exact ⟨.ret vs, s0, _, ⟨v', rfl, hv.cut _ _ hb⟩, (hG.less s0 hl hk).to1 hR, hq⟩
  have hres : (eresults P fr' s' fn.results.toList fun vs => Done s.nx Q (.ret (packE vs)) s') → a.defers = [] ∧ ∃ v, (results fn a.tmps).run P w' = .ok v w' ∧ EPost ρ s w Q (.returned v) w' := by
    intro hr
    obtain ⟨vs, k1, vs', k2, k3⟩ := eresults_sound hG.rel hF _ _ hr
    exact ⟨hF.defers, _, run_results k3, hdone _ _ (packE_rel k2) k1⟩
  cases x with
  | normal => cases hx; exact hres hQ
  | ret => cases hx; exact hres hQ
  | exit i => exact hQ.elim
  | goto i => exact hQ.elim
  | pan v =>
    obtain ⟨v', rfl, hv⟩ := hx
    obtain ⟨s0, hl, hk, hb, hq⟩ := hQ
    exact ⟨hF.defers, .pan v, s0, _, ⟨v', rfl, hv.cut _ _ hb⟩, (hG.less s0 hl hk).to1 hR, hq⟩

end Go.E
