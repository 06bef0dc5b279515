/-
  The layer E, part Q: code piece by piece. Own work.
-/
import Derived.Test.YtafmlhflcnlalaaEvP
import Derived.Test.YtafmlhflcnlalaaEvI
namespace Go.E
set_option linter.all false

theorem esem_seq {P : Program} {k : Nat} {x y : Code} {Q : X → Fr → ES → Prop} {fr : Fr} {s : ES} (h : ecode P k x (Then (ESem P k y Q) Q) fr s) : ESem P k (.seq x y) Q fr s := by
  intro hk r ρ w a hR hF
  refine wpIn_seq (wpIn_mono (ecode_sound x _ fr s h hk r ρ w a hR hF) ?_)
  rintro e a' w' ⟨ex, fr', s', ρ', hx, hF', hG, hQ⟩
  cases ex with
  | normal =>
    cases hx
    exact wpIn_mono (hQ hG.nx r ρ' w' a' hG.rel hF') fun e a w h => CPost.trans hG h
  | exit i => cases hx; exact ⟨.exit i, fr', s', ρ', rfl, hF', hG, hQ⟩
  | goto i => cases hx; exact ⟨.goto i, fr', s', ρ', rfl, hF', hG, hQ⟩
  | ret => cases hx; exact ⟨.ret, fr', s', ρ', rfl, hF', hG, hQ⟩
  | pan v => obtain ⟨v', rfl, hv⟩ := hx; exact ⟨.pan v, fr', s', ρ', ⟨v', rfl, hv⟩, hF', hG, hQ⟩

/-! The frame and the state said anew, as lists. -/
def lessL (s : ES) : List (Nat × EO) → Prop
  | [] => True
  | (b, o) :: r => s.get b = some o ∧ lessL s r
theorem lessL_lkp {s : ES} : ∀ {l : List (Nat × EO)}, lessL s l → ∀ {b o}, lkp l b = some o → s.get b = some o
  | [], _, b, o, h => by simp [lkp] at h
  | (c, x) :: l, ha, b, o, h => by
    simp only [lkp] at h
    split at h
    · rename_i hc; subst hc; cases h; exact ha.1
    · exact lessL_lkp ha.2 h
theorem less_of {s : ES} {l : List (Nat × EO)} {n : Nat} (h : lessL s l) (hb : blBelow n l) : Less ⟨l, n⟩ s := ⟨fun _ _ hg => lessL_lkp h (ES.get_lt hg).2, hb⟩
def weakL (fr : Fr) : List (Nat × EV) → Prop
  | [] => True
  | (t, v) :: r => fr.lk t = v ∧ weakL fr r
theorem weakL_lkp {fr : Fr} : ∀ {l : List (Nat × EV)}, weakL fr l → ∀ {t v}, lkp l t = some v → fr.lk t = v
  | [], _, t, v, h => by simp [lkp] at h
  | (c, x) :: l, ha, t, v, h => by
    simp only [lkp] at h
    split at h
    · rename_i hc; subst hc; cases h; exact ha.1
    · exact weakL_lkp ha.2 h
theorem esem_trim {P : Program} {k : Nat} {c : Code} {Q : X → Fr → ES → Prop} {fr : Fr} {s : ES} (m : List (Nat × EV)) (l : List (Nat × EO)) (n : Nat) (hm : weakL fr m) (hmb : frBel n m) (hl : lessL s l) (hlb : blBelow n l) (hk : k ≤ n)
    (h : ESem P k c Q ⟨m, .unk, fr.n⟩ ⟨l, n⟩) : ESem P k c Q fr s := esem_anew h ⟨rfl, rfl, fun _ _ e => weakL_lkp hm e⟩ hmb (less_of hl hlb) hk
def Trim (k : Nat) (I : Fr → ES → Prop) (fr : Fr) (s : ES) : Prop := ∃ m l n, weakL fr m ∧ frBel n m ∧ lessL s l ∧ blBelow n l ∧ k ≤ n ∧ I ⟨m, .unk, fr.n⟩ ⟨l, n⟩
/-- A loop by what holds at the head of every round, said anew each time. -/
theorem esem_loopT {P : Program} {k : Nat} {c : Code} {Q : X → Fr → ES → Prop} {fr : Fr} {s : ES} (I : Nat → Fr → ES → Prop) (n : Nat) (h0 : I n fr s)
    (round : ∀ n fr s, I n fr s → ESem P k c (Then (fun fr' s' => ∃ m, m < n ∧ Trim k (I m) fr' s') Q) fr s) : ESem P k (.loop c) Q fr s := by
  intro hk r ρ w a hR hF
  let p : Act → World → Nat → Prop := fun a' w' n => ∃ fr' s' ρ', I n fr' s' ∧ FR ρ' fr' a' ∧ GoK k ρ s w ρ' s' w'
  refine wpIn_loop (fun a' w' => ∃ n, p a' w' n) (fun a' w' => leastOf (p a' w')) ⟨n, fr, s, ρ, h0, hF, GoK.refl hR hk⟩ ?_
  rintro a' w' ⟨j, hj⟩
  obtain ⟨fr', s', ρ', hI, hF', hG⟩ := (leastOf_spec hj).1
  refine wpIn_mono (round _ fr' s' hI hG.nx r ρ' w' a' hG.rel hF') ?_
  rintro e a2 w2 ⟨ex, fr2, s2, ρ2, hx, hF2, hG2, hQ⟩
  cases ex with
  | normal =>
    cases hx
    obtain ⟨m, hm, mm, l, nn, t1, t2, t3, t4, t5, hI2⟩ := hQ
    have hw : Fr.weak ⟨mm, .unk, fr2.n⟩ fr2 := ⟨rfl, rfl, fun _ _ e => weakL_lkp t1 e⟩
    have hp : p a2 w2 m := ⟨_, _, _, hI2, (hF2.weak hw).cut t2 (.inl rfl), (hG.trans hG2).less _ (less_of t3 t4) t5⟩
    exact ⟨⟨m, hp⟩, Nat.lt_of_le_of_lt (leastOf_spec hp).2 hm⟩
  | exit i => cases hx; exact ⟨.exit i, fr2, s2, ρ2, rfl, hF2, hG.trans hG2, hQ⟩
  | goto i => cases hx; exact ⟨.goto i, fr2, s2, ρ2, rfl, hF2, hG.trans hG2, hQ⟩
  | ret => cases hx; exact ⟨.ret, fr2, s2, ρ2, rfl, hF2, hG.trans hG2, hQ⟩
  | pan v => obtain ⟨v', rfl, hv⟩ := hx; exact ⟨.pan v, fr2, s2, ρ2, ⟨v', rfl, hv⟩, hF2, hG.trans hG2, hQ⟩
theorem minI_eq (a b : Int) : minI a b = min a b := by unfold minI; split <;> omega
theorem maxI_eq (a b : Int) : maxI a b = max a b := by unfold maxI; split <;> omega

/-- Pieces of a code. -/
def hdC : Code → Code
  | .seq x _ => x
  | c => c
def tlC : Code → Code
  | .seq _ y => y
  | c => c
def tlsC : Nat → Code → Code
  | 0, c => c
  | n + 1, c => tlsC n (tlC c)
def bodyC (f : Func) : Code := f.body.getD .skip

/-- A function with a body, piece by piece. -/
theorem ecalls_esem {P : Program} {g : FuncId} {fn : Func} {c : Code} {args : List EV} {s : ES} {Q : ER → ES → Prop} (hf : P.funcs[g]? = some fn) (hb : fn.body = some c) (hname : (fn.name == "runtime.NumGoroutine") = false) (hn : args.length ≤ fn.ntmps)
    (h : ESem P s.nx c (Final P fn.results.toList s.nx Q) ⟨enumL 0 args, undefE, fn.ntmps⟩ s) : ECalls P g args s Q := by
  intro ρ w args' hR hA
  have hcall : (callFunc g args').run P w = .ok (.enter g args') w := by
    simp only [callFunc, Sem.run_bind, program, Sem.run, Result.andThen_ok, hf, hname, Bool.false_eq_true, if_false, hb, Option.isNone_some]
    rfl
  rw [hcall]
  refine callsIn_of_wp (F := wideR none) hf hb trivial ?_ rfl
  refine wpIn_mono (h (Nat.le_refl _) none ρ w _ hR (FR.enter hA fn.ntmps hn)) ?_
  rintro e a w' ⟨x, fr', s', ρ', hx, hF, hG, hQ⟩
  have hdone : ∀ v' (vs : EV), VR ρ' vs v' → Done s.nx Q (.ret vs) s' → EPost ρ s w Q (.returned v') w' := by
    rintro v' vs hv ⟨s0, hl, hk, hb, hq⟩
    exact ⟨.ret vs, s0, _, ⟨v', rfl, hv.cut _ _ hb⟩, (hG.less s0 hl hk).to1 hR, hq⟩
  have hres : (eresults P fr' s' fn.results.toList fun vs => Done s.nx Q (.ret (packE vs)) s') → a.defers = [] ∧ ∃ v, (results fn a.tmps).run P w' = .ok v w' ∧ EPost ρ s w Q (.returned v) w' := by
    intro hr
    obtain ⟨vs, k1, vs', k2, k3⟩ := eresults_sound hG.rel hF _ _ hr
    exact ⟨hF.defers, _, run_results k3, hdone _ _ (packE_rel k2) k1⟩
  cases x with
  | normal => cases hx; exact hres hQ
  | ret => cases hx; exact hres hQ
  | exit i => exact hQ.elim
  | goto i => exact hQ.elim
  | pan v =>
    obtain ⟨v', rfl, hv⟩ := hx
    obtain ⟨s0, hl, hk, hb, hq⟩ := hQ
    exact ⟨hF.defers, .pan v, s0, _, ⟨v', rfl, hv.cut _ _ hb⟩, (hG.less s0 hl hk).to1 hR, hq⟩

end Go.E
