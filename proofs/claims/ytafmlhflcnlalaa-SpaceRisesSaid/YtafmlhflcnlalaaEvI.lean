/-
  The layer E, part I: calls that touch no memory; the way back to the kit's words; arithmetic. Own work.
-/
import Derived.Test.YtafmlhflcnlalaaEvH
import Derived.IntWalk
import Derived.Below
namespace Go.E
set_option linter.all false

mutual
theorem EV.ren_bel {π : Nat → Nat} : ∀ (v : EV), v.bel 0 → v.ren π = v
  | .unk, _ => by simp [EV.ren]
  | .bool _, _ => by simp [EV.ren]
  | .int _ _, _ => by simp [EV.ren]
  | .str _, _ => by simp [EV.ren]
  | .ptr none, _ => by simp [EV.ren]
  | .ptr (some a), h => by simp [EV.bel] at h
  | .slice none _ _, _ => by simp [EV.ren]
  | .slice (some a) _ _, h => by simp [EV.bel] at h
  | .map none, _ => by simp [EV.ren]
  | .map (some _), h => by simp [EV.bel] at h
  | .fn _ as bs, h => by
    simp only [EV.bel] at h
    simp [EV.ren, renL_bel as h.1, renL_bel bs h.2]
  | .nilFn, _ => by simp [EV.ren]
  | .iface _ y, h => by
    simp only [EV.bel] at h
    simp [EV.ren, EV.ren_bel y h]
  | .nilIface, _ => by simp [EV.ren]
  | .agg cs, h => by
    simp only [EV.bel] at h
    simp [EV.ren, renL_bel cs h]
  | .tuple cs, h => by
    simp only [EV.bel] at h
    simp [EV.ren, renL_bel cs h]
theorem renL_bel {π : Nat → Nat} : ∀ (v : List EV), allBelow 0 v → renL π v = v
  | [], _ => by simp [renL]
  | v :: vs, h => by
    simp only [allBelow] at h
    simp [renL, EV.ren_bel v h.1, renL_bel vs h.2]
end

def ES.zero : ES := ⟨[], 0⟩
/-- A call that reads and writes nothing. -/
def Pure (P : Program) (g : FuncId) (args : List EV) (v : EV) : Prop := ECalls P g args ES.zero fun x s => x = .ret v ∧ s = ES.zero
theorem Pure.at {P : Program} {g : FuncId} {args : List EV} {v : EV} (h : Pure P g args v) (ha : allBelow 0 args) (hv : v.bel 0) {S : ES} {K Kp : EV → ES → Prop} (hK : K v S) : ECalls P g args S (KC K Kp) := by
  refine ECalls.frame h (fun i => S.nx + i) (renL_bel args ha).symm ha (fun i j h => by simp [ES.zero] at h) (fun i h => by simp [ES.zero] at h) (fun i => by simp [ES.zero]) trivial (fun i o h => by simp [ES.zero, ES.get] at h) ?_
  rintro x s' ⟨rfl, rfl⟩
  refine ⟨S, ⟨Nat.le_refl _, by simp [ES.zero], fun j O hj => .inr ⟨hj, fun i o h => by simp [ES.zero, ES.get] at h⟩⟩, ?_⟩
  simp only [ER.ren, EV.ren_bel v hv]; exact hK

/-- What a call comes to in the kit's words. -/
theorem ECalls.toCalls {P : Program} {g : FuncId} {fn : Func} {c : Code} {args : List EV} {args' : Array Value} {Q : ER → ES → Prop} (h : ECalls P g args ES.zero Q) (hf : P.funcs[g]? = some fn) (hb : fn.body = some c) (hname : (fn.name == "runtime.NumGoroutine") = false)
    (hA : VRs (fun _ => none) args args'.toList) (w : World) : Calls P g args' w fun e w' => ∃ x s' ρ', RetR ρ' x e ∧ RowKit.Below w.heap.size w w' ∧ Q x s' := by
  have hR : Rel (fun _ => none) ES.zero w := ⟨fun b o l hg => by simp [ES.zero, ES.get] at hg, fun _ _ => rfl, fun b b' o o' l l' hg => by simp [ES.zero, ES.get] at hg⟩
  have hc := h _ w args' hR hA
  have hcall : (callFunc g args').run P w = .ok (.enter g args') w := by
    simp only [callFunc, Sem.run_bind, program, Sem.run, Result.andThen_ok, hf, hname, Bool.false_eq_true, if_false, hb, Option.isNone_some]
    rfl
  rw [hcall] at hc
  refine (callsIn_wide (n := 0)).1 (CallsIn.mono hc ?_)
  rintro e w' ⟨x, s', ρ', h1, h2, h3⟩
  refine ⟨x, s', ρ', h1, ⟨h2.step.os, h2.step.tape, h2.step.output, h2.step.size, fun k hk => h2.step.block k hk ?_⟩, h3⟩
  rintro ⟨b, o, l, hg, _⟩
  simp [ES.zero, ES.get] at hg

/-! Arithmetic. -/
theorem wrap64E {x : Int} (h1 : -9223372036854775808 ≤ x) (h2 : x ≤ 9223372036854775807) : IntKind.i64.wrap x = x := by
  rw [IntKind.wrap_i64]; omega
theorem tdivE {a b : Int} (h : 0 ≤ a) : a.tdiv b = a / b := Int.tdiv_eq_ediv_of_nonneg h
theorem tmodE {a b : Int} (h : 0 ≤ a) : a.tmod b = a % b := Int.tmod_eq_emod_of_nonneg h

end Go.E
