/-
  The layer E, part A: symbolic values, states and frames; how they stand to the model's values and worlds. Own work.
-/
import Derived.WalkKit
import Derived.CallsIn
import Derived.TacticsIn
import Derived.OrdersIn
import Derived.RangeFuncLeaves
namespace Go.E
set_option linter.all false

/-- An address: a block by its own small number, a place in it. -/
structure EA where
  b : Nat
  o : Nat
  deriving DecidableEq

/-- A value. 'unk': nothing is known of it. -/
inductive EV where
  | unk
  | bool (b : Bool)
  | int (k : IntKind) (n : Int)
  | str (s : List UInt8)
  | ptr (a : Option EA)
  | slice (a : Option EA) (len cap : Nat)
  | map (r : Option Nat)
  | fn (f : Fn) (first captured : List EV)
  | nilFn
  | iface (t : TypeId) (v : EV)
  | nilIface
  | agg (cs : List EV)
  | tuple (vs : List EV)

def EV.cells : EV → List EV
  | .agg cs => cs
  | v => [v]
/-- A value of one cell. -/
def EV.one : EV → Bool
  | .unk | .agg _ | .tuple _ => false
  | _ => true
def EV.known : EV → Bool
  | .unk | .tuple _ => false
  | .agg cs => cs.all EV.one
  | _ => true
def undefE : EV := .tuple []

/-- Where a block lies: its real number, the shift, how many cells are known, how many there are, the element's size if there may be more room than is known (0: there is not). -/
structure Loc where
  r : Nat
  d : Nat
  n : Nat
  e : Nat
  z : Nat
abbrev Env := Nat → Option Loc
def Env.le (ρ ρ' : Env) : Prop := ∀ b l, ρ b = some l → ρ' b = some l
theorem Env.le_refl (ρ : Env) : ρ.le ρ := fun _ _ h => h
theorem Env.le_trans {ρ σ τ : Env} (h : ρ.le σ) (k : σ.le τ) : ρ.le τ := fun b l x => k b l (h b l x)

def CapOK (l : Loc) (o c c' : Nat) : Prop := c' = c ∨ (l.z ≠ 0 ∧ o + c * l.z = l.n ∧ c ≤ c' ∧ o + c' * l.z ≤ l.e)

mutual
def VR (ρ : Env) : EV → Value → Prop
  | .unk, _ => True
  | .bool b, v => v = .bool b
  | .int k n, v => v = .int k n
  | .str s, v => v = .string ⟨s.toArray⟩
  | .ptr none, v => v = .pointer none
  | .ptr (some a), v => ∃ l, ρ a.b = some l ∧ v = .pointer (some ⟨l.r, a.o + l.d, none⟩)
  | .slice none n c, v => n = 0 ∧ c = 0 ∧ v = .slice none 0 0
  | .slice (some a) n c, v => ∃ l c' o', ρ a.b = some l ∧ CapOK l a.o c c' ∧ n ≤ c ∧ (o' = a.o + l.d ∨ c' = 0) ∧ v = .slice (some ⟨l.r, o', none⟩) n c'
  | .map none, v => v = .map none
  | .map (some r), v => ∃ l, ρ r = some l ∧ v = .map (some l.r)
  | .fn f as bs, v => ∃ as' bs', v = .func f as' bs' ∧ VRs ρ as as'.toList ∧ VRs ρ bs bs'.toList
  | .nilFn, v => v = .nilFunc
  | .iface t x, v => ∃ y, v = .iface t y ∧ VR ρ x y
  | .nilIface, v => v = .nilIface
  | .agg cs, v => ∃ cs', v = .agg cs' ∧ VRs ρ cs cs'.toList
  | .tuple cs, v => ∃ cs', v = .tuple cs' ∧ VRs ρ cs cs'.toList
def VRs (ρ : Env) : List EV → List Value → Prop
  | [], l => l = []
  | v :: vs, l => ∃ v' l', l = v' :: l' ∧ VR ρ v v' ∧ VRs ρ vs l'
end

mutual
theorem VR.mono {ρ ρ' : Env} (h : ρ.le ρ') : ∀ (v : EV) (v' : Value), VR ρ v v' → VR ρ' v v'
  | .unk, _, _ => trivial
  | .bool _, _, x => x
  | .int _ _, _, x => x
  | .str _, _, x => x
  | .ptr none, _, x => x
  | .ptr (some _), _, x => let ⟨l, a, b⟩ := x; ⟨l, h _ _ a, b⟩
  | .slice none _ _, _, x => x
  | .slice (some _) _ _, _, x => let ⟨l, c', o', a, b⟩ := x; ⟨l, c', o', h _ _ a, b⟩
  | .map none, _, x => x
  | .map (some _), _, x => let ⟨l, a, b⟩ := x; ⟨l, h _ _ a, b⟩
  | .fn _ as bs, _, x => let ⟨as', bs', a, b, c⟩ := x; ⟨as', bs', a, VRs.mono h as _ b, VRs.mono h bs _ c⟩
  | .nilFn, _, x => x
  | .iface _ y, _, x => let ⟨z, a, b⟩ := x; ⟨z, a, VR.mono h y z b⟩
  | .nilIface, _, x => x
  | .agg cs, _, x => let ⟨cs', a, b⟩ := x; ⟨cs', a, VRs.mono h cs _ b⟩
  | .tuple cs, _, x => let ⟨cs', a, b⟩ := x; ⟨cs', a, VRs.mono h cs _ b⟩
theorem VRs.mono {ρ ρ' : Env} (h : ρ.le ρ') : ∀ (v : List EV) (v' : List Value), VRs ρ v v' → VRs ρ' v v'
  | [], _, x => x
  | v :: vs, _, x => let ⟨v', l', a, b, c⟩ := x; ⟨v', l', a, VR.mono h v v' b, VRs.mono h vs l' c⟩
end

theorem VRs.length {ρ : Env} : ∀ {vs : List EV} {vs' : List Value}, VRs ρ vs vs' → vs'.length = vs.length
  | [], _, h => by rw [VRs] at h; subst h; rfl
  | _ :: _, _, h => by rw [VRs] at h; obtain ⟨v', l', rfl, _, b⟩ := h; simp [VRs.length b]
theorem VRs.nil {ρ : Env} : VRs ρ [] [] := by simp [VRs]
theorem VRs.cons {ρ : Env} {v : EV} {v' : Value} {vs : List EV} {vs' : List Value} (h : VR ρ v v') (t : VRs ρ vs vs') : VRs ρ (v :: vs) (v' :: vs') := by
  rw [VRs]; exact ⟨_, _, rfl, h, t⟩
theorem VRs.get {ρ : Env} : ∀ {vs : List EV} {vs' : List Value} (_ : VRs ρ vs vs') (i : Nat) (v : EV), vs[i]? = some v → ∃ v', vs'[i]? = some v' ∧ VR ρ v v'
  | [], _, _, i, v, hi => by simp at hi
  | _ :: _, _, h, i, v, hi => by
    rw [VRs] at h; obtain ⟨v', l', rfl, a, b⟩ := h
    cases i with
    | zero => simp at hi; subst hi; exact ⟨v', by simp, a⟩
    | succ i => simp at hi ⊢; exact VRs.get b i v hi
theorem VRs.of_get {ρ : Env} : ∀ {vs : List EV} {vs' : List Value}, vs'.length = vs.length → (∀ (i : Nat) (v : EV), vs[i]? = some v → ∃ v', vs'[i]? = some v' ∧ VR ρ v v') → VRs ρ vs vs'
  | [], vs', hl, _ => by simp at hl; subst hl; exact VRs.nil
  | v :: vs, vs', hl, h => by
    cases vs' with
    | nil => simp at hl
    | cons v' l' =>
      obtain ⟨x, hx, hr⟩ := h 0 v (by simp)
      simp at hx; subst hx
      exact VRs.cons hr (VRs.of_get (by simpa using hl) fun i w hw => by
        obtain ⟨y, hy, hr⟩ := h (i + 1) w (by simpa using hw)
        exact ⟨y, by simpa using hy, hr⟩)
theorem VRs.append {ρ : Env} : ∀ {vs : List EV} {vs' : List Value} {us : List EV} {us' : List Value}, VRs ρ vs vs' → VRs ρ us us' → VRs ρ (vs ++ us) (vs' ++ us')
  | [], _, _, _, h, k => by rw [VRs] at h; subst h; simpa using k
  | _ :: _, _, _, _, h, k => by
    rw [VRs] at h; obtain ⟨v', l', rfl, a, b⟩ := h
    simpa using VRs.cons a (VRs.append b k)
theorem VRs.take {ρ : Env} {vs : List EV} {vs' : List Value} (h : VRs ρ vs vs') (n : Nat) : VRs ρ (vs.take n) (vs'.take n) := by
  refine VRs.of_get (by simp [h.length]) fun i v hi => ?_
  simp only [List.getElem?_take] at hi ⊢
  by_cases hn : i < n
  · simp only [hn, if_true] at hi ⊢; exact h.get i v hi
  · simp [hn] at hi
theorem VRs.drop {ρ : Env} {vs : List EV} {vs' : List Value} (h : VRs ρ vs vs') (n : Nat) : VRs ρ (vs.drop n) (vs'.drop n) := by
  refine VRs.of_get (by simp [h.length]) fun i v hi => ?_
  simp only [List.getElem?_drop] at hi ⊢
  exact h.get _ v hi

theorem VR.one {ρ : Env} {v : EV} {v' : Value} (h : VR ρ v v') (ho : v.one = true) : v'.oneCell' = true := by
  cases v <;> simp [EV.one] at ho <;> try (rw [VR] at h; subst h; rfl)
  case ptr a => cases a <;> rw [VR] at h; (subst h; rfl); (obtain ⟨l, _, rfl⟩ := h; rfl)
  case slice a n c => cases a <;> rw [VR] at h; (obtain ⟨_, _, rfl⟩ := h; rfl); (obtain ⟨l, c', o', _, _, _, _, rfl⟩ := h; rfl)
  case map r => cases r <;> rw [VR] at h; (subst h; rfl); (obtain ⟨l, _, rfl⟩ := h; rfl)
  case fn => rw [VR] at h; obtain ⟨_, _, rfl, _⟩ := h; rfl
  case iface => rw [VR] at h; obtain ⟨_, rfl, _⟩ := h; rfl

theorem VR.cells_of_one {ρ : Env} {v : EV} {v' : Value} (h : VR ρ v v') (ho : v.one = true) : v'.cells = #[v'] := by
  have h1 := h.one ho
  cases v' <;> simp [Value.oneCell'] at h1 <;> rfl

theorem VR.cells {ρ : Env} {v : EV} {v' : Value} (h : VR ρ v v') (hk : v.known = true) : VRs ρ v.cells v'.cells.toList ∧ ∀ x ∈ v'.cells.toList, x.oneCell' = true := by
  by_cases ho : v.one = true
  · have hc := h.cells_of_one ho
    have hv : v.cells = [v] := by cases v <;> simp [EV.one] at ho <;> rfl
    rw [hc, hv]
    exact ⟨VRs.cons h VRs.nil, by simp [h.one ho]⟩
  · cases v <;> simp [EV.one, EV.known] at ho hk
    case agg cs =>
      rw [VR] at h
      obtain ⟨cs', rfl, hr⟩ := h
      refine ⟨hr, fun x hx => ?_⟩
      obtain ⟨i, hi⟩ := List.getElem?_of_mem hx
      have hlt : i < cs.length := by
        have := (List.getElem?_eq_some_iff.1 hi).1
        have hl := hr.length
        simp only [Value.cells] at *
        omega
      obtain ⟨y, hy, hxy⟩ := hr.get i cs[i] (by simp [hlt])
      rw [Value.cells] at hi
      rw [hi] at hy
      obtain rfl := Option.some.inj hy
      exact hxy.one (hk _ (List.getElem_mem hlt))

/-! States. -/
inductive EO where
  | cells (c : List EV) (t : TypeId) (z : Nat) (wr : Bool) (fz : Nat)
  | map (es : List (EV × EV))
  | sIter (s : List UInt8) (pos : Nat)

def EO.wr : EO → Bool
  | .cells _ _ _ wr _ => wr
  | _ => true

def lkp {α : Type} : List (Nat × α) → Nat → Option α
  | [], _ => none
  | (k, v) :: r, n => if k = n then some v else lkp r n
def setL {α : Type} : List (Nat × α) → Nat → α → List (Nat × α)
  | [], _, _ => []
  | (k, v) :: r, n, x => if k = n then (k, x) :: r else (k, v) :: setL r n x
def dropL {α : Type} : List (Nat × α) → Nat → List (Nat × α)
  | [], _ => []
  | (k, v) :: r, n => if k = n then dropL r n else (k, v) :: dropL r n

structure ES where
  bl : List (Nat × EO)
  nx : Nat
def ES.get (s : ES) (b : Nat) : Option EO := if b < s.nx then lkp s.bl b else none
def ES.set (s : ES) (b : Nat) (o : EO) : ES := ⟨setL s.bl b o, s.nx⟩
def ES.new (s : ES) (o : EO) : ES := ⟨(s.nx, o) :: s.bl, s.nx + 1⟩
def ES.kill (s : ES) (b : Nat) : ES := ⟨dropL s.bl b, s.nx⟩

theorem lkp_setL {α : Type} (l : List (Nat × α)) (n : Nat) (x : α) (m : Nat) : lkp (setL l n x) m = if n = m then (lkp l n).map (fun _ => x) else lkp l m := by
  induction l with
  | nil => simp [lkp, setL]
  | cons kv r ih =>
    obtain ⟨k, v⟩ := kv
    simp only [setL, lkp]
    by_cases h : k = n
    · subst h
      by_cases h2 : k = m
      · simp [lkp, h2]
      · simp [lkp, h2]
    · simp only [h, if_false, lkp, ih]
      by_cases h2 : k = m
      · subst h2; simp [show ¬ n = k from fun e => h e.symm]
      · simp [h2]
theorem lkp_dropL {α : Type} (l : List (Nat × α)) (n m : Nat) : lkp (dropL l n) m = if n = m then none else lkp l m := by
  induction l with
  | nil => simp [lkp, dropL]
  | cons kv r ih =>
    obtain ⟨k, v⟩ := kv
    simp only [dropL, lkp]
    by_cases h : k = n
    · subst h
      simp only [if_true, ih]
      by_cases h2 : k = m <;> simp [h2]
    · simp only [h, if_false, lkp, ih]
      by_cases h2 : k = m
      · subst h2; simp [show ¬ n = k from fun e => h e.symm]
      · simp [h2]
theorem ES.get_set (s : ES) (b : Nat) (o : EO) (c : Nat) : (s.set b o).get c = if b = c then (s.get b).map (fun _ => o) else s.get c := by
  simp only [ES.get, ES.set, lkp_setL]
  by_cases h : b = c
  · subst h; simp only [if_true]; split <;> rfl
  · simp only [h, if_false]
theorem ES.get_new (s : ES) (o : EO) (c : Nat) : (s.new o).get c = if s.nx = c then some o else s.get c := by
  simp only [ES.get, ES.new, lkp]
  by_cases h : s.nx = c
  · subst h; simp
  · simp only [h, if_false]
    by_cases h2 : c < s.nx
    · rw [if_pos (by omega), if_pos h2]
    · rw [if_neg (by omega), if_neg h2]
theorem ES.get_kill (s : ES) (b c : Nat) : (s.kill b).get c = if b = c then none else s.get c := by
  simp only [ES.get, ES.kill, lkp_dropL]
  by_cases h : b = c
  · subst h; simp
  · simp only [h, if_false]
theorem ES.get_lt {s : ES} {b : Nat} {o : EO} (h : s.get b = some o) : b < s.nx ∧ lkp s.bl b = some o := by
  unfold ES.get at h
  split at h
  · exact ⟨by assumption, h⟩
  · cases h

/-- A real cell may be written. -/
def free (fr : Nat × Nat) (i : Nat) : Prop := ¬ (fr.1 ≤ i ∧ i < fr.2)

def BR (ρ : Env) (w : World) (l : Loc) : EO → Prop
  | .cells c t z wr fz => l.n = c.length ∧ l.z = z ∧ (z = 0 → l.e = l.n) ∧ l.n ≤ l.e ∧ ∃ cs fr, w.heap[l.r]? = some (.cells cs t fr) ∧ l.d + l.e ≤ cs.size ∧
      (∀ (i : Nat) (v : EV), c[i]? = some v → ∃ v', cs[l.d + i]? = some v' ∧ VR ρ v v') ∧ (wr = true → ∀ i, fz ≤ i → i < l.e → free fr (l.d + i))
  | .map es => ∃ (es' : Array MapEntry) (clock : Nat), w.heap[l.r]? = some (.map es' clock) ∧ es'.size = es.length ∧ ∀ (i : Nat) (k v : EV), es[i]? = some (k, v) → ∃ e, es'[i]? = some e ∧ VR ρ k e.key ∧ VR ρ v e.val
  | .sIter s pos => w.heap[l.r]? = some (.stringIter ⟨s.toArray⟩ pos)

structure Rel (ρ : Env) (s : ES) (w : World) : Prop where
  live : ∀ b o l, s.get b = some o → ρ b = some l → BR ρ w l o
  fresh : ∀ i, s.nx ≤ i → ρ i = none
  sep : ∀ b b' o o' l l', s.get b = some o → s.get b' = some o' → ρ b = some l → ρ b' = some l' → b ≠ b' → o.wr = true → l.r ≠ l'.r

def Owned (ρ : Env) (s : ES) (r : Nat) : Prop := ∃ b o l, s.get b = some o ∧ ρ b = some l ∧ o.wr = true ∧ l.r = r

structure StepW (own : Nat → Prop) (w w' : World) : Prop where
  os : w'.os = w.os
  tape : w'.tape = w.tape
  output : w'.output = w.output
  size : w.heap.size ≤ w'.heap.size
  block : ∀ r, r < w.heap.size → ¬ own r → w'.heap[r]? = w.heap[r]?

structure Go1 (ρ : Env) (s : ES) (w : World) (ρ' : Env) (s' : ES) (w' : World) : Prop where
  rel : Rel ρ' s' w'
  old : ∀ i, i < s.nx → ρ' i = ρ i
  nx : s.nx ≤ s'.nx
  was : Rel ρ s w
  gone : ∀ b, b < s.nx → s.get b = none → s'.get b = none
  step : StepW (Owned ρ s) w w'
  src : ∀ b o l, s'.get b = some o → ρ' b = some l → (∃ b0 o0 l0, s.get b0 = some o0 ∧ ρ b0 = some l0 ∧ l0.r = l.r ∧ (o.wr = true → o0.wr = true)) ∨ w.heap.size ≤ l.r

theorem Go1.le {ρ ρ1 : Env} {s s1 : ES} {w w1 : World} (h : Go1 ρ s w ρ1 s1 w1) : ρ.le ρ1 := fun b l hb => by
  rw [h.old b (by
    rcases Nat.lt_or_ge b s.nx with h1 | h1
    · exact h1
    · rw [h.was.fresh b h1] at hb; cases hb)]
  exact hb
theorem Go1.own {ρ ρ1 : Env} {s s1 : ES} {w w1 : World} (h : Go1 ρ s w ρ1 s1 w1) (r : Nat) (hr : Owned ρ1 s1 r) : Owned ρ s r ∨ w.heap.size ≤ r := by
  obtain ⟨b, o, l, hg, hl, hw, rfl⟩ := hr
  rcases h.src b o l hg hl with ⟨b0, o0, l0, a1, a2, a3, a4⟩ | h1
  · exact .inl ⟨b0, o0, l0, a1, a2, a4 hw, a3⟩
  · exact .inr h1

theorem StepW.refl (own : Nat → Prop) (w : World) : StepW own w w := ⟨rfl, rfl, rfl, Nat.le_refl _, fun _ _ _ => rfl⟩
theorem Go1.refl {ρ : Env} {s : ES} {w : World} (h : Rel ρ s w) : Go1 ρ s w ρ s w := ⟨h, fun _ _ => rfl, Nat.le_refl _, h, fun _ _ h => h, StepW.refl _ _, fun b o l hg hl => .inl ⟨b, o, l, hg, hl, rfl, id⟩⟩
theorem Go1.trans {ρ ρ1 ρ2 : Env} {s s1 s2 : ES} {w w1 w2 : World} (h : Go1 ρ s w ρ1 s1 w1) (k : Go1 ρ1 s1 w1 ρ2 s2 w2) : Go1 ρ s w ρ2 s2 w2 where
  rel := k.rel
  old := fun i hi => (k.old i (Nat.lt_of_lt_of_le hi h.nx)).trans (h.old i hi)
  nx := Nat.le_trans h.nx k.nx
  was := h.was
  gone := fun b hb hn => k.gone b (Nat.lt_of_lt_of_le hb h.nx) (h.gone b hb hn)
  step := ⟨k.step.os.trans h.step.os, k.step.tape.trans h.step.tape, k.step.output.trans h.step.output, Nat.le_trans h.step.size k.step.size, fun r hr ho => by
    rw [k.step.block r (Nat.lt_of_lt_of_le hr h.step.size) (fun o => by
      rcases h.own r o with h1 | h1
      · exact ho h1
      · omega), h.step.block r hr ho]⟩
  src := fun b o l hg hl => by
    rcases k.src b o l hg hl with ⟨b1, o1, l1, a1, a2, a3, a4⟩ | h1
    · rcases h.src b1 o1 l1 a1 a2 with ⟨b0, o0, l0, c1, c2, c3, c4⟩ | h2
      · exact .inl ⟨b0, o0, l0, c1, c2, c3.trans a3, fun e => c4 (a4 e)⟩
      · exact .inr (a3 ▸ h2)
    · exact .inr (Nat.le_trans h.step.size h1)

/-- The same from a base on: names from k on may have been dropped, and used again. -/
structure GoK (k : Nat) (ρ : Env) (s : ES) (w : World) (ρ' : Env) (s' : ES) (w' : World) : Prop where
  rel : Rel ρ' s' w'
  old : ∀ i, i < k → ρ' i = ρ i
  nx : k ≤ s'.nx
  gone : ∀ b, b < k → s.get b = none → s'.get b = none
  step : StepW (Owned ρ s) w w'
  src : ∀ b o l, s'.get b = some o → ρ' b = some l → (∃ b0 o0 l0, s.get b0 = some o0 ∧ ρ b0 = some l0 ∧ l0.r = l.r ∧ (o.wr = true → o0.wr = true)) ∨ w.heap.size ≤ l.r
theorem GoK.own {k : Nat} {ρ ρ1 : Env} {s s1 : ES} {w w1 : World} (h : GoK k ρ s w ρ1 s1 w1) (r : Nat) (hr : Owned ρ1 s1 r) : Owned ρ s r ∨ w.heap.size ≤ r := by
  obtain ⟨b, o, l, hg, hl, hw, rfl⟩ := hr
  rcases h.src b o l hg hl with ⟨b0, o0, l0, a1, a2, a3, a4⟩ | h1
  · exact .inl ⟨b0, o0, l0, a1, a2, a4 hw, a3⟩
  · exact .inr h1
theorem Go1.toK {ρ ρ1 : Env} {s s1 : ES} {w w1 : World} (h : Go1 ρ s w ρ1 s1 w1) {k : Nat} (hk : k ≤ s.nx) : GoK k ρ s w ρ1 s1 w1 := ⟨h.rel, fun i hi => h.old i (by omega), Nat.le_trans hk h.nx, fun b hb hn => h.gone b (by omega) hn, h.step, h.src⟩
theorem GoK.refl {k : Nat} {ρ : Env} {s : ES} {w : World} (h : Rel ρ s w) (hk : k ≤ s.nx) : GoK k ρ s w ρ s w := (Go1.refl h).toK hk
theorem GoK.trans {k : Nat} {ρ ρ1 ρ2 : Env} {s s1 s2 : ES} {w w1 w2 : World} (h : GoK k ρ s w ρ1 s1 w1) (g : GoK k ρ1 s1 w1 ρ2 s2 w2) : GoK k ρ s w ρ2 s2 w2 where
  rel := g.rel
  old := fun i hi => (g.old i hi).trans (h.old i hi)
  nx := g.nx
  gone := fun b hb hn => g.gone b hb (h.gone b hb hn)
  step := ⟨g.step.os.trans h.step.os, g.step.tape.trans h.step.tape, g.step.output.trans h.step.output, Nat.le_trans h.step.size g.step.size, fun r hr ho => by
    rw [g.step.block r (Nat.lt_of_lt_of_le hr h.step.size) (fun o => by
      rcases h.own r o with h1 | h1
      · exact ho h1
      · omega), h.step.block r hr ho]⟩
  src := fun b o l hg hl => by
    rcases g.src b o l hg hl with ⟨b1, o1, l1, a1, a2, a3, a4⟩ | h1
    · rcases h.src b1 o1 l1 a1 a2 with ⟨b0, o0, l0, c1, c2, c3, c4⟩ | h2
      · exact .inl ⟨b0, o0, l0, c1, c2, c3.trans a3, fun e => c4 (a4 e)⟩
      · exact .inr (a3 ▸ h2)
    · exact .inr (Nat.le_trans h.step.size h1)
theorem GoK.to1 {ρ ρ1 : Env} {s s1 : ES} {w w1 : World} (h : GoK s.nx ρ s w ρ1 s1 w1) (hR : Rel ρ s w) : Go1 ρ s w ρ1 s1 w1 := ⟨h.rel, h.old, h.nx, hR, h.gone, h.step, h.src⟩

theorem BR.lt {ρ : Env} {w : World} {l : Loc} {o : EO} (h : BR ρ w l o) : l.r < w.heap.size := by
  cases o with
  | cells c t z wr fz => obtain ⟨_, _, _, _, cs, fr, hh, _⟩ := h; exact (Array.getElem?_eq_some_iff.1 hh).1
  | map es => obtain ⟨es', cl, hh, _⟩ := h; exact (Array.getElem?_eq_some_iff.1 hh).1
  | sIter s p => exact (Array.getElem?_eq_some_iff.1 h).1

theorem BR.mono {ρ ρ' : Env} {w w' : World} {l : Loc} {o : EO} (h : BR ρ w l o) (hle : ρ.le ρ') (hb : w'.heap[l.r]? = w.heap[l.r]?) : BR ρ' w' l o := by
  cases o with
  | cells c t z wr fz =>
    obtain ⟨h1, h2, h3, h4, cs, fr, h5, h6, h7, h8⟩ := h
    exact ⟨h1, h2, h3, h4, cs, fr, hb ▸ h5, h6, fun i v hi => let ⟨v', a, b⟩ := h7 i v hi; ⟨v', a, b.mono hle⟩, h8⟩
  | map es =>
    obtain ⟨es', cl, h1, h2, h3⟩ := h
    exact ⟨es', cl, hb ▸ h1, h2, fun i k v hi => let ⟨e, a, b, c⟩ := h3 i k v hi; ⟨e, a, b.mono hle, c.mono hle⟩⟩
  | sIter s p => exact (show w'.heap[l.r]? = _ from hb.trans h)

/-- A new block. -/
theorem Rel.new {ρ : Env} {s : ES} {w : World} (h : Rel ρ s w) (o : EO) (ob : Obj) (l : Loc) (hl : l.r = w.heap.size)
    (hbr : BR (fun i => if i = s.nx then some l else ρ i) (w.alloc ob) l o) :
    Go1 ρ s w (fun i => if i = s.nx then some l else ρ i) (s.new o) (w.alloc ob) := by
  have hle : ρ.le (fun i => if i = s.nx then some l else ρ i) := fun b l' hb => by
    by_cases hx : b = s.nx
    · rw [h.fresh b (by omega)] at hb; cases hb
    · simp [hx, hb]
  have hold : ∀ r, r < w.heap.size → (w.alloc ob).heap[r]? = w.heap[r]? := fun r hr => by
    simp only [World.alloc, Array.getElem?_push, Nat.ne_of_lt hr, if_false]
  refine ⟨⟨?_, ?_, ?_⟩, fun i hi => by simp [show ¬ i = s.nx by omega], by simp [ES.new], h, fun b hb hn => by rw [ES.get_new, if_neg (by omega)]; exact hn, ⟨rfl, rfl, rfl, by simp, fun r hr _ => hold r hr⟩, ?_⟩
  · intro b o' l' hg hr
    rw [ES.get_new] at hg
    by_cases hx : s.nx = b
    · subst hx
      simp at hg hr; subst hg; subst hr; exact hbr
    · simp only [hx, if_false] at hg
      simp only [show ¬ b = s.nx from fun e => hx e.symm, if_false] at hr
      have := h.live b o' l' hg hr
      exact this.mono hle (hold _ this.lt)
  · intro i hi
    have : ¬ i = s.nx := by simp only [ES.new] at hi; omega
    simp only [this, if_false]
    exact h.fresh i (by simp only [ES.new] at hi; omega)
  · intro b b' o1 o2 l1 l2 hg hg' hr hr' hne hw
    rw [ES.get_new] at hg hg'
    by_cases hx : s.nx = b
    · subst hx
      simp at hg hr; subst hg; subst hr
      simp only [hne, if_false] at hg'
      simp only [show ¬ b' = s.nx from fun e => hne e.symm, if_false] at hr'
      have := (h.live b' o2 l2 hg' hr').lt
      omega
    · simp only [hx, if_false] at hg
      simp only [show ¬ b = s.nx from fun e => hx e.symm, if_false] at hr
      have h1 := (h.live b o1 l1 hg hr).lt
      by_cases hy : s.nx = b'
      · subst hy
        simp at hg' hr'; subst hg'; subst hr'
        omega
      · simp only [hy, if_false] at hg'
        simp only [show ¬ b' = s.nx from fun e => hy e.symm, if_false] at hr'
        exact h.sep b b' o1 o2 l1 l2 hg hg' hr hr' hne hw
  · intro b o' l' hg hr
    rw [ES.get_new] at hg
    by_cases hx : s.nx = b
    · subst hx
      simp at hr; subst hr
      exact .inr (by omega)
    · simp only [hx, if_false] at hg
      simp only [show ¬ b = s.nx from fun e => hx e.symm, if_false] at hr
      exact .inl ⟨b, o', l', hg, hr, rfl, id⟩

/-- A block is turned in place. -/
theorem Rel.turn {ρ : Env} {s : ES} {w w' : World} (h : Rel ρ s w) (b : Nat) (o o' : EO) (l : Loc) (hg : s.get b = some o) (hr : ρ b = some l) (hw : o.wr = true)
    (hos : w'.os = w.os) (htape : w'.tape = w.tape) (hout : w'.output = w.output) (hsize : w'.heap.size = w.heap.size) (hold : ∀ r, r ≠ l.r → w'.heap[r]? = w.heap[r]?)
    (hbr : BR ρ w' l o') (hw' : o'.wr = true) : Go1 ρ s w ρ (s.set b o') w' := by
  have hget : ∀ c x, (s.set b o').get c = some x → (b = c ∧ x = o') ∨ (b ≠ c ∧ s.get c = some x) := by
    intro c x hx
    rw [ES.get_set] at hx
    by_cases hbc : b = c
    · subst hbc; simp [hg] at hx; exact .inl ⟨rfl, hx.symm⟩
    · simp only [hbc, if_false] at hx; exact .inr ⟨hbc, hx⟩
  refine ⟨⟨?_, h.fresh, ?_⟩, fun _ _ => rfl, Nat.le_refl _, h, fun c _ hn => by (rw [ES.get_set]; split; (rename_i hbc; subst hbc; rw [hg] at hn; cases hn); exact hn), ⟨hos, htape, hout, by omega, fun r _ ho => hold r (fun e => ho ⟨b, o, l, hg, hr, hw, e.symm⟩)⟩, ?_⟩
  · intro c x l' hx hl'
    rcases hget c x hx with ⟨rfl, rfl⟩ | ⟨hne, hx'⟩
    · rw [hr] at hl'; cases hl'; exact hbr
    · exact (h.live c x l' hx' hl').mono (Env.le_refl _) (hold _ (fun e => h.sep b c o x l l' hg hx' hr hl' hne hw e.symm))
  · intro c c' x x' l1 l2 hx hx' hl1 hl2 hne hwx
    rcases hget c x hx with ⟨rfl, rfl⟩ | ⟨hn1, hx1⟩
    · rcases hget c' x' hx' with ⟨rfl, rfl⟩ | ⟨hn2, hx2⟩
      · exact absurd rfl hne
      · exact h.sep b c' o x' l1 l2 hg hx2 hl1 hl2 hne hw
    · rcases hget c' x' hx' with ⟨rfl, rfl⟩ | ⟨hn2, hx2⟩
      · exact h.sep c b x o l1 l2 hx1 hg hl1 hl2 hne hwx
      · exact h.sep c c' x x' l1 l2 hx1 hx2 hl1 hl2 hne hwx
  · intro c x l' hx hl'
    rcases hget c x hx with ⟨rfl, rfl⟩ | ⟨hne, hx'⟩
    · exact .inl ⟨b, o, l', hg, hl', rfl, fun _ => hw⟩
    · exact .inl ⟨c, x, l', hx', hl', rfl, id⟩

/-- A state that says less. -/
theorem Rel.less {ρ : Env} {s s' : ES} {w : World} (h : Rel ρ s w) (hget : ∀ b o, s'.get b = some o → s.get b = some o) (hnx : s.nx ≤ s'.nx) : Go1 ρ s w ρ s' w where
  rel := ⟨fun b o l hg hr => h.live b o l (hget b o hg) hr, fun i hi => h.fresh i (by omega), fun b b' o o' l l' hg hg' hr hr' hne hw => h.sep b b' o o' l l' (hget b o hg) (hget b' o' hg') hr hr' hne hw⟩
  old := fun _ _ => rfl
  nx := hnx
  was := h
  gone := fun b _ hn => by
    cases hx : s'.get b with
    | none => rfl
    | some o => rw [hget b o hx] at hn; cases hn
  step := StepW.refl _ _
  src := fun b o l hg hr => .inl ⟨b, o, l, hget b o hg, hr, rfl, id⟩

/-! Frames. -/
structure Fr where
  m : List (Nat × EV)
  d : EV
  n : Nat
def Fr.lk (fr : Fr) (t : Nat) : EV := match lkp fr.m t with | some v => v | none => fr.d
def Fr.put (fr : Fr) (t : Nat) (v : EV) : Fr := ⟨(t, v) :: fr.m, fr.d, fr.n⟩
def Fr.putO (fr : Fr) (t : Option Nat) (v : EV) : Fr := match t with | some t => fr.put t v | none => fr
def okDst (n : Nat) (t : Option Nat) : Prop := match t with | some t => t < n | none => True

structure FR (ρ : Env) (fr : Fr) (a : Act) : Prop where
  defers : a.defers = []
  size : a.tmps.size = fr.n
  slot : ∀ t, VR ρ (fr.lk t) (a.tmps.getD t undef)

theorem FR.mono {ρ ρ' : Env} {fr : Fr} {a : Act} (h : FR ρ fr a) (hle : ρ.le ρ') : FR ρ' fr a := ⟨h.defers, h.size, fun t => (h.slot t).mono hle⟩
theorem VR.undef {ρ : Env} : VR ρ undefE Go.undef := by rw [undefE, VR]; exact ⟨#[], rfl, VRs.nil⟩

theorem FR.put {ρ : Env} {fr : Fr} {a : Act} (h : FR ρ fr a) (t : Option Nat) (v : EV) (v' : Value) (ht : okDst fr.n t) (hv : VR ρ v v') : FR ρ (fr.putO t v) (a.put t v') := by
  cases t with
  | none => exact h
  | some t =>
    refine ⟨h.defers, by simp [Act.put, Fr.putO, Fr.put, h.size], fun u => ?_⟩
    simp only [Fr.putO, Fr.put, Fr.lk, lkp, Act.put]
    have ht' : t < a.tmps.size := by rw [h.size]; exact ht
    by_cases hu : t = u
    · subst hu
      simp only [if_true, Array.getD_eq_getD_getElem?, Array.getElem?_setIfInBounds_self, ht', Option.getD_some]
      exact hv
    · have := h.slot u
      simp only [Fr.lk] at this
      simp only [hu, if_false, Array.getD_eq_getD_getElem?, Array.getElem?_setIfInBounds_ne hu]
      rw [Array.getD_eq_getD_getElem?] at this
      exact this

def ofV : Value → EV
  | .bool b => .bool b
  | .int k n => .int k n
  | .string s => .str s.data.toList
  | .pointer none => .ptr none
  | .slice none 0 0 => .slice none 0 0
  | .map none => .map none
  | .nilFunc => .nilFn
  | .nilIface => .nilIface
  | _ => .unk
theorem VR.ofV {ρ : Env} (v : Value) : VR ρ (ofV v) v := by
  unfold E.ofV
  split <;> first | (rw [VR]; done) | (rw [VR]; simp) | skip
  all_goals first | trivial | (simp [VR]; done)

def ev (fr : Fr) : Operand → EV
  | .tmp t => fr.lk t
  | .const v => ofV v
  | .func f => .fn (.func f) [] []
  | .global _ => .unk
theorem FR.ev {ρ : Env} {fr : Fr} {a : Act} (h : FR ρ fr a) (x : Operand) : VR ρ (E.ev fr x) (a.eval x) := by
  cases x with
  | tmp t => exact h.slot t
  | const v => exact VR.ofV v
  | func f => simp only [E.ev, Act.eval, VR]; exact ⟨#[], #[], rfl, VRs.nil, VRs.nil⟩
  | global g => simp only [E.ev, VR]

end Go.E
