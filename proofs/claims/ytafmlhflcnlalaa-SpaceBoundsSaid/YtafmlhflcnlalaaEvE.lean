/-
  The layer E, part E: the executor: single operations, calls, lists of operations, code, functions. Own work.
-/
import Derived.Test.YtafmlhflcnlalaaEvD
import Derived.RangeFuncCalls
namespace Go.E
set_option linter.all false

inductive ER where
  | ret (v : EV)
  | pan (v : EV)
inductive X where
  | normal
  | exit (id : Nat)
  | goto (l : Nat)
  | ret
  | pan (v : EV)

def wideR (r : Option Nat) : Fence := { Fence.wide with round := r }

def RetR (ρ : Env) : ER → Ending → Prop
  | .ret v, e => ∃ v', e = .returned v' ∧ VR ρ v v'
  | .pan v, e => ∃ v', e = .panicked [{ v := v', recovered := false }] ∧ VR ρ v v'
def EPost (ρ : Env) (s : ES) (w : World) (Q : ER → ES → Prop) (e : Ending) (w' : World) : Prop :=
  ∃ x s' ρ', RetR ρ' x e ∧ Go1 ρ s w ρ' s' w' ∧ Q x s'

/-- What a call comes to. -/
def ECalls (P : Program) (g : FuncId) (args : List EV) (s : ES) (Q : ER → ES → Prop) : Prop :=
  ∀ (ρ : Env) (w : World) (args' : Array Value), Rel ρ s w → VRs ρ args args'.toList →
    match (callFunc g args').run P w with
    | .ok (.enter f as) w1 => CallsIn (wideR none) 0 P f as w1 (EPost ρ s w Q)
    | .ok (.value v') w1 => EPost ρ s w Q (.returned v') w1
    | _ => False

def XR (ρ : Env) : X → Exit → Prop
  | .normal, e => e = .normal
  | .exit i, e => e = .exit i
  | .goto l, e => e = .goto l
  | .ret, e => e = .ret
  | .pan v, e => ∃ v', e = .panic [{ v := v', recovered := false }] ∧ VR ρ v v'
def CPost (k : Nat) (ρ : Env) (s : ES) (w : World) (Q : X → Fr → ES → Prop) (e : Exit) (a : Act) (w' : World) : Prop :=
  ∃ x fr' s' ρ', XR ρ' x e ∧ FR ρ' fr' a ∧ GoK k ρ s w ρ' s' w' ∧ Q x fr' s'
/-- What a piece of code comes to. -/
def ESem (P : Program) (k : Nat) (c : Code) (Q : X → Fr → ES → Prop) (fr : Fr) (s : ES) : Prop :=
  k ≤ s.nx → ∀ (r : Option Nat) (ρ : Env) (w : World) (a : Act), Rel ρ s w → FR ρ fr a → c.wpIn (wideR r) 0 P (CPost k ρ s w Q) a w

theorem CPost.trans {k : Nat} {ρ ρ1 : Env} {s s1 : ES} {w w1 : World} {Q : X → Fr → ES → Prop} {e : Exit} {a : Act} {w2 : World} (h : GoK k ρ s w ρ1 s1 w1) (g : CPost k ρ1 s1 w1 Q e a w2) : CPost k ρ s w Q e a w2 :=
  let ⟨x, fr', s', ρ', h1, h2, h3, h4⟩ := g
  ⟨x, fr', s', ρ', h1, h2, h.trans h3, h4⟩
theorem EPost.trans {ρ ρ1 : Env} {s s1 : ES} {w w1 : World} {Q : ER → ES → Prop} {e : Ending} {w2 : World} (h : Go1 ρ s w ρ1 s1 w1) (k : EPost ρ1 s1 w1 Q e w2) : EPost ρ s w Q e w2 :=
  let ⟨x, s', ρ', h1, h3, h4⟩ := k
  ⟨x, s', ρ', h1, h.trans h3, h4⟩
theorem ESem.mono {P : Program} {k : Nat} {c : Code} {Q Q' : X → Fr → ES → Prop} {fr : Fr} {s : ES} (h : ESem P k c Q fr s) (hq : ∀ x fr s, Q x fr s → Q' x fr s) : ESem P k c Q' fr s :=
  fun hk r ρ w a hR hF => wpIn_mono (h hk r ρ w a hR hF) fun _ _ _ ⟨x, fr', s', ρ', h1, h2, h3, h4⟩ => ⟨x, fr', s', ρ', h1, h2, h3, hq _ _ _ h4⟩
theorem ECalls.mono {P : Program} {g : FuncId} {args : List EV} {s : ES} {Q Q' : ER → ES → Prop} (h : ECalls P g args s Q) (hq : ∀ x s, Q x s → Q' x s) : ECalls P g args s Q' := by
  intro ρ w args' hR hA
  have := h ρ w args' hR hA
  revert this
  split
  · exact fun h => ⟨h.1, fun cs hr => let ⟨e, w', fr, ⟨x, s', ρ', h1, h2, h3⟩, b, c⟩ := h.2 cs hr; ⟨e, w', fr, ⟨x, s', ρ', h1, h2, hq _ _ h3⟩, b, c⟩⟩
  · exact fun ⟨x, s', ρ', h1, h2, h3⟩ => ⟨x, s', ρ', h1, h2, hq _ _ h3⟩
  · exact id

/-! Single operations. -/
def opnds (fr : Fr) (l : List Operand) : List EV := l.map (ev fr)
def optOp (fr : Fr) : Option Operand → Option EV
  | some x => some (ev fr x)
  | none => none
theorem FR.args {ρ : Env} {fr : Fr} {a : Act} (h : FR ρ fr a) (l : List Operand) : VRs ρ (opnds fr l) (l.map a.eval) := by
  induction l with
  | nil => exact VRs.nil
  | cons x l ih => exact VRs.cons (h.ev x) ih
theorem FR.opt {ρ : Env} {fr : Fr} {a : Act} (h : FR ρ fr a) (x : Option Operand) : optRel ρ (optOp fr x) (x.map a.eval) := by
  cases x with
  | none => trivial
  | some x => exact h.ev x

def partsE (fr : Fr) (ps : List (Nat × Operand)) : List (Nat × EV) := ps.map fun x => (x.1, ev fr x.2)

def econv (P : Program) (src dst : TypeId) (x : EV) (K : EV → Prop) : Prop :=
  match tiOf P src, tiOf P dst, x with
  | some _, some j, .int _ n => match j.u with
    | .int k => K (.int k (k.wrap n))
    | _ => False
  | some _, some j, .str t => match j.u with
    | .str => K (.str t)
    | _ => False
  | _, _, _ => False
theorem econv_sound {P : Program} {src dst : TypeId} {x : EV} {x' : Value} {K : EV → Prop} (h : econv P src dst x K) {ρ : Env} (hx : VR ρ x x') (w : World) :
    ∃ v, K v ∧ ∃ v', VR ρ v v' ∧ (convert src dst x').run P w = .ok v' w := by
  unfold econv at h
  split at h
  · rename_i i j k n h1 h2
    obtain ⟨_, d1, _, T1⟩ := tiOf_some h1
    obtain ⟨_, d2, _, T2⟩ := tiOf_some h2
    rw [VR] at hx; subst hx
    split at h
    · rename_i k' hu
      have hd : d2 = .int k' := by rw [T2.u] at hu; cases d2 <;> simp [utOf] at hu; subst hu; rfl
      subst hd
      refine ⟨_, h, _, by rw [VR], ?_⟩
      simp [convert, T1.run_und w, T2.run_und w, Conv.intToInt]
    · exact h.elim
  · rename_i i j t h1 h2
    obtain ⟨_, d1, _, T1⟩ := tiOf_some h1
    obtain ⟨_, d2, _, T2⟩ := tiOf_some h2
    rw [VR] at hx; subst hx
    split at h
    · rename_i hu
      have hd : d2 = .string := by rw [T2.u] at hu; cases d2 <;> simp [utOf] at hu; rfl
      subst hd
      refine ⟨_, h, _, by rw [VR], ?_⟩
      simp [convert, T1.run_und w, T2.run_und w]
    · exact h.elim
  · exact h.elim

def ebin (op : BinOp) (x y : EV) (K : EV → Prop) : Prop :=
  match x, y with
  | .int k a, .int k' b => ebinI op k a k' b K
  | .str a, .str b => ebinS op a b K
  | .bool a, .bool b => match op with
    | .eql => K (.bool (decide (a = b)))
    | .neq => K (.bool (decide (a ≠ b)))
    | _ => False
  | .nilIface, .iface _ _ => match op with
    | .eql => K (.bool false)
    | .neq => K (.bool true)
    | _ => False
  | .iface _ _, .nilIface => match op with
    | .eql => K (.bool false)
    | .neq => K (.bool true)
    | _ => False
  | .ptr a, .ptr none => match op with
    | .eql => K (.bool a.isNone)
    | .neq => K (.bool a.isSome)
    | _ => False
  | _, _ => False

/-- The type's own part of a comparison. -/
def ebinT (P : Program) (op : BinOp) (t : TypeId) (x y : EV) (cy : Bool) (K : EV → Prop) : Prop :=
  match x, y with
  | .bool _, .bool _ => match tiOf P t with
    | some i => match i.u with
      | .bool => ebin op x y K
      | _ => False
    | none => False
  | .nilIface, .nilIface => cy = true ∧ match tiOf P t with
    | some i => match i.u with
      | .iface => (match op with
        | .eql => K (.bool true)
        | .neq => K (.bool false)
        | _ => False)
      | _ => False
    | none => False
  | .nilIface, .iface _ _ | .iface _ _, .nilIface => match tiOf P t with
    | some i => match i.u with
      | .iface => ebin op x y K
      | _ => False
    | none => False
  | .ptr _, .ptr none => match tiOf P t with
    | some i => match i.u with
      | .ptr _ => ebin op x y K
      | _ => False
    | none => False
  | .int _ _, .int _ _ | .str _, .str _ => ebin op x y K
  | _, _ => False

def isConst : Operand → Bool
  | .const _ => true
  | _ => false

section equal
variable {P : Program} {t : TypeId} (w : World)
theorem run_equalIn_bool (d : Nat) (h : P.underlying t = some .bool) (a b : Bool) : (Op.equalIn (d + 1) t (.bool a) (.bool b)).run P w = .ok (a == b) w := by simp [Op.equalIn, run_underlying h]
theorem run_equalIn_nils (d : Nat) {ms : Array (String × TypeId)} (h : P.underlying t = some (.interface ms)) : (Op.equalIn (d + 1) t .nilIface .nilIface).run P w = .ok true w := by simp [Op.equalIn, run_underlying h]
theorem run_equalIn_nil_held (d : Nat) {ms : Array (String × TypeId)} (h : P.underlying t = some (.interface ms)) (u : TypeId) (v : Value) : (Op.equalIn (d + 1) t .nilIface (.iface u v)).run P w = .ok false w := by simp [Op.equalIn, run_underlying h]
theorem run_equalIn_held_nil (d : Nat) {ms : Array (String × TypeId)} (h : P.underlying t = some (.interface ms)) (u : TypeId) (v : Value) : (Op.equalIn (d + 1) t (.iface u v) .nilIface).run P w = .ok false w := by simp [Op.equalIn, run_underlying h]
theorem run_equalIn_ptr_nil (d : Nat) {e : TypeId} (h : P.underlying t = some (.pointer e)) (a : Option Addr) : (Op.equalIn (d + 1) t (.pointer a) (.pointer none)).run P w = .ok a.isNone w := by cases a <;> simp [Op.equalIn, run_underlying h]
theorem run_equal_bool (h : P.underlying t = some .bool) (a b : Bool) : (Op.equal t (.bool a) (.bool b)).run P w = .ok (a == b) w := run_equalIn_bool w 9999 h a b
theorem run_equal_nils {ms : Array (String × TypeId)} (h : P.underlying t = some (.interface ms)) : (Op.equal t .nilIface .nilIface).run P w = .ok true w := run_equalIn_nils w 9999 h
theorem run_equal_nil_held {ms : Array (String × TypeId)} (h : P.underlying t = some (.interface ms)) (u : TypeId) (v : Value) : (Op.equal t .nilIface (.iface u v)).run P w = .ok false w := run_equalIn_nil_held w 9999 h u v
theorem run_equal_held_nil {ms : Array (String × TypeId)} (h : P.underlying t = some (.interface ms)) (u : TypeId) (v : Value) : (Op.equal t (.iface u v) .nilIface).run P w = .ok false w := run_equalIn_held_nil w 9999 h u v
theorem run_equal_ptr_nil {e : TypeId} (h : P.underlying t = some (.pointer e)) (a : Option Addr) : (Op.equal t (.pointer a) (.pointer none)).run P w = .ok a.isNone w := run_equalIn_ptr_nil w 9999 h a
end equal

theorem ebinT_sound {P : Program} {op : BinOp} {t : TypeId} {x y : EV} {ox oy : Operand} {K : EV → Prop} (h : ebinT P op t x y (isConst oy) K) {ρ : Env} {x' y' : Value} (hx : VR ρ x x') (hy : VR ρ y y') (w : World) :
    ∃ v, K v ∧ ∃ v', VR ρ v v' ∧ (do eqGuard op t ox oy x' y'; binOp op t x' y' : Sem Value).run P w = .ok v' w := by
  have hund : ∀ {i : TI}, tiOf P t = some i → ∃ d, i.u = utOf d ∧ P.underlying t = some d := by
    intro i hi; obtain ⟨_, d, _, T⟩ := tiOf_some hi; exact ⟨d, T.u, T.und⟩
  unfold ebinT at h
  split at h
  · -- bool
    rename_i a b
    rw [VR] at hx; rw [VR] at hy; subst hx; subst hy
    split at h
    · rename_i i hi
      split at h
      · rename_i hu
        obtain ⟨d, hd, hrun⟩ := hund hi
        have hd' : d = .bool := by rw [hd] at hu; cases d <;> simp [utOf] at hu; rfl
        subst hd'
        simp only [ebin] at h
        split at h
        · exact ⟨_, h, _, by rw [VR], by simp [eqGuard, binOp, run_equal_bool _ hrun, Bool.beq_eq_decide_eq]⟩
        · refine ⟨_, h, _, by rw [VR], ?_⟩
          simp [eqGuard, binOp, run_equal_bool _ hrun]
          cases a <;> cases b <;> rfl
        · exact h.elim
      · exact h.elim
    · exact h.elim
  · -- nil, nil
    rw [VR] at hx; rw [VR] at hy; subst hx; subst hy
    obtain ⟨hc, h⟩ := h
    obtain ⟨cv, rfl⟩ : ∃ cv, oy = .const cv := by cases oy <;> simp [isConst] at hc; exact ⟨_, rfl⟩
    split at h
    · rename_i i hi
      split at h
      · rename_i hu
        obtain ⟨d, hd, hrun⟩ := hund hi
        have hd' : ∃ ms, d = .interface ms := by rw [hd] at hu; cases d <;> simp [utOf] at hu; exact ⟨_, rfl⟩
        obtain ⟨ms, rfl⟩ := hd'
        split at h
        · exact ⟨_, h, _, by rw [VR], by simp [eqGuard, binOp, run_equal_nils _ hrun]⟩
        · exact ⟨_, h, _, by rw [VR], by simp [eqGuard, binOp, run_equal_nils _ hrun]⟩
        · exact h.elim
      · exact h.elim
    · exact h.elim
  · -- nil, held
    rename_i t1 v1
    rw [VR] at hx; rw [VR] at hy; subst hx; obtain ⟨y1, rfl, _⟩ := hy
    split at h
    · rename_i i hi
      split at h
      · rename_i hu
        obtain ⟨d, hd, hrun⟩ := hund hi
        have hd' : ∃ ms, d = .interface ms := by rw [hd] at hu; cases d <;> simp [utOf] at hu; exact ⟨_, rfl⟩
        obtain ⟨ms, rfl⟩ := hd'
        simp only [ebin] at h
        split at h
        · exact ⟨_, h, _, by rw [VR], by simp [eqGuard, binOp, run_equal_nil_held _ hrun]⟩
        · exact ⟨_, h, _, by rw [VR], by simp [eqGuard, binOp, run_equal_nil_held _ hrun]⟩
        · exact h.elim
      · exact h.elim
    · exact h.elim
  · -- held, nil
    rename_i t1 v1
    rw [VR] at hx; rw [VR] at hy; subst hy; obtain ⟨y1, rfl, _⟩ := hx
    split at h
    · rename_i i hi
      split at h
      · rename_i hu
        obtain ⟨d, hd, hrun⟩ := hund hi
        have hd' : ∃ ms, d = .interface ms := by rw [hd] at hu; cases d <;> simp [utOf] at hu; exact ⟨_, rfl⟩
        obtain ⟨ms, rfl⟩ := hd'
        simp only [ebin] at h
        split at h
        · exact ⟨_, h, _, by rw [VR], by simp [eqGuard, binOp, run_equal_held_nil _ hrun]⟩
        · exact ⟨_, h, _, by rw [VR], by simp [eqGuard, binOp, run_equal_held_nil _ hrun]⟩
        · exact h.elim
      · exact h.elim
    · exact h.elim
  · -- pointer, nil
    rename_i a
    have hx' : ∃ a', x' = .pointer a' ∧ a'.isNone = a.isNone := by
      cases a with
      | none => rw [VR] at hx; exact ⟨_, hx, rfl⟩
      | some a => rw [VR] at hx; obtain ⟨l, _, rfl⟩ := hx; exact ⟨_, rfl, rfl⟩
    obtain ⟨a', rfl, ha⟩ := hx'
    rw [VR] at hy; subst hy
    split at h
    · rename_i i hi
      split at h
      · rename_i e hu
        obtain ⟨d, hd, hrun⟩ := hund hi
        have hd' : d = .pointer e := by rw [hd] at hu; cases d <;> simp [utOf] at hu; subst hu; rfl
        subst hd'
        simp only [ebin] at h
        split at h
        · refine ⟨_, h, _, by rw [VR], ?_⟩
          rw [← ha]
          cases a' <;> simp [eqGuard, binOp, run_equal_ptr_nil _ hrun]
        · refine ⟨_, h, _, by rw [VR], ?_⟩
          have : a.isSome = a'.isSome := by cases a <;> cases a' <;> simp at ha ⊢
          rw [this]
          cases a' <;> simp [eqGuard, binOp, run_equal_ptr_nil _ hrun]
        · exact h.elim
      · exact h.elim
    · exact h.elim
  · -- integers
    rename_i k a k' b
    rw [VR] at hx; rw [VR] at hy; subst hx; subst hy
    simp only [ebin] at h
    obtain ⟨v, h1, v', h2, h3⟩ := ebinI_sound (P := P) (t := t) h w
    refine ⟨v, h1, v', h2 ρ, ?_⟩
    have : (eqGuard op t ox oy (.int k a) (.int k' b)) = (pure () : Sem Unit) := by cases op <;> rfl
    rw [this]; exact h3
  · -- strings
    rename_i a b
    rw [VR] at hx; rw [VR] at hy; subst hx; subst hy
    simp only [ebin] at h
    obtain ⟨v, h1, v', h2, h3⟩ := ebinS_sound (P := P) (t := t) h w
    refine ⟨v, h1, v', h2 ρ, ?_⟩
    have : (eqGuard op t ox oy (.string ⟨a.toArray⟩) (.string ⟨b.toArray⟩)) = (pure () : Sem Unit) := by cases op <;> rfl
    rw [this]; exact h3
  · exact h.elim

def ebuiltin (P : Program) (b : Builtin) (ts : List TypeId) (xs : List EV) (s : ES) (K : EV → ES → Prop) : Prop :=
  match b, ts, xs with
  | .len, t :: _, x :: _ => match tiOf P t with
    | some i => elen i x s fun v => K v s
    | none => False
  | .min, _, x :: r => eminmax minI x r fun v => K v s
  | .max, _, x :: r => eminmax maxI x r fun v => K v s
  | _, _, _ => False

/-- What a value called comes to. -/
def KC (K Kp : EV → ES → Prop) : ER → ES → Prop
  | .ret v, s => K v s
  | .pan v, s => Kp v s

def ecall (P : Program) (c : Call) (fr : Fr) (s : ES) (K Kp : EV → ES → Prop) : Prop :=
  match c.callee with
  | .builtin b => ebuiltin P b c.argTypes.toList (opnds fr c.args.toList) s K
  | .value f => match ev fr f with
    | .fn (.func g) first cap => ECalls P g (first ++ opnds fr c.args.toList ++ cap) s (KC K Kp)
    | _ => False
  | .invoke _ _ => False

/-- A way that is chosen by a bool; what stands behind it is not looked into before the bool is known. -/
def gsel (b want : Bool) (A B : Prop) : Prop := (b = want → A) ∧ (b = !want → B)
@[congr] theorem gsel_congr {b c want : Bool} {A B : Prop} (h : b = c) : gsel b want A B = gsel c want A B := by rw [h]
theorem gsel_tt (A B : Prop) : gsel true true A B = A := by simp [gsel]
theorem gsel_tf (A B : Prop) : gsel true false A B = B := by simp [gsel]
theorem gsel_ft (A B : Prop) : gsel false true A B = B := by simp [gsel]
theorem gsel_ff (A B : Prop) : gsel false false A B = A := by simp [gsel]
theorem gsel_decT {p : Prop} [Decidable p] {A B : Prop} (hA : p → A) (hB : ¬ p → B) : gsel (decide p) true A B := ⟨fun h => hA (of_decide_eq_true h), fun h => hB (of_decide_eq_false h)⟩
theorem gsel_decF {p : Prop} [Decidable p] {A B : Prop} (hA : p → B) (hB : ¬ p → A) : gsel (decide p) false A B := ⟨fun h => hB (of_decide_eq_false h), fun h => hA (of_decide_eq_true h)⟩
theorem gsel_boolT {b : Bool} {A B : Prop} (hA : b = true → A) (hB : b = false → B) : gsel b true A B := ⟨hA, hB⟩
theorem gsel_boolF {b : Bool} {A B : Prop} (hA : b = true → B) (hB : b = false → A) : gsel b false A B := ⟨hB, hA⟩

def pickZ (K : EV → ES → Prop) (v : EV) (s : ES) : Prop := K v s

def eop (P : Program) (op : Op) (fr : Fr) (s : ES) (K Kp : EV → ES → Prop) : Prop :=
  match op with
  | .move x | .assign x => K (ev fr x) s
  | .pick c a b => match ev fr c with
    | .bool t => gsel t true (pickZ K (ev fr a) s) (pickZ K (ev fr b) s)
    | _ => False
  | .alloc t => match tiOf P t with
    | some i => eNew i.zero t s K
    | none => False
  | .box t x => eBox t (ev fr x) s K
  | .build t ps => match tiOf P t with
    | some i => ebuild P i (partsE fr ps.toList) fun v => K v s
    | none => False
  | .buildSlice t n ps => match tiOf P t with
    | some i => ebuildSlice P i n (partsE fr ps.toList) s K
    | none => False
  | .load t x => match tiOf P t with
    | some i => eLoad i (ev fr x) s fun v => K v s
    | none => False
  | .store t x v => match tiOf P t with
    | some i => eStore i (ev fr x) (ev fr v) s K
    | none => False
  | .nilCheck x => match ev fr x with
    | .ptr (some a) => K (.ptr (some a)) s
    | _ => False
  | .binOp op t x y _ => ebinT P op t (ev fr x) (ev fr y) (isConst y) fun v => K v s
  | .unOp op _ x => eun op (ev fr x) fun v => K v s
  | .convert src dst x => econv P src dst (ev fr x) fun v => K v s
  | .slice t x lo hi mx => match tiOf P t with
    | some i => eSlice P i (ev fr x) (optOp fr lo) (optOp fr hi) (optOp fr mx) s K
    | none => False
  | .fieldAddr t x f => match tiOf P t with
    | some i => eFieldAddr P i (ev fr x) f s K
    | none => False
  | .field t x f => match tiOf P t with
    | some i => efield P i (ev fr x) f fun v => K v s
    | none => False
  | .indexAddr t x ix => match tiOf P t with
    | some i => eIndexAddr P i (ev fr x) (ev fr ix) s K
    | none => False
  | .index t x ix => match tiOf P t with
    | some i => eindex P i (ev fr x) (ev fr ix) fun v => K v s
    | none => False
  | .makeInterface t x => match tiOf P t with
    | some i => match i.u with
      | .iface => False
      | _ => K (.iface t (ev fr x)) s
    | none => False
  | .makeFunc f first cap => K (.fn f (opnds fr first.toList) (opnds fr cap.toList)) s
  | .extract x n => eextract (ev fr x) n fun v => K v s
  | .call c => ecall P c fr s K Kp
  | _ => False

theorem parts_rel {ρ : Env} {fr : Fr} {a : Act} (hF : FR ρ fr a) (ps : Array (Nat × Operand)) :
    (ps.map fun (x : Nat × Operand) => (x.1, a.eval x.2)).size = (partsE fr ps.toList).length ∧
    ∀ (k n : Nat) (v : EV), (partsE fr ps.toList)[k]? = some (n, v) → ∃ v', (ps.map fun (x : Nat × Operand) => (x.1, a.eval x.2))[k]? = some (n, v') ∧ VR ρ v v' := by
  refine ⟨by simp [partsE], fun k n v h => ?_⟩
  simp only [partsE, List.getElem?_map] at h
  cases hp : ps.toList[k]? with
  | none => simp [hp] at h
  | some x =>
    simp [hp] at h
    obtain ⟨rfl, rfl⟩ := h
    have : ps[k]? = some x := by simpa using hp
    exact ⟨a.eval x.2, by simp [this], hF.ev x.2⟩

/-- What a single operation, that is no call of a function, comes to. -/
def OpRes (P : Program) (ρ : Env) (s : ES) (w : World) (a : Act) (o : Oper) (K : EV → ES → Prop) : Prop :=
  ∃ v v' s' ρ' w', ((execOp a.eval o).run P w = .ok (.value v') w' ∨ ((execOp a.eval o).run P w = .ok .skip w' ∧ v' = Go.undef)) ∧ VR ρ' v v' ∧ Go1 ρ s w ρ' s' w' ∧ K v s'

theorem OpRes.val {P : Program} {ρ : Env} {s : ES} {w : World} {a : Act} {o : Oper} {K : EV → ES → Prop} (hR : Rel ρ s w) {m : Sem Value} (he : (execOp a.eval o) = (do pure (.value (← m)))) {k : EV → Prop} (hk : ∀ v, k v → K v s)
    (h : ∃ v, k v ∧ ∃ v', VR ρ v v' ∧ m.run P w = .ok v' w) : OpRes P ρ s w a o K := by
  obtain ⟨v, hv, v', h1, h2⟩ := h
  exact ⟨v, v', s, ρ, w, .inl (by rw [he]; simp [h2]), h1, Go1.refl hR, hk v hv⟩
theorem OpRes.run {P : Program} {ρ : Env} {s : ES} {w : World} {a : Act} {o : Oper} {K : EV → ES → Prop} {m : Sem Value} (he : (execOp a.eval o) = (do pure (.value (← m)))) (h : RunV P ρ s w m K) : OpRes P ρ s w a o K := by
  obtain ⟨v, v', s', ρ', w', h1, h2, h3, h4⟩ := h
  exact ⟨v, v', s', ρ', w', .inl (by rw [he]; simp [h1]), h2, h3, h4⟩

def isCall : Op → Bool
  | .call { callee := .builtin _, .. } => false
  | .call _ => true
  | _ => false

theorem eop_sound {P : Program} {o : Oper} {fr : Fr} {s : ES} {K Kp : EV → ES → Prop} (h : eop P o.op fr s K Kp) (hc : isCall o.op = false) {ρ : Env} {w : World} {a : Act} (hR : Rel ρ s w) (hF : FR ρ fr a) : OpRes P ρ s w a o K := by
  obtain ⟨dst, op, type, pos, after, guard⟩ := o
  simp only at h hc
  cases op <;> simp only [eop] at h <;> try exact h.elim
  case move x => exact ⟨_, _, s, ρ, w, .inl rfl, hF.ev x, Go1.refl hR, h⟩
  case assign x => exact ⟨_, _, s, ρ, w, .inl rfl, hF.ev x, Go1.refl hR, h⟩
  case pick c x y =>
    split at h
    · rename_i t hcv
      have hcr := hF.ev c
      rw [hcv, VR] at hcr
      cases t with
      | true => exact ⟨_, a.eval x, s, ρ, w, .inl (by simp [execOp, hcr, asBool]), hF.ev x, Go1.refl hR, h.1 rfl⟩
      | false => exact ⟨_, a.eval y, s, ρ, w, .inl (by simp [execOp, hcr, asBool]), hF.ev y, Go1.refl hR, h.2 rfl⟩
    · exact h.elim
  case alloc t =>
    split at h
    · rename_i i hi; exact .run rfl (eAlloc_sound hi h hR)
    · exact h.elim
  case box t x => exact .run rfl (eBox_sound h hR (hF.ev x))
  case build t ps =>
    split at h
    · rename_i i hi
      obtain ⟨p1, p2⟩ := parts_rel hF ps
      exact .val hR rfl (fun v hv => hv) (ebuild_sound hi h p1 p2 w)
    · exact h.elim
  case buildSlice t n ps =>
    split at h
    · rename_i i hi
      obtain ⟨p1, p2⟩ := parts_rel hF ps
      exact .run rfl (ebuildSlice_sound hi h hR p1 p2)
    · exact h.elim
  case load t x =>
    split at h
    · rename_i i hi
      obtain ⟨v, h1, v', h2, h3, _⟩ := eLoad_sound hi h hR (hF.ev x)
      exact .val hR rfl (fun v hv => hv) ⟨v, h1, v', h2, h3⟩
    · exact h.elim
  case store t x v =>
    split at h
    · rename_i i hi
      obtain ⟨s', w', h1, h2, h3⟩ := eStore_sound hi h hR (hF.ev x) (hF.ev v)
      exact ⟨undefE, Go.undef, s', ρ, w', .inr ⟨by simp [execOp, h1], rfl⟩, VR.undef, h2, h3⟩
    · exact h.elim
  case nilCheck x =>
    split at h
    · rename_i x0 hx
      have hr := hF.ev x
      rw [hx] at hr
      have hr' := hr
      rw [VR] at hr'
      obtain ⟨l, hl, he⟩ := hr'
      exact ⟨_, _, s, ρ, w, .inl (by simp only [execOp, he]; rfl), by rw [← he]; exact hr, Go1.refl hR, h⟩
    · exact h.elim
  case binOp op t x y ty => exact .val hR rfl (fun v hv => hv) (ebinT_sound h (hF.ev x) (hF.ev y) w)
  case unOp op t x =>
    obtain ⟨v, h1, v', h2, h3⟩ := eun_sound (P := P) h (hF.ev x) w
    exact .val hR rfl (fun v hv => hv) ⟨v, h1, v', h2 ρ, h3⟩
  case convert src dst x => exact .val hR rfl (fun v hv => hv) (econv_sound h (hF.ev x) w)
  case slice t x lo hi mx =>
    split at h
    · rename_i i hi; exact .run rfl (eSlice_sound hi h hR (hF.ev x) (hF.opt lo) (hF.opt _) (hF.opt mx))
    · exact h.elim
  case fieldAddr t x f =>
    split at h
    · rename_i i hi; exact .run rfl (eFieldAddr_sound hi h hR (hF.ev x))
    · exact h.elim
  case field t x f =>
    split at h
    · rename_i i hi; exact .val hR rfl (fun v hv => hv) (efield_sound hi h (hF.ev x) w)
    · exact h.elim
  case indexAddr t x ix =>
    split at h
    · rename_i i hi; exact .run rfl (eIndexAddr_sound hi h hR (hF.ev x) (hF.ev ix))
    · exact h.elim
  case index t x ix =>
    split at h
    · rename_i i hi; exact .val hR rfl (fun v hv => hv) (eindex_sound hi h (hF.ev x) (hF.ev ix) w)
    · exact h.elim
  case makeInterface t x =>
    split at h
    · rename_i i hi
      obtain ⟨inf, d, z, T⟩ := tiOf_some hi
      split at h
      · exact h.elim
      · rename_i hne
        refine ⟨_, .iface t (a.eval x), s, ρ, w, .inl ?_, by rw [VR]; exact ⟨_, rfl, hF.ev x⟩, Go1.refl hR, h⟩
        have : ∀ ms, d ≠ .interface ms := fun ms e => hne (by rw [T.u, e]; rfl)
        simp only [execOp, Instr.makeInterface, Sem.run_bind, T.run_und w, Result.andThen_ok]
        cases d <;> first | rfl | exact absurd rfl (this _)
    · exact h.elim
  case makeFunc f first cap =>
    refine ⟨_, .func f (first.map a.eval) (cap.map a.eval), s, ρ, w, .inl rfl, ?_, Go1.refl hR, h⟩
    rw [VR]; exact ⟨_, _, rfl, by simpa using hF.args first.toList, by simpa using hF.args cap.toList⟩
  case extract x n => exact .val hR rfl (fun v hv => hv) (eextract_sound h (hF.ev x) w)
  case call c =>
    obtain ⟨callee, args, ts⟩ := c
    cases callee with
    | value f => simp [isCall] at hc
    | invoke r m => simp [isCall] at hc
    | builtin b =>
      simp only [ecall] at h
      have hargs := hF.args args.toList
      have hm : (args.toList.map a.eval) = (args.map a.eval).toList := by simp
      rw [hm] at hargs
      unfold ebuiltin at h
      split at h
      · rename_i t tr x xr e1 e2
        split at h
        · rename_i i hi
          have ht : ts[0]? = some t := by rw [← Array.getElem?_toList, e1]; rfl
          rw [e2, VRs] at hargs
          obtain ⟨x', l', hx1, hx2, hx3⟩ := hargs
          have hx0 : (args.map a.eval)[0]? = some x' := by rw [← Array.getElem?_toList, hx1]; rfl
          exact .val hR (m := Builtin.len_ ts type (args.map a.eval)) rfl (fun v hv => hv) (elen_sound hi h hR hx2 ts ht type _ hx0)
        · exact h.elim
      · rename_i x xr e2
        rw [e2, VRs] at hargs
        obtain ⟨x', l', hx1, hx2, hx3⟩ := hargs
        refine .val hR (m := Builtin.min_ ts type (args.map a.eval)) rfl (fun v hv => hv) ?_
        obtain ⟨v, a1, v', a2, a3⟩ := emin_sound (P := P) h hx2 hx3 w
        exact ⟨v, a1, v', a2, by simp only [Builtin.min_, hx1]; exact a3⟩
      · rename_i x xr e2
        rw [e2, VRs] at hargs
        obtain ⟨x', l', hx1, hx2, hx3⟩ := hargs
        refine .val hR (m := Builtin.max_ ts type (args.map a.eval)) rfl (fun v hv => hv) ?_
        obtain ⟨v, a1, v', a2, a3⟩ := emax_sound (P := P) h hx2 hx3 w
        exact ⟨v, a1, v', a2, by simp only [Builtin.max_, hx1]; exact a3⟩
      · exact h.elim

end Go.E
