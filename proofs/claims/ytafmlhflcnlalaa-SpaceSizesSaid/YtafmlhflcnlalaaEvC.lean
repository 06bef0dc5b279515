/-
  The layer E, part C: the operations that only reckon. Own work.
-/
import Derived.Test.YtafmlhflcnlalaaEvB
import Derived.Laws.Strings
import Derived.Laws.Unary
import Derived.Lib.Strings
namespace Go.E
set_option linter.all false

/-! Two operands. -/
def andI (k : IntKind) (a b : Int) : Int := k.wrap ((BitVec.ofInt k.bits a &&& BitVec.ofInt k.bits b).toNat)
def orI (k : IntKind) (a b : Int) : Int := k.wrap ((BitVec.ofInt k.bits a ||| BitVec.ofInt k.bits b).toNat)
def xorI (k : IntKind) (a b : Int) : Int := k.wrap ((BitVec.ofInt k.bits a ^^^ BitVec.ofInt k.bits b).toNat)
def andNotI (k : IntKind) (a b : Int) : Int := k.wrap ((BitVec.ofInt k.bits a &&& ~~~ BitVec.ofInt k.bits b).toNat)
def shlI (k : IntKind) (a b : Int) : Int := k.wrap (a * 2 ^ (min b.toNat k.bits))
def shrI (k : IntKind) (a b : Int) : Int := a.fdiv (2 ^ (min b.toNat k.bits))

def ebinI (op : BinOp) (k : IntKind) (a : Int) (k' : IntKind) (b : Int) (K : EV → Prop) : Prop :=
  match op with
  | .add => k = k' ∧ K (.int k (k.wrap (a + b)))
  | .sub => k = k' ∧ K (.int k (k.wrap (a - b)))
  | .mul => k = k' ∧ K (.int k (k.wrap (a * b)))
  | .quo => (k = k' ∧ b ≠ 0) ∧ K (.int k (k.wrap (a.tdiv b)))
  | .rem => (k = k' ∧ b ≠ 0) ∧ K (.int k (a.tmod b))
  | .and => k = k' ∧ K (.int k (andI k a b))
  | .or => k = k' ∧ K (.int k (orI k a b))
  | .xor => k = k' ∧ K (.int k (xorI k a b))
  | .andNot => k = k' ∧ K (.int k (andNotI k a b))
  | .shl => 0 ≤ b ∧ K (.int k (shlI k a b))
  | .shr => 0 ≤ b ∧ K (.int k (shrI k a b))
  | .eql => k = k' ∧ K (.bool (decide (a = b)))
  | .neq => k = k' ∧ K (.bool (decide (a ≠ b)))
  | .lss => k = k' ∧ K (.bool (decide (a < b)))
  | .leq => k = k' ∧ K (.bool (decide (a ≤ b)))
  | .gtr => k = k' ∧ K (.bool (decide (b < a)))
  | .geq => k = k' ∧ K (.bool (decide (b ≤ a)))

theorem ebinI_sound {P : Program} {op : BinOp} {t : TypeId} {k k' : IntKind} {a b : Int} {K : EV → Prop} (h : ebinI op k a k' b K) (w : World) :
    ∃ v, K v ∧ ∃ v', (∀ ρ, VR ρ v v') ∧ (binOp op t (.int k a) (.int k' b)).run P w = .ok v' w := by
  cases op <;> simp only [ebinI] at h
  case shl => refine ⟨_, h.2, _, fun _ => by rw [VR], ?_⟩; simp [binOp, Op.shift, show ¬ b < 0 by omega, shlI]
  case shr => refine ⟨_, h.2, _, fun _ => by rw [VR], ?_⟩; simp [binOp, Op.shift, show ¬ b < 0 by omega, shrI]
  case quo => obtain ⟨⟨rfl, hb⟩, hK⟩ := h; refine ⟨_, hK, _, fun _ => by rw [VR], ?_⟩; simp [binOp, Op.intDiv, hb]
  case rem => obtain ⟨⟨rfl, hb⟩, hK⟩ := h; refine ⟨_, hK, _, fun _ => by rw [VR], ?_⟩; simp [binOp, Op.intDiv, hb]
  case eql => obtain ⟨rfl, hK⟩ := h; refine ⟨_, hK, _, fun _ => by rw [VR], ?_⟩; simp only [binOp, Op.intCmp, ne_eq, not_true_eq_false, if_false, Sem.run_pure]; rfl
  case neq => obtain ⟨rfl, hK⟩ := h; refine ⟨_, hK, _, fun _ => by rw [VR], ?_⟩; simp only [binOp, Op.intCmp, ne_eq, not_true_eq_false, if_false, Sem.run_pure]; simp [bne, Bool.beq_eq_decide_eq]
  all_goals
    obtain ⟨rfl, hK⟩ := h
    refine ⟨_, hK, _, fun _ => by rw [VR], ?_⟩
    simp [binOp, Op.intArith, Op.intCmp, Op.intBits, andI, orI, xorI, andNotI]

def ebinS (op : BinOp) (x y : List UInt8) (K : EV → Prop) : Prop :=
  match op with
  | .add => x.length + y.length ≤ 9223372036854775807 ∧ K (.str (x ++ y))
  | .eql => K (.bool (decide (x = y)))
  | .neq => K (.bool (decide (x ≠ y)))
  | .lss => K (.bool (Op.bytesLess x y))
  | _ => False
theorem size_mk (l : List UInt8) : (ByteArray.mk l.toArray).size = l.length := by simp [ByteArray.size]
theorem append_mk (x y : List UInt8) : (ByteArray.mk x.toArray) ++ (ByteArray.mk y.toArray) = ByteArray.mk (x ++ y).toArray := by
  apply ByteArray.ext
  simp [ByteArray.data_append]
theorem ebinS_sound {P : Program} {op : BinOp} {t : TypeId} {x y : List UInt8} {K : EV → Prop} (h : ebinS op x y K) (w : World) :
    ∃ v, K v ∧ ∃ v', (∀ ρ, VR ρ v v') ∧ (binOp op t (.string ⟨x.toArray⟩) (.string ⟨y.toArray⟩)).run P w = .ok v' w := by
  cases op <;> simp only [ebinS] at h
  case add =>
    refine ⟨_, h.2, _, fun _ => by rw [VR], ?_⟩
    have hm : IntKind.i64.max = 9223372036854775807 := by decide
    simp only [binOp, Op.stringOp, size_mk, hm]
    rw [if_neg (by have := h.1; omega), append_mk]
    rfl
  case eql => refine ⟨_, h, _, fun _ => by rw [VR], ?_⟩; simp [binOp, Op.stringOp, Bool.beq_eq_decide_eq]
  case neq => refine ⟨_, h, _, fun _ => by rw [VR], ?_⟩; simp [binOp, Op.stringOp, Bool.beq_eq_decide_eq]
  case lss => refine ⟨_, h, _, fun _ => by rw [VR], ?_⟩; simp [binOp, Op.stringOp]
  all_goals exact h.elim

/-! One operand. -/
def eun (op : UnOp) (x : EV) (K : EV → Prop) : Prop :=
  match op, x with
  | .not, .bool b => K (.bool (!b))
  | .neg, .int k n => K (.int k (k.wrap (0 - n)))
  | _, _ => False
theorem eun_sound {P : Program} {op : UnOp} {x : EV} {x' : Value} {K : EV → Prop} (h : eun op x K) {ρ : Env} (hx : VR ρ x x') (w : World) :
    ∃ v, K v ∧ ∃ v', (∀ ρ, VR ρ v v') ∧ (Op.unary op x').run P w = .ok v' w := by
  unfold eun at h
  split at h
  · rw [VR] at hx; subst hx; exact ⟨_, h, _, fun _ => by rw [VR], by simp [Op.unary]⟩
  · rw [VR] at hx; subst hx; exact ⟨_, h, _, fun _ => by rw [VR], by simp [Op.unary, Op.intArith]⟩
  · exact h.elim

/-! Indices and parts of strings. -/
def eIndexS (s : List UInt8) (n : Int) (K : EV → Prop) : Prop := (0 ≤ n ∧ n < s.length) ∧ K (.int .u8 (s.getD n.toNat 0).toNat)
theorem eIndexS_sound {P : Program} {t : TypeId} {i : TI} (hi : tiOf P t = some i) (hu : i.u = .str) {s : List UInt8} {k : IntKind} {n : Int} {K : EV → Prop} (h : eIndexS s n K) (w : World) :
    ∃ v, K v ∧ ∃ v', (∀ ρ, VR ρ v v') ∧ (Instr.index t (.string ⟨s.toArray⟩) (.int k n)).run P w = .ok v' w := by
  obtain ⟨inf, d, z, T⟩ := tiOf_some hi
  have hd : d = .string := by rw [T.u] at hu; cases d <;> simp [utOf] at hu; rfl
  subst hd
  obtain ⟨⟨h1, h2⟩, hK⟩ := h
  refine ⟨_, hK, _, fun _ => by rw [VR], ?_⟩
  have hlt : n.toNat < s.length := by omega
  have hg : (ByteArray.mk s.toArray)[n.toNat]? = some (s.getD n.toNat 0) := by
    rw [getElem?_pos (ByteArray.mk s.toArray) n.toNat (by rw [size_mk]; exact hlt)]
    simp [List.getD, hlt, ByteArray.getElem_eq_getElem_data]
  simp only [Instr.index, Sem.run_bind, asIntOf, Sem.run_pure, Result.andThen_ok, T.run_und w, h1, if_true, hg]

def optInt : Option EV → Int → Option Int
  | some (.int _ n), _ => some n
  | none, d => some d
  | _, _ => none

def eSliceS (s : List UInt8) (lo hi : Option EV) (K : EV → Prop) : Prop :=
  match optInt lo 0, optInt hi s.length with
  | some l, some h => (0 ≤ l ∧ l ≤ h ∧ h ≤ s.length) ∧ K (.str ((s.drop l.toNat).take (h.toNat - l.toNat)))
  | _, _ => False

def optRel (ρ : Env) : Option EV → Option Value → Prop
  | none, none => True
  | some x, some y => VR ρ x y
  | _, _ => False

theorem optInt_some {ρ : Env} {o : Option EV} {o' : Option Value} {d n : Int} (h : optInt o d = some n) (hr : optRel ρ o o') : (o = none ∧ o' = none ∧ n = d) ∨ (∃ k, o' = some (.int k n)) := by
  cases o with
  | none => cases o' with
    | none => simp [optInt] at h; exact .inl ⟨rfl, rfl, h.symm⟩
    | some y => simp [optRel] at hr
  | some x =>
    cases x <;> simp [optInt] at h
    subst h
    cases o' with
    | none => simp [optRel] at hr
    | some y => simp only [optRel, VR] at hr; subst hr; exact .inr ⟨_, rfl⟩

theorem run_sliceBound {P : Program} {k : IntKind} {n : Int} {y : Nat} {c : BoundsCode} (h0 : 0 ≤ n) (h1 : n ≤ y) (w : World) : (Instr.sliceBound (.int k n) y c).run P w = .ok n.toNat w := by
  simp [Instr.sliceBound, asIntOf, h0, h1]

theorem run_sliceBounds {P : Program} {ρ : Env} {isS : Bool} {len cap : Nat} {lo hi mx : Option EV} {lo' hi' mx' : Option Value} {l h m : Int} (hl : optInt lo 0 = some l) (hh : optInt hi len = some h) (hm : optInt mx cap = some m)
    (rl : optRel ρ lo lo') (rh : optRel ρ hi hi') (rm : optRel ρ mx mx') (h0 : 0 ≤ l) (h1 : l ≤ h) (h2 : h ≤ m) (h3 : m ≤ cap) (hmx : mx'.isSome = true → hi'.isSome = true) (w : World) :
    (Instr.sliceBounds isS len cap lo' hi' mx').run P w = .ok (l.toNat, h.toNat, m.toNat) w := by
  unfold Instr.sliceBounds
  rcases optInt_some hm rm with ⟨_, rfl, rfl⟩ | ⟨km, rfl⟩
  · rcases optInt_some hh rh with ⟨_, rfl, rfl⟩ | ⟨kh, rfl⟩
    · rcases optInt_some hl rl with ⟨_, rfl, rfl⟩ | ⟨kl, rfl⟩
      · simp
      · simp [run_sliceBound h0 h1]
    · rcases optInt_some hl rl with ⟨_, rfl, rfl⟩ | ⟨kl, rfl⟩
      · simp [run_sliceBound (P := P) (k := kh) (n := h) (y := cap) (by omega) h2]
      · have : l ≤ (h.toNat : Nat) := by omega
        simp [run_sliceBound (P := P) (k := kh) (n := h) (y := cap) (by omega) h2, run_sliceBound (P := P) (k := kl) (n := l) (y := h.toNat) h0 this]
  · rcases optInt_some hh rh with ⟨_, rfl, rfl⟩ | ⟨kh, rfl⟩
    · simp at hmx
    · have hm2 : h ≤ (m.toNat : Nat) := by omega
      rcases optInt_some hl rl with ⟨_, rfl, rfl⟩ | ⟨kl, rfl⟩
      · simp [run_sliceBound (P := P) (k := km) (n := m) (y := cap) (by omega) h3, run_sliceBound (P := P) (k := kh) (n := h) (y := m.toNat) (by omega) hm2]
      · have : l ≤ (h.toNat : Nat) := by omega
        simp [run_sliceBound (P := P) (k := km) (n := m) (y := cap) (by omega) h3, run_sliceBound (P := P) (k := kh) (n := h) (y := m.toNat) (by omega) hm2, run_sliceBound (P := P) (k := kl) (n := l) (y := h.toNat) h0 this]

/-- A part of a string, a slice, an array behind its address. -/
def eSlice (P : Program) (i : TI) (x : EV) (lo hi mx : Option EV) (s : ES) (K : EV → ES → Prop) : Prop :=
  match i.u, x with
  | .str, .str t => mx.isNone = true ∧ eSliceS t lo hi fun v => K v s
  | .slice e, .slice (some a) len cap => match tiOf P e, optInt lo 0, optInt hi len, optInt mx cap with
    | some j, some l, some h, some m => match s.get a.b with
      | some (.cells _ _ z _ _) => (0 ≤ l ∧ l ≤ h ∧ h ≤ m ∧ m ≤ cap ∧ (mx.isSome = true → hi.isSome = true) ∧ (z = 0 ∨ z = j.size)) ∧ K (.slice (some ⟨a.b, a.o + l.toNat * j.size⟩) (h.toNat - l.toNat) (m.toNat - l.toNat)) s
      | _ => False
    | _, _, _, _ => False
  | .slice e, .slice none _ _ => match tiOf P e, optInt lo 0, optInt hi 0, optInt mx 0 with
    | some _, some l, some h, some m => (0 ≤ l ∧ l ≤ h ∧ h ≤ m ∧ m ≤ 0 ∧ (mx.isSome = true → hi.isSome = true)) ∧ K (.slice none 0 0) s
    | _, _, _, _ => False
  | .arr n e, .ptr (some a) => match tiOf P e, optInt lo 0, optInt hi n, optInt mx n with
    | some j, some l, some h, some m => match s.get a.b with
      | some (.cells _ _ 0 _ _) => (0 ≤ l ∧ l ≤ h ∧ h ≤ m ∧ m ≤ n ∧ (mx.isSome = true → hi.isSome = true)) ∧ K (.slice (some ⟨a.b, a.o + l.toNat * j.size⟩) (h.toNat - l.toNat) (m.toNat - l.toNat)) s
      | _ => False
    | _, _, _, _ => False
  | _, _ => False

theorem CapOK.sub {l : Loc} {o c c' : Nat} (h : CapOK l o c c') (k : Nat) (z : Nat) (hk : k ≤ c) (hz : l.z = 0 ∨ l.z = z) : CapOK l (o + k * z) (c - k) (c' - k) := by
  rcases h with rfl | ⟨h1, h2, h3, h4⟩
  · exact .inl rfl
  · rcases hz with hz | hz
    · exact absurd hz h1
    · subst hz
      refine .inr ⟨h1, ?_, by omega, ?_⟩
      · rw [Nat.add_assoc, ← Nat.add_mul, show k + (c - k) = c by omega]; exact h2
      · rw [Nat.add_assoc, ← Nat.add_mul, show k + (c' - k) = c' by omega]; exact h4

theorem CapOK.le {l : Loc} {o c c' : Nat} (h : CapOK l o c c') : c ≤ c' := by
  rcases h with rfl | ⟨_, _, h, _⟩ <;> omega

theorem eSlice_sound {P : Program} {t : TypeId} {i : TI} (hi : tiOf P t = some i) {x : EV} {x' : Value} {lo hi' mx : Option EV} {lo2 hi2 mx2 : Option Value} {s : ES} {K : EV → ES → Prop} (h : eSlice P i x lo hi' mx s K) {ρ : Env} {w : World} (hR : Rel ρ s w) (hx : VR ρ x x')
    (rl : optRel ρ lo lo2) (rh : optRel ρ hi' hi2) (rm : optRel ρ mx mx2) : RunV P ρ s w (Instr.sliceAt t x' lo2 hi2 mx2) K := by
  have hsome : ∀ {o : Option EV} {o' : Option Value}, optRel ρ o o' → o.isSome = o'.isSome := by
    intro o o' h; cases o <;> cases o' <;> simp [optRel] at h ⊢
  obtain ⟨inf, d, z, T⟩ := tiOf_some hi
  unfold eSlice at h
  split at h
  · rename_i t0 hu
    have hd : d = .string := by rw [T.u] at hu; cases d <;> simp [utOf] at hu; rfl
    subst hd
    obtain ⟨hmx, h⟩ := h
    rw [VR] at hx; subst hx
    unfold eSliceS at h
    split at h
    · rename_i l hh h1 h2
      obtain ⟨⟨a1, a2, a3⟩, hK⟩ := h
      have hm2 : mx2 = none := by have := hsome rm; cases mx2 <;> simp_all
      subst hm2
      refine RunV.pure (v := .str _) (v' := .string ⟨((t0.drop l.toNat).take (hh.toNat - l.toNat)).toArray⟩) hR ?_ (by rw [VR]) hK
      have hb := run_sliceBounds (P := P) (isS := false) (len := t0.length) (cap := t0.length) (mx := none) (mx' := none) (m := t0.length) h1 h2 rfl rl rh trivial a1 a2 a3 (Int.le_refl _) (by simp) w
      simp only [Instr.sliceAt, Sem.run_bind, T.run_und w, Result.andThen_ok, Instr.slice, Option.isSome_none, Bool.false_eq_true, if_false, size_mk, hb, Sem.run_pure]
      simp [Lib.extract_eq]
    · exact h.elim
  · rename_i e a len cap hu
    have hd : d = .slice e := by rw [T.u] at hu; cases d <;> simp [utOf] at hu; subst hu; rfl
    subst hd
    rw [VR] at hx
    obtain ⟨l, c', o', hl, hcap, hlc, ho', rfl⟩ := hx
    split at h
    · rename_i j lo1 hi1 m1 hj e1 e2 e3
      obtain ⟨inf2, d2, z2, T2⟩ := tiOf_some hj
      split at h
      · rename_i c t1 z1 wr fz hg
        obtain ⟨⟨a1, a2, a3, a4, a5, a6⟩, hK⟩ := h
        have hb := hR.live _ _ _ hg hl
        have hz : l.z = 0 ∨ l.z = j.size := by rcases a6 with h | h <;> simp [hb.2.1, h]
        have hcl := hcap.le
        obtain ⟨m', hm', hm1, hm2, hcap'⟩ : ∃ m' : Int, optInt mx (c' : Nat) = some m' ∧ m1 ≤ m' ∧ m' ≤ c' ∧ CapOK l (a.o + lo1.toNat * j.size) (m1.toNat - lo1.toNat) (m'.toNat - lo1.toNat) := by
          cases mx with
          | none =>
            simp [optInt] at e3 ⊢; subst e3
            exact ⟨by omega, hcap.sub lo1.toNat j.size (by omega) hz⟩
          | some y =>
            cases y <;> simp [optInt] at e3 ⊢
            subst e3
            exact ⟨by omega, by omega, .inl rfl⟩
        have hrun := run_sliceBounds (P := P) (isS := true) (len := len) (cap := c') e1 e2 hm' rl rh rm a1 a2 (by omega) hm2 (by rw [← hsome rm, ← hsome rh]; exact a5) w
        refine RunV.pure (v := .slice (some ⟨a.b, a.o + lo1.toNat * j.size⟩) (hi1.toNat - lo1.toNat) (m1.toNat - lo1.toNat)) (v' := .slice (if m'.toNat = lo1.toNat then some ⟨l.r, o', none⟩ else some ⟨l.r, o' + lo1.toNat * j.size, none⟩) (hi1.toNat - lo1.toNat) (m'.toNat - lo1.toNat)) hR ?_ ?_ hK
        · simp only [Instr.sliceAt, Sem.run_bind, T.run_und w, Result.andThen_ok, Instr.slice, hrun, T2.run_size w, Sem.run_pure]
          congr 2
          split <;> simp [add_none]
        · rw [VR]
          refine ⟨l, m'.toNat - lo1.toNat, if m'.toNat = lo1.toNat then o' else o' + lo1.toNat * j.size, hl, hcap', by omega, ?_, ?_⟩
          · by_cases hq : m'.toNat = lo1.toNat
            · right; omega
            · rw [if_neg hq]
              rcases ho' with h1 | h1
              · left; rw [h1]; dsimp only; omega
              · right; omega
          · split <;> rfl
      · exact h.elim
    · exact h.elim
  · rename_i e n c hu
    have hd : d = .slice e := by rw [T.u] at hu; cases d <;> simp [utOf] at hu; subst hu; rfl
    subst hd
    rw [VR] at hx
    obtain ⟨rfl, rfl, rfl⟩ := hx
    split at h
    · rename_i j l1 h1 m1 hj e1 e2 e3
      obtain ⟨inf2, d2, z2, T2⟩ := tiOf_some hj
      obtain ⟨⟨a1, a2, a3, a4, a5⟩, hK⟩ := h
      have hrun := run_sliceBounds (P := P) (isS := true) (len := 0) (cap := 0) e1 e2 e3 rl rh rm a1 a2 a3 a4 (by rw [← hsome rm, ← hsome rh]; exact a5) w
      have hl0 : l1.toNat = 0 := by omega
      have hh0 : h1.toNat = 0 := by omega
      have hm0 : m1.toNat = 0 := by omega
      rw [hl0, hh0, hm0] at hrun
      refine RunV.pure (v := .slice none 0 0) (v' := .slice none 0 0) hR ?_ (by rw [VR]; exact ⟨rfl, rfl, rfl⟩) hK
      simp only [Instr.sliceAt, Sem.run_bind, T.run_und w, Result.andThen_ok, Instr.slice, hrun, T2.run_size w, Sem.run_pure]
      simp
    · exact h.elim
  · rename_i n e a hu
    have hd : d = .array n e := by rw [T.u] at hu; cases d <;> simp [utOf] at hu; obtain ⟨rfl, rfl⟩ := hu; rfl
    subst hd
    rw [VR] at hx
    obtain ⟨l, hl, rfl⟩ := hx
    split at h
    · rename_i j lo1 hi1 m1 hj e1 e2 e3
      obtain ⟨inf2, d2, z2, T2⟩ := tiOf_some hj
      split at h
      · rename_i c t1 wr fz hg
        obtain ⟨⟨a1, a2, a3, a4, a5⟩, hK⟩ := h
        have hrun := run_sliceBounds (P := P) (isS := false) (len := n) (cap := n) e1 e2 e3 rl rh rm a1 a2 a3 a4 (by rw [← hsome rm, ← hsome rh]; exact a5) w
        refine RunV.pure (v := .slice (some ⟨a.b, a.o + lo1.toNat * j.size⟩) (hi1.toNat - lo1.toNat) (m1.toNat - lo1.toNat)) (v' := .slice (some (if m1.toNat = lo1.toNat then ⟨l.r, a.o + l.d, none⟩ else ⟨l.r, a.o + l.d + lo1.toNat * j.size, none⟩)) (hi1.toNat - lo1.toNat) (m1.toNat - lo1.toNat)) hR ?_ ?_ hK
        · simp only [Instr.sliceAt, Sem.run_bind, T.run_und w, Result.andThen_ok, Instr.sureAddr, Sem.run_pure, hrun, T2.run_size w, add_none]
        · rw [VR]
          refine ⟨l, m1.toNat - lo1.toNat, if m1.toNat = lo1.toNat then a.o + l.d else a.o + l.d + lo1.toNat * j.size, hl, .inl rfl, by omega, ?_, ?_⟩
          · by_cases hq : m1.toNat = lo1.toNat
            · right; omega
            · rw [if_neg hq]; left; dsimp only; omega
          · split <;> rfl
      · exact h.elim
    · exact h.elim
  · exact h.elim

end Go.E
