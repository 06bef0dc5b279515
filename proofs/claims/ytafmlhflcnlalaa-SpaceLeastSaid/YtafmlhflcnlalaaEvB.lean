/-
  The layer E, part B: what is asked of types; the operations on memory, and that they are sound. Own work.
-/
import Derived.Test.YtafmlhflcnlalaaEvA
import Derived.Laws.Cells
import Derived.Laws.Entries
import Derived.ChangeKeysEq
namespace Go.E
set_option linter.all false

inductive UT where
  | bool | int (k : IntKind) | str
  | ptr (e : Nat)
  | slice (e : Nat)
  | arr (n e : Nat)
  | struct (fs : List (Nat × Nat))
  | map (k v : Nat)
  | iface | func | tuple | other

def utOf : TypeDesc → UT
  | .bool => .bool
  | .int k => .int k
  | .string => .str
  | .pointer e => .ptr e
  | .slice e => .slice e
  | .array n e => .arr n e
  | .struct fs => .struct (fs.toList.map fun f => (f.offset, f.type))
  | .map k v => .map k v
  | .interface _ => .iface
  | .func _ _ _ => .func
  | .tuple _ => .tuple
  | _ => .other
def UT.agg : UT → Bool
  | .struct _ | .arr _ _ => true
  | _ => false

/-- What is asked of a type. -/
structure TI where
  u : UT
  size : Nat
  bytes : Nat
  zero : List EV

def tiOf (P : Program) (t : TypeId) : Option TI :=
  match P.info? t, P.underlying t with
  | some i, some d => match i.zero with
    | some z => some ⟨utOf d, i.size, i.bytes, z.cells.toList.map ofV⟩
    | none => none
  | _, _ => none

structure TIs (P : Program) (t : TypeId) (i : TI) (inf : TypeInfo) (d : TypeDesc) (z : Value) : Prop where
  info : P.info? t = some inf
  und : P.underlying t = some d
  zero : inf.zero = some z
  u : i.u = utOf d
  size : i.size = inf.size
  bytes : i.bytes = inf.bytes
  cells : i.zero = z.cells.toList.map ofV

theorem tiOf_some {P : Program} {t : TypeId} {i : TI} (h : tiOf P t = some i) : ∃ inf d z, TIs P t i inf d z := by
  unfold tiOf at h
  split at h
  · rename_i inf d h1 h2
    split at h
    · rename_i z hz
      cases h
      exact ⟨inf, d, z, h1, h2, hz, rfl, rfl, rfl, rfl⟩
    · cases h
  · cases h

theorem VRs.ofV {ρ : Env} (l : List Value) : VRs ρ (l.map E.ofV) l := by
  induction l with
  | nil => exact VRs.nil
  | cons v l ih => exact VRs.cons (VR.ofV v) ih

section runs
variable {P : Program} {t : TypeId} {i : TI} {inf : TypeInfo} {d : TypeDesc} {z : Value} (h : TIs P t i inf d z) (w : World)
include h
theorem TIs.run_und : (underlying t).run P w = .ok d w := run_underlying h.und w
theorem TIs.run_info : (typeInfo t).run P w = .ok inf w := by simp [typeInfo, h.info]
theorem TIs.run_size : (sizeOf t).run P w = .ok i.size w := by simp [sizeOf, h.run_info w, h.size]
theorem TIs.run_zero : (zeroValue t).run P w = .ok z w := by simp [zeroValue, h.run_info w, h.zero]
theorem TIs.run_agg : (isAgg t).run P w = .ok i.u.agg w := by
  simp only [isAgg, Sem.run_bind, h.run_und w, Result.andThen_ok, h.u]
  cases d <;> simp [utOf, UT.agg]
end runs

theorem add_none (r x n : Nat) : (⟨r, x, none⟩ : Addr).add n = ⟨r, x + n, none⟩ := by
  unfold Addr.add; split <;> simp_all

theorem BR.cell {ρ : Env} {w : World} {l : Loc} {c : List EV} {t : TypeId} {z fz : Nat} {wr : Bool} (h : BR ρ w l (.cells c t z wr fz)) {i : Nat} {v : EV} (hi : c[i]? = some v) :
    ∃ v', w.cell? ⟨l.r, i + l.d, none⟩ = some v' ∧ VR ρ v v' := by
  obtain ⟨_, _, _, _, cs, fr, hh, _, h7, _⟩ := h
  obtain ⟨v', a, b⟩ := h7 i v hi
  exact ⟨v', by simp [World.cell?, hh, Nat.add_comm i, a], b⟩

/-- How a run of the model's stands to what is said. -/
def RunV (P : Program) (ρ : Env) (s : ES) (w : World) (m : Sem Value) (K : EV → ES → Prop) : Prop :=
  ∃ v v' s' ρ' w', m.run P w = .ok v' w' ∧ VR ρ' v v' ∧ Go1 ρ s w ρ' s' w' ∧ K v s'

theorem RunV.pure {P : Program} {ρ : Env} {s : ES} {w : World} {m : Sem Value} {K : EV → ES → Prop} {v : EV} {v' : Value} (hR : Rel ρ s w) (h : m.run P w = .ok v' w) (hv : VR ρ v v') (hK : K v s) : RunV P ρ s w m K :=
  ⟨v, v', s, ρ, w, h, hv, Go1.refl hR, hK⟩

/-! Loads. -/
def eLoad (i : TI) (x : EV) (s : ES) (K : EV → Prop) : Prop :=
  match x with
  | .ptr (some a) => match s.get a.b with
    | some (.cells c _ _ _ _) => if i.u.agg = true then a.o + i.size ≤ c.length ∧ K (.agg ((c.drop a.o).take i.size)) else match c[a.o]? with
      | some v => K v
      | none => False
    | _ => False
  | _ => False

theorem eLoad_sound {P : Program} {t : TypeId} {i : TI} (hi : tiOf P t = some i) {x : EV} {x' : Value} {s : ES} {K : EV → Prop} (h : eLoad i x s K) {ρ : Env} {w : World} (hR : Rel ρ s w) (hx : VR ρ x x') :
    ∃ v, K v ∧ ∃ v', VR ρ v v' ∧ (Instr.loadAt t x').run P w = .ok v' w ∧ ∃ a, x' = .pointer (some a) := by
  obtain ⟨inf, d, z, T⟩ := tiOf_some hi
  unfold eLoad at h
  split at h
  · rename_i a
    rw [VR] at hx
    obtain ⟨l, hl, rfl⟩ := hx
    split at h
    · rename_i c t' z' wr fz hg
      have hb := hR.live _ _ _ hg hl
      by_cases ha : i.u.agg = true
      · rw [if_pos ha] at h
        obtain ⟨hle, hK⟩ := h
        have hb' := hb
        obtain ⟨_, _, _, _, cs, fr, hh, hsz, h7, _⟩ := hb'
        have hcs : VRs ρ ((c.drop a.o).take i.size) ((cs.toList.drop (a.o + l.d)).take i.size) := by
          refine VRs.of_get ?_ fun j v hj => ?_
          · simp; omega
          · simp only [List.getElem?_take, List.getElem?_drop] at hj ⊢
            split at hj
            · obtain ⟨v', hv', hr⟩ := h7 _ v hj
              rename_i hlt
              refine ⟨v', ?_, hr⟩
              rw [if_pos hlt]
              rw [show a.o + l.d + j = l.d + (a.o + j) by omega]
              simpa using hv'
            · cases hj
        refine ⟨.agg ((c.drop a.o).take i.size), hK, .agg ((cs.toList.drop (a.o + l.d)).take i.size).toArray, ?_, ?_, _, rfl⟩
        rotate_left
        · simp only [Instr.loadAt, Instr.sureAddr, loadVar, Sem.run_bind, Sem.run_pure, Result.andThen_ok, T.run_agg w, ha, if_true, T.run_size w]
          have hlen : ((cs.toList.drop (a.o + l.d)).take i.size).length = i.size := by
            rw [hcs.length]; simp; omega
          have := run_loadCells_list (P := P) w ⟨l.r, a.o + l.d, none⟩ ((cs.toList.drop (a.o + l.d)).take i.size) (fun j v hj => by
            rw [add_none]
            simp only [List.getElem?_take, List.getElem?_drop] at hj
            split at hj
            · simp only [World.cell?, hh]; simpa using hj
            · cases hj)
          rw [hlen] at this
          rw [this]; rfl
        · rw [VR]; exact ⟨_, rfl, by simpa using hcs⟩
      · rw [if_neg ha] at h
        split at h
        · rename_i v hv
          obtain ⟨v', hc, hr⟩ := hb.cell hv
          refine ⟨v, h, v', hr, ?_, _, rfl⟩
          simp only [Instr.loadAt, Instr.sureAddr, loadVar, Sem.run_bind, Sem.run_pure, Result.andThen_ok, T.run_agg w, ha, if_false, Bool.false_eq_true]
          simp [hc]
        · exact h.elim
    · exact h.elim
  · exact h.elim

/-! Stores. -/
def putC (c : List EV) (o : Nat) (vs : List EV) : List EV :=
  match vs with
  | [v] => c.set o v
  | vs => c.take o ++ (vs ++ c.drop (o + vs.length))

def putL (c : List EV) (o : Nat) (vs : List EV) : List EV := c.take o ++ (vs ++ c.drop (o + vs.length))
theorem putL_get (c : List EV) (o : Nat) (vs : List EV) (h : o + vs.length ≤ c.length) (i : Nat) : (putL c o vs)[i]? = if o ≤ i ∧ i < o + vs.length then vs[i - o]? else c[i]? := by
  unfold putL
  simp only [List.getElem?_append, List.length_take, List.getElem?_take, List.getElem?_drop]
  rw [Nat.min_eq_left (by omega)]
  by_cases h1 : i < o
  · rw [if_pos h1, if_pos h1, if_neg (by omega)]
  · rw [if_neg h1]
    by_cases h2 : i < o + vs.length
    · rw [if_pos (by omega), if_pos (by omega)]
    · rw [if_neg (by omega), if_neg (by omega)]
      congr 1; omega
theorem putC_get (c : List EV) (o : Nat) (vs : List EV) (h : o + vs.length ≤ c.length) (i : Nat) : (putC c o vs)[i]? = if o ≤ i ∧ i < o + vs.length then vs[i - o]? else c[i]? := by
  rcases vs with _ | ⟨v, _ | ⟨u, r⟩⟩
  · exact putL_get c o [] h i
  · simp only [putC, List.length_cons, List.length_nil] at *
    rw [List.getElem?_set]
    by_cases hi : o = i
    · subst hi; simp; try omega
    · rw [if_neg hi, if_neg (by omega)]
  · exact putL_get c o (v :: u :: r) h i
theorem putC_length (c : List EV) (o : Nat) (vs : List EV) (h : o + vs.length ≤ c.length) : (putC c o vs).length = c.length := by
  rcases vs with _ | ⟨v, _ | ⟨u, r⟩⟩
  · simp [putC] at *; try omega
  · simp [putC]
  · simp [putC] at *; omega

def eStore (i : TI) (x v : EV) (s : ES) (K : EV → ES → Prop) : Prop :=
  match x with
  | .ptr (some a) => match s.get a.b with
    | some (.cells c t z true fz) => (v.known = true ∧ v.cells.length = i.size ∧ fz ≤ a.o ∧ a.o + i.size ≤ c.length) ∧ K undefE (s.set a.b (.cells (putC c a.o v.cells) t z true fz))
    | _ => False
  | _ => False

/-- Stores, cell by cell. -/
theorem run_store_row {P : Program} {r : Nat} {t : TypeId} {fr : Nat × Nat} {o0 : Nat} : ∀ (vs : List Value) (i : Nat) (cur : Array Value) (w : World), w.heap[r]? = some (.cells cur t fr) → o0 + i + vs.length ≤ cur.size →
    (∀ j, j < vs.length → free fr (o0 + i + j)) → (∀ v ∈ vs, v.oneCell' = true) →
    ∃ w' cs, (storeCells ⟨r, o0, none⟩ vs i).run P w = .ok () w' ∧ w'.heap[r]? = some (.cells cs t fr) ∧ cs.size = cur.size ∧ (∀ k, cs[k]? = if o0 + i ≤ k ∧ k < o0 + i + vs.length then vs[k - (o0 + i)]? else cur[k]?) ∧
      w'.os = w.os ∧ w'.tape = w.tape ∧ w'.output = w.output ∧ w'.heap.size = w.heap.size ∧ ∀ q, q ≠ r → w'.heap[q]? = w.heap[q]?
  | [], i, cur, w, hh, _, _, _ => ⟨w, cur, rfl, hh, rfl, fun k => by rw [if_neg (by simp)], rfl, rfl, rfl, rfl, fun _ _ => rfl⟩
  | v :: vs, i, cur, w, hh, hsz, hfr, hone => by
    have hlt : o0 + i < cur.size := by simp at hsz; omega
    have h1 := hone v (by simp)
    have hf : w.frozen? ⟨r, o0 + i, none⟩ = false := by
      have := hfr 0 (by simp)
      simp only [free, Nat.add_zero] at this
      simp only [World.frozen?, hh]
      simpa [Bool.and_eq_false_iff, Decidable.not_and_iff_not_or_not] using this
    have hc : w.cell? ⟨r, o0 + i, none⟩ = some cur[o0 + i] := by simp [World.cell?, hh, hlt]
    have hset : (w.setCell ⟨r, o0 + i, none⟩ v).heap[r]? = some (.cells (cur.setIfInBounds (o0 + i) v) t fr) := by
      simp [World.setCell, Array.getElem?_modify, hh]
    have hrun : (store ((⟨r, o0, none⟩ : Addr).add i) v).run P w = .ok () (w.setCell ⟨r, o0 + i, none⟩ v) := by
      rw [add_none]
      cases v <;> simp [Value.oneCell'] at h1 <;> simp [store, Sem.run, hc, hf]
    obtain ⟨w', cs, e1, e2, e3, e4, e5, e6, e7, e8, e9⟩ := run_store_row (P := P) (o0 := o0) vs (i + 1) _ _ hset (by simp at hsz ⊢; omega) (fun j hj => by have := hfr (j + 1) (by simpa using hj); rwa [show o0 + i + (j + 1) = o0 + (i + 1) + j by omega] at this) (fun x hx => hone x (by simp [hx]))
    refine ⟨w', cs, ?_, e2, by simpa using e3, fun k => ?_, by rw [e5]; rfl, by rw [e6]; rfl, by rw [e7]; rfl, by rw [e8]; simp, fun q hq => ?_⟩
    · rw [storeCells, Sem.run_bind, hrun, Result.andThen_ok]; exact e1
    · rw [e4]
      by_cases h2 : k = o0 + i
      · subst h2
        rw [if_neg (by omega), if_pos (by simp)]
        simp [hlt]
      · by_cases h3 : o0 + (i + 1) ≤ k ∧ k < o0 + (i + 1) + vs.length
        · rw [if_pos h3, if_pos (by simp; omega)]
          rw [show k - (o0 + i) = (k - (o0 + (i + 1))) + 1 by omega]
          simp
        · rw [if_neg h3, if_neg (by simp; omega), Array.getElem?_setIfInBounds_ne (by omega)]
    · rw [e9 q hq, RowKit.Below.heap_setCell _ _ _ _ hq]

theorem eStore_sound {P : Program} {t : TypeId} {i : TI} (hi : tiOf P t = some i) {x v : EV} {x' v' : Value} {s : ES} {K : EV → ES → Prop} (h : eStore i x v s K) {ρ : Env} {w : World} (hR : Rel ρ s w) (hx : VR ρ x x') (hv : VR ρ v v') :
    ∃ s' w', (Instr.storeAt t x' v').run P w = .ok () w' ∧ Go1 ρ s w ρ s' w' ∧ K undefE s' := by
  obtain ⟨inf, d, z, T⟩ := tiOf_some hi
  unfold eStore at h
  split at h
  · rename_i a
    rw [VR] at hx
    obtain ⟨l, hl, rfl⟩ := hx
    split at h
    · rename_i c t' z' fz hg
      obtain ⟨⟨hk, hlen, hfz, hle⟩, hK⟩ := h
      obtain ⟨hvs, hone⟩ := hv.cells hk
      have hvl : v'.cells.size = i.size := by have := hvs.length; simpa [hlen] using this
      have hb := hR.live _ _ _ hg hl
      obtain ⟨h1, h2, h3, h4, cs, fr, hh, hsz, h7, h8⟩ := hb
      have hcl : l.n = c.length := h1
      obtain ⟨w', cs', e1, e2, e3, e4, e5, e6, e7, e8, e9⟩ := run_store_row (P := P) (r := l.r) (t := t') (fr := fr) (o0 := a.o + l.d) v'.cells.toList 0 cs w hh (by simp [hvl]; omega)
        (fun j hj => by have hj' : j < i.size := by simpa [hvl] using hj
                        have := h8 rfl (a.o + j) (by omega) (by omega); rwa [show a.o + l.d + 0 + j = l.d + (a.o + j) by omega]) hone
      have hlenv : v.cells.length = i.size := hlen
      have hbr : BR ρ w' l (.cells (putC c a.o v.cells) t' z' true fz) := by
        refine ⟨by rw [putC_length _ _ _ (by omega)]; exact h1, h2, h3, h4, cs', fr, e2, by omega, fun j u hj => ?_, h8⟩
        rw [putC_get _ _ _ (by omega)] at hj
        rw [e4]
        by_cases hin : a.o ≤ j ∧ j < a.o + v.cells.length
        · rw [if_pos hin] at hj
          obtain ⟨u', hu', hr⟩ := hvs.get _ u hj
          refine ⟨u', ?_, hr⟩
          rw [if_pos (by simp [hvl]; omega), ← hu']
          congr 1; omega
        · rw [if_neg hin] at hj
          obtain ⟨u', hu', hr⟩ := h7 j u hj
          refine ⟨u', ?_, hr⟩
          rw [if_neg (by simp [hvl]; omega)]; exact hu'
      refine ⟨_, w', ?_, hR.turn a.b _ _ l hg hl rfl e5 e6 e7 e8 e9 hbr rfl, hK⟩
      simp only [Instr.storeAt, Instr.sureAddr, storeVar, Sem.run_bind, Sem.run_pure, Result.andThen_ok, T.run_size w, hvl, ne_eq, not_true_eq_false, if_false]
      exact e1
    · exact h.elim
  · exact h.elim

/-! New blocks. -/
def eNew (c : List EV) (t : TypeId) (s : ES) (K : EV → ES → Prop) : Prop := K (.ptr (some ⟨s.nx, 0⟩)) (s.new (.cells c t 0 true 0))

theorem Rel.newCells {ρ : Env} {s : ES} {w : World} (hR : Rel ρ s w) (c : List EV) (cs : Array Value) (t : TypeId) (hc : VRs ρ c cs.toList) :
    Go1 ρ s w (fun i => if i = s.nx then some ⟨w.heap.size, 0, c.length, c.length, 0⟩ else ρ i) (s.new (.cells c t 0 true 0)) (w.alloc (.cells cs t)) := by
  refine hR.new _ _ ⟨w.heap.size, 0, c.length, c.length, 0⟩ rfl ?_
  have hle : ρ.le (fun i => if i = s.nx then some ⟨w.heap.size, 0, c.length, c.length, 0⟩ else ρ i) := fun b l' hb => by
    by_cases hx : b = s.nx
    · rw [hR.fresh b (by omega)] at hb; cases hb
    · simp [hx, hb]
  refine ⟨rfl, rfl, fun _ => rfl, Nat.le_refl _, cs, (0, 0), ?_, ?_, fun i v hi => ?_, fun _ i _ _ => by simp [free]⟩
  · simp only [World.alloc, Array.getElem?_push, if_true]
  · have := hc.length; simp at this; simp; omega
  · obtain ⟨v', a, b⟩ := hc.get i v hi
    exact ⟨v', by simpa using a, b.mono hle⟩

theorem eNew_sound {P : Program} {c : List EV} {cs : Array Value} {t : TypeId} {s : ES} {K : EV → ES → Prop} (h : eNew c t s K) {ρ : Env} {w : World} (hR : Rel ρ s w) (hc : VRs ρ c cs.toList) (m : Sem Value)
    (hm : m.run P w = .ok (.pointer (some ⟨w.heap.size, 0, none⟩)) (w.alloc (.cells cs t))) : RunV P ρ s w m K := by
  refine ⟨_, _, _, _, _, hm, ?_, hR.newCells c cs t hc, h⟩
  rw [VR]; exact ⟨_, if_pos rfl, by simp⟩

theorem eAlloc_sound {P : Program} {t : TypeId} {i : TI} (hi : tiOf P t = some i) {s : ES} {K : EV → ES → Prop} (h : eNew i.zero t s K) {ρ : Env} {w : World} (hR : Rel ρ s w) :
    RunV P ρ s w (Instr.alloc t true (.tuple #[])) K := by
  obtain ⟨inf, d, z, T⟩ := tiOf_some hi
  refine eNew_sound (cs := z.cells) h hR (by rw [T.cells]; exact VRs.ofV _) _ ?_
  simp only [Instr.alloc, Sem.run_bind, T.run_zero w, Result.andThen_ok]
  simp [newVar, newRow, newObj, Sem.run]

def eBox (t : TypeId) (v : EV) (s : ES) (K : EV → ES → Prop) : Prop := v.known = true ∧ eNew v.cells t s K
theorem eBox_sound {P : Program} {t : TypeId} {v : EV} {v' : Value} {s : ES} {K : EV → ES → Prop} (h : eBox t v s K) {ρ : Env} {w : World} (hR : Rel ρ s w) (hv : VR ρ v v') :
    RunV P ρ s w (Instr.box t v') K := by
  refine eNew_sound (cs := v'.cells) h.2 hR (hv.cells h.1).1 _ ?_
  simp [Instr.box, newVar, newRow, newObj, Sem.run]

/-! Addresses. -/
def eFieldAddr (P : Program) (i : TI) (x : EV) (f : Nat) (s : ES) (K : EV → ES → Prop) : Prop :=
  match i.u, x with
  | .struct fs, .ptr (some a) => match fs[f]? with
    | some (off, ft) => match tiOf P ft with
      | some j => 0 < j.size ∧ K (.ptr (some ⟨a.b, a.o + off⟩)) s
      | none => False
    | none => False
  | _, _ => False
theorem eFieldAddr_sound {P : Program} {t : TypeId} {i : TI} (hi : tiOf P t = some i) {x : EV} {x' : Value} {f : Nat} {s : ES} {K : EV → ES → Prop} (h : eFieldAddr P i x f s K) {ρ : Env} {w : World} (hR : Rel ρ s w) (hx : VR ρ x x') :
    RunV P ρ s w (Instr.fieldAt t x' f) K := by
  obtain ⟨inf, d, z, T⟩ := tiOf_some hi
  unfold eFieldAddr at h
  split at h
  · rename_i fs a hu
    rw [VR] at hx
    obtain ⟨l, hl, rfl⟩ := hx
    split at h
    · rename_i off ft hf
      split at h
      · rename_i j hj
        obtain ⟨inf2, d2, z2, T2⟩ := tiOf_some hj
        obtain ⟨hs, hK⟩ := h
        rw [T.u] at hu
        cases d <;> simp [utOf] at hu
        rename_i fields
        subst hu
        simp only [List.getElem?_map] at hf
        cases hfd : fields.toList[f]? with
        | none => simp [hfd] at hf
        | some fd =>
          simp [hfd] at hf
          obtain ⟨rfl, rfl⟩ := hf
          have hfd' : fields[f]? = some fd := by simpa using hfd
          refine RunV.pure (v := .ptr (some ⟨a.b, a.o + fd.offset⟩)) (v' := .pointer (some ⟨l.r, a.o + l.d + fd.offset, none⟩)) hR ?_ ?_ hK
          · simp only [Instr.fieldAt, Sem.run_bind, T.run_und w, Result.andThen_ok, hfd', Instr.sureAddr, Sem.run_pure, fieldPlace, T2.run_size w]
            rw [if_neg (by omega)]
            simp [add_none]
          · rw [VR]; exact ⟨l, hl, by simp only [Value.pointer.injEq, Option.some.injEq, Addr.mk.injEq, true_and, and_true]; omega⟩
      · exact h.elim
    · exact h.elim
  · exact h.elim

def eIndexAddr (P : Program) (i : TI) (x ix : EV) (s : ES) (K : EV → ES → Prop) : Prop :=
  match ix with
  | .int _ n => match i.u, x with
    | .arr len e, .ptr (some a) => match tiOf P e with
      | some j => (0 ≤ n ∧ n < len) ∧ K (.ptr (some ⟨a.b, a.o + n.toNat * j.size⟩)) s
      | none => False
    | .slice e, .slice (some a) len _ => match tiOf P e with
      | some j => (0 ≤ n ∧ n < len) ∧ K (.ptr (some ⟨a.b, a.o + n.toNat * j.size⟩)) s
      | none => False
    | _, _ => False
  | _ => False

theorem CapOK.pos {l : Loc} {o c c' : Nat} (h : CapOK l o c c') (hc : 0 < c) : 0 < c' := by
  rcases h with rfl | ⟨_, _, h, _⟩ <;> omega

theorem eIndexAddr_sound {P : Program} {t : TypeId} {i : TI} (hi : tiOf P t = some i) {x ix : EV} {x' ix' : Value} {s : ES} {K : EV → ES → Prop} (h : eIndexAddr P i x ix s K) {ρ : Env} {w : World} (hR : Rel ρ s w) (hx : VR ρ x x') (hix : VR ρ ix ix') :
    RunV P ρ s w (Instr.indexAt t x' ix') K := by
  obtain ⟨inf, d, z, T⟩ := tiOf_some hi
  unfold eIndexAddr at h
  split at h
  · rename_i k n
    rw [VR] at hix; subst hix
    split at h
    · rename_i len e a hu
      rw [VR] at hx
      obtain ⟨l, hl, rfl⟩ := hx
      split at h
      · rename_i j hj
        obtain ⟨inf2, d2, z2, T2⟩ := tiOf_some hj
        obtain ⟨hb, hK⟩ := h
        have hd : d = .array len e := by rw [T.u] at hu; cases d <;> simp [utOf] at hu; obtain ⟨rfl, rfl⟩ := hu; rfl
        subst hd
        refine RunV.pure (v := .ptr (some ⟨a.b, a.o + n.toNat * j.size⟩)) (v' := .pointer (some ⟨l.r, a.o + l.d + n.toNat * j.size, none⟩)) hR ?_ ?_ hK
        · simp only [Instr.indexAt, Sem.run_bind, asIntOf, Sem.run_pure, T.run_und w, Result.andThen_ok, Instr.sureAddr, hb, and_self, if_true, T2.run_size w, add_none]
        · rw [VR]; exact ⟨l, hl, by simp only [Value.pointer.injEq, Option.some.injEq, Addr.mk.injEq, true_and, and_true]; omega⟩
      · exact h.elim
    · rename_i e a len cap hu
      rw [VR] at hx
      obtain ⟨l, c', o', hl, hcap, hlc, ho', rfl⟩ := hx
      split at h
      · rename_i j hj
        obtain ⟨inf2, d2, z2, T2⟩ := tiOf_some hj
        obtain ⟨hb, hK⟩ := h
        have hd : d = .slice e := by rw [T.u] at hu; cases d <;> simp [utOf] at hu; subst hu; rfl
        subst hd
        have ho : o' = a.o + l.d := by
          rcases ho' with h1 | h1
          · exact h1
          · have := hcap.pos (by omega); omega
        subst ho
        refine RunV.pure (v := .ptr (some ⟨a.b, a.o + n.toNat * j.size⟩)) (v' := .pointer (some ⟨l.r, a.o + l.d + n.toNat * j.size, none⟩)) hR ?_ ?_ hK
        · simp only [Instr.indexAt, Sem.run_bind, asIntOf, Sem.run_pure, T.run_und w, Result.andThen_ok, hb, and_self, if_true, T2.run_size w, add_none]
        · rw [VR]; exact ⟨l, hl, by simp only [Value.pointer.injEq, Option.some.injEq, Addr.mk.injEq, true_and, and_true]; omega⟩
      · exact h.elim
    · exact h.elim
  · exact h.elim

end Go.E
