/-
  The layer E, part D: composite values, tuples, lengths, conversions of numbers. Own work.
-/
import Derived.Test.YtafmlhflcnlalaaEvC
namespace Go.E
set_option linter.all false

/-! Composite values. -/
def fillE (place : Nat → Option (Nat × Nat)) : List EV → List (Nat × EV) → Option (List EV)
  | c, [] => some c
  | c, (i, v) :: r => match place i with
    | some (off, size) => if v.known = true ∧ v.cells.length = size ∧ off + size ≤ c.length then fillE place (putC c off v.cells) r else none
    | none => none

theorem foldl_set (off : Nat) : ∀ (vs : List Value) (j : Nat) (cs : Array Value), off + j + vs.length ≤ cs.size →
    ((vs.zipIdx j).foldl (fun cs (x : Value × Nat) => cs.setIfInBounds (off + x.2) x.1) cs).size = cs.size ∧
    ∀ k, ((vs.zipIdx j).foldl (fun cs (x : Value × Nat) => cs.setIfInBounds (off + x.2) x.1) cs)[k]? = if off + j ≤ k ∧ k < off + j + vs.length then vs[k - (off + j)]? else cs[k]?
  | [], j, cs, _ => by
    refine ⟨rfl, fun k => ?_⟩
    simp only [List.zipIdx_nil, List.foldl_nil, List.length_nil]
    rw [if_neg (by omega)]
  | v :: vs, j, cs, h => by
    simp only [List.zipIdx_cons, List.foldl_cons, List.length_cons] at *
    obtain ⟨h1, h2⟩ := foldl_set off vs (j + 1) (cs.setIfInBounds (off + j) v) (by simp; omega)
    refine ⟨by rw [h1]; simp, fun k => ?_⟩
    rw [h2]
    by_cases hk : k = off + j
    · subst hk
      rw [if_neg (by omega), if_pos (by omega)]
      simp [show off + j < cs.size by omega]
    · by_cases hin : off + (j + 1) ≤ k ∧ k < off + (j + 1) + vs.length
      · rw [if_pos hin, if_pos (by omega), show k - (off + j) = (k - (off + (j + 1))) + 1 by omega]
        simp
      · rw [if_neg hin, if_neg (by omega), Array.getElem?_setIfInBounds_ne (by omega)]

theorem fillE_sound {ρ : Env} {place : Nat → Option (Nat × Nat)} : ∀ (ps : List (Nat × EV)) (ps' : List (Nat × Value)) (c : List EV) (cs : Array Value) (c2 : List EV),
    ps'.length = ps.length → (∀ (k i : Nat) (v : EV), ps[k]? = some (i, v) → ∃ v', ps'[k]? = some (i, v') ∧ VR ρ v v') → VRs ρ c cs.toList → fillE place c ps = some c2 → ∃ cs2, Instr.fill place cs ps' = some cs2 ∧ VRs ρ c2 cs2.toList
  | [], ps', c, cs, c2, hl, _, hc, h => by
    simp at hl; subst hl
    simp only [fillE, Option.some.injEq] at h
    subst h
    exact ⟨cs, rfl, hc⟩
  | (i, v) :: ps, ps', c, cs, c2, hl, hp, hc, h => by
    cases ps' with
    | nil => simp at hl
    | cons x ps' =>
      obtain ⟨v', hx, hv⟩ := hp 0 i v (by simp)
      simp at hx; subst hx
      simp only [fillE] at h
      split at h
      · rename_i off size hpl
        split at h
        · rename_i hcond
          obtain ⟨hk, hsz, hle⟩ := hcond
          obtain ⟨hvs, _⟩ := hv.cells hk
          have hvl : v'.cells.size = size := by have := hvs.length; simpa [hsz] using this
          have hcl : cs.size = c.length := by have := hc.length; simpa using this
          obtain ⟨f1, f2⟩ := foldl_set off v'.cells.toList 0 cs (by simp; omega)
          have hnew : VRs ρ (putC c off v.cells) ((v'.cells.toList.zipIdx 0).foldl (fun cs (x : Value × Nat) => cs.setIfInBounds (off + x.2) x.1) cs).toList := by
            refine VRs.of_get ?_ fun k u hu => ?_
            · rw [putC_length _ _ _ (by omega)]; simpa [hcl] using f1
            · rw [putC_get _ _ _ (by omega)] at hu
              rw [Array.getElem?_toList, f2]
              by_cases hin : off ≤ k ∧ k < off + v.cells.length
              · rw [if_pos hin] at hu
                obtain ⟨u', hu', hr⟩ := hvs.get _ u hu
                exact ⟨u', by rw [if_pos (by simp [hvl]; omega)]; exact hu', hr⟩
              · rw [if_neg hin] at hu
                obtain ⟨u', hu', hr⟩ := hc.get _ u hu
                exact ⟨u', by rw [if_neg (by simp [hvl]; omega)]; simpa using hu', hr⟩
          obtain ⟨cs2, e1, e2⟩ := fillE_sound ps ps' _ _ c2 (by simpa using hl) (fun k i v hk => by have := hp (k + 1) i v (by simpa using hk); simpa using this) hnew h
          refine ⟨cs2, ?_, e2⟩
          simp only [Instr.fill, hpl, hvl]
          rw [if_neg (by simp; omega)]
          rw [← e1]
          congr 1
          rw [← Array.foldl_toList]
          simp [Array.toList_zipIdx]
        · cases h
      · cases h

def fieldPlaces (P : Program) (fs : List (Nat × Nat)) (i : Nat) : Option (Nat × Nat) :=
  match fs[i]? with
  | some (off, ft) => match tiOf P ft with
    | some j => some (off, j.size)
    | none => none
  | none => none
def allTi (P : Program) : List (Nat × Nat) → Prop
  | [] => True
  | (_, ft) :: r => (match tiOf P ft with | some _ => True | none => False) ∧ allTi P r

def ebuild (P : Program) (i : TI) (ps : List (Nat × EV)) (K : EV → Prop) : Prop :=
  match i.u with
  | .struct fs => allTi P fs ∧ match fillE (fieldPlaces P fs) i.zero ps with
    | some c => K (.agg c)
    | none => False
  | .arr _ e => match tiOf P e with
    | some j => match fillE (fun n => some (n * j.size, j.size)) i.zero ps with
      | some c => K (.agg c)
      | none => False
    | none => False
  | _ => False

theorem run_fields {P : Program} (w : World) : ∀ (fs : List Field), allTi P (fs.map fun f => (f.offset, f.type)) →
    (fs.mapM (m := Sem) fun f => do pure (f.offset, ← sizeOf f.type)).run P w = .ok (fs.map fun f => (f.offset, ((tiOf P f.type).map (·.size)).getD 0)) w
  | [], _ => rfl
  | f :: fs, h => by
    simp only [List.map_cons, allTi] at h
    obtain ⟨h1, h2⟩ := h
    split at h1
    · rename_i j hj
      obtain ⟨inf, d, z, T⟩ := tiOf_some hj
      have ih := run_fields w fs h2
      simp only [List.mapM_cons, Sem.run_bind, T.run_size w, Result.andThen_ok, Sem.run_pure] at ih ⊢
      rw [ih]
      simp [hj]
    · exact h1.elim

theorem allTi_get {P : Program} : ∀ {fs : List (Nat × Nat)} (_ : allTi P fs) {i : Nat} {off ft : Nat}, fs[i]? = some (off, ft) → ∃ j, tiOf P ft = some j
  | [], _, i, off, ft, h => by simp at h
  | (o, t) :: fs, ha, i, off, ft, h => by
    cases i with
    | zero =>
      simp at h
      obtain ⟨rfl, rfl⟩ := h
      have := ha.1
      split at this
      · exact ⟨_, by assumption⟩
      · exact this.elim
    | succ i => exact allTi_get ha.2 (by simpa using h)

theorem fill_congr {p q : Nat → Option (Nat × Nat)} (h : ∀ i, p i = q i) : ∀ (ps : List (Nat × Value)) (cs : Array Value), Instr.fill p cs ps = Instr.fill q cs ps := by
  have : p = q := funext h
  subst this; intros; rfl

theorem ebuild_sound {P : Program} {t : TypeId} {i : TI} (hi : tiOf P t = some i) {ps : List (Nat × EV)} {ps' : Array (Nat × Value)} {K : EV → Prop} (h : ebuild P i ps K) {ρ : Env}
    (hl : ps'.size = ps.length) (hp : ∀ (k n : Nat) (v : EV), ps[k]? = some (n, v) → ∃ v', ps'[k]? = some (n, v') ∧ VR ρ v v') (w : World) :
    ∃ v, K v ∧ ∃ v', VR ρ v v' ∧ (Instr.build t ps').run P w = .ok v' w := by
  obtain ⟨inf, d, z, T⟩ := tiOf_some hi
  have hz : VRs ρ i.zero z.cells.toList := by rw [T.cells]; exact VRs.ofV _
  unfold ebuild at h
  split at h
  · rename_i fs hu
    rw [T.u] at hu
    cases d <;> simp [utOf] at hu
    rename_i fields
    subst hu
    obtain ⟨ha, h⟩ := h
    split at h
    · rename_i c hf
      obtain ⟨cs, h1, h2⟩ := fillE_sound (ρ := ρ) ps ps'.toList _ z.cells c (by simpa using hl) (fun k n v hk => by simpa using hp k n v hk) hz hf
      refine ⟨_, h, .agg cs, by rw [VR]; exact ⟨cs, rfl, h2⟩, ?_⟩
      have hplace : (fieldPlaces P (fields.toList.map fun f => (f.offset, f.type))) = fun n => (((fields.toList.map fun f => (f.offset, ((tiOf P f.type).map (·.size)).getD 0))).toArray)[n]? := by
        funext n
        simp only [fieldPlaces, List.getElem?_map, List.getElem?_toArray]
        cases hfd : fields.toList[n]? with
        | none => simp
        | some f =>
          simp only [Option.map_some]
          obtain ⟨j, hj⟩ := allTi_get ha (i := n) (off := f.offset) (ft := f.type) (by simp only [List.getElem?_map, hfd, Option.map_some])
          simp [hj]
      rw [hplace] at h1
      simp only [Instr.build, Sem.run_bind, T.run_zero w, Result.andThen_ok, T.run_und w]
      have hm : (fields.mapM (m := Sem) fun f => do pure (f.offset, ← sizeOf f.type)).run P w = .ok (fields.toList.map fun f => (f.offset, ((tiOf P f.type).map (·.size)).getD 0)).toArray w := by
        rw [Array.mapM_eq_mapM_toList]
        simp only [Sem.run_map, run_fields w fields.toList ha, Result.andThen_ok]
      rw [hm]
      simp only [Result.andThen_ok]
      rw [h1]
      rfl
    · exact h.elim
  · rename_i n e hu
    have hd : d = .array n e := by rw [T.u] at hu; cases d <;> simp [utOf] at hu; obtain ⟨rfl, rfl⟩ := hu; rfl
    subst hd
    split at h
    · rename_i j hj
      obtain ⟨inf2, d2, z2, T2⟩ := tiOf_some hj
      split at h
      · rename_i c hf
        obtain ⟨cs, h1, h2⟩ := fillE_sound (ρ := ρ) ps ps'.toList _ z.cells c (by simpa using hl) (fun k n v hk => by simpa using hp k n v hk) hz hf
        refine ⟨_, h, .agg cs, by rw [VR]; exact ⟨cs, rfl, h2⟩, ?_⟩
        simp only [Instr.build, Sem.run_bind, T.run_zero w, Result.andThen_ok, T.run_und w, T2.run_size w]
        rw [h1]
        rfl
      · exact h.elim
    · exact h.elim
  · exact h.elim

/-- A slice's literal. -/
def zerosE : List EV → Nat → List EV
  | _, 0 => []
  | z, n + 1 => z ++ zerosE z n
theorem zerosE_length (z : List EV) (n : Nat) : (zerosE z n).length = n * z.length := by
  induction n with
  | zero => simp [zerosE]
  | succ n ih => simp [zerosE, ih, Nat.add_mul, Nat.add_comm]
theorem zerosE_get (z : List EV) : ∀ (n i : Nat), i < n * z.length → (zerosE z n)[i]? = z[i % z.length]?
  | 0, i, h => by simp at h
  | n + 1, i, h => by
    rw [zerosE, List.getElem?_append]
    by_cases hi : i < z.length
    · rw [if_pos hi, Nat.mod_eq_of_lt hi]
    · rw [Nat.add_mul, Nat.one_mul] at h
      rw [if_neg hi, zerosE_get z n (i - z.length) (by omega)]
      conv => rhs; rw [Nat.mod_eq_sub_mod (by omega)]

def ebuildSlice (P : Program) (i : TI) (len : Nat) (ps : List (Nat × EV)) (s : ES) (K : EV → ES → Prop) : Prop :=
  match i.u with
  | .slice e => match tiOf P e with
    | some j => (j.zero.length = j.size ∧ len * j.size ≤ 16777216) ∧ match fillE (fun n => some (n * j.size, j.size)) (zerosE j.zero len) ps with
      | some c => K (.slice (some ⟨s.nx, 0⟩) len len) (s.new (.cells c e 0 true 0))
      | none => False
    | none => False
  | _ => False

theorem zeros_VRs {ρ : Env} {z : List EV} {zs : Array Value} (h : VRs ρ z zs.toList) (n m : Nat) (hm : m = n * z.length) :
    VRs ρ (zerosE z n) ((Array.range m).map (zs[· % zs.size]!)).toList := by
  subst hm
  have hl : zs.size = z.length := by have := h.length; simpa using this
  refine VRs.of_get (by simp [zerosE_length]) fun i v hi => ?_
  have hlt : i < n * z.length := by
    have := (List.getElem?_eq_some_iff.1 hi).1
    rwa [zerosE_length] at this
  rw [zerosE_get z n i hlt] at hi
  obtain ⟨v', h1, h2⟩ := h.get _ v hi
  refine ⟨v', ?_, h2⟩
  have hpos : 0 < z.length := by
    rcases Nat.eq_zero_or_pos z.length with h0 | h0
    · rw [h0] at hlt; simp at hlt
    · exact h0
  have hmod : i % zs.size < zs.size := Nat.mod_lt _ (by omega)
  have h1' : zs[i % zs.size]? = some v' := by rw [hl]; simpa using h1
  have hval : zs[i % zs.size]! = v' := by
    rw [getElem!_pos zs (i % zs.size) hmod]
    have := getElem?_pos zs (i % zs.size) hmod
    rw [this] at h1'
    exact Option.some.inj h1'
  simp only [Array.getElem?_toList, Array.getElem?_map, Array.getElem?_range, hlt]
  simp [hval]

theorem ebuildSlice_sound {P : Program} {t : TypeId} {i : TI} (hi : tiOf P t = some i) {len : Nat} {ps : List (Nat × EV)} {ps' : Array (Nat × Value)} {s : ES} {K : EV → ES → Prop} (h : ebuildSlice P i len ps s K) {ρ : Env} {w : World} (hR : Rel ρ s w)
    (hl : ps'.size = ps.length) (hp : ∀ (k n : Nat) (v : EV), ps[k]? = some (n, v) → ∃ v', ps'[k]? = some (n, v') ∧ VR ρ v v') : RunV P ρ s w (Instr.buildSlice t len ps') K := by
  obtain ⟨inf, d, z, T⟩ := tiOf_some hi
  unfold ebuildSlice at h
  split at h
  · rename_i e hu
    have hd : d = .slice e := by rw [T.u] at hu; cases d <;> simp [utOf] at hu; subst hu; rfl
    subst hd
    split at h
    · rename_i j hj
      obtain ⟨inf2, d2, z2, T2⟩ := tiOf_some hj
      obtain ⟨⟨hzl, hle⟩, h⟩ := h
      split at h
      · rename_i c hf
        have hz : VRs ρ j.zero z2.cells.toList := by rw [T2.cells]; exact VRs.ofV _
        have hzero : VRs ρ (zerosE j.zero len) ((Array.range (len * j.size)).map ((if len * j.size = 0 then #[] else z2.cells)[· % (if len * j.size = 0 then #[] else z2.cells).size]!)).toList := by
          by_cases h0 : len * j.size = 0
          · have : zerosE j.zero len = [] := by
              apply List.eq_nil_of_length_eq_zero; rw [zerosE_length, hzl]; exact h0
            rw [this, h0]; simp [VRs]
          · simp only [h0, if_false]
            exact zeros_VRs hz len _ (by rw [hzl])
        obtain ⟨cs, h1, h2⟩ := fillE_sound (ρ := ρ) ps ps'.toList _ _ c (by simpa using hl) (fun k n v hk => by simpa using hp k n v hk) hzero hf
        refine ⟨_, .slice (some ⟨w.heap.size, 0, none⟩) len len, _, _, _, ?_, ?_, hR.newCells c cs e h2, h⟩
        · simp only [Instr.buildSlice, Sem.run_bind, T.run_und w, Result.andThen_ok, T2.run_size w]
          rw [if_neg (by omega)]
          by_cases h0 : len * j.size = 0
          · simp only [h0, if_true] at h1 ⊢
            rw [pure_bind]
            simp only [h1]
            simp [newRow, newObj, Sem.run]
          · simp only [h0, if_false] at h1 ⊢
            simp only [Sem.run_bind, T2.run_zero w, Sem.run_pure, Result.andThen_ok, h1]
            simp [newRow, newObj, Sem.run]
        · rw [VR]
          exact ⟨_, len, 0, if_pos rfl, .inl rfl, Nat.le_refl _, .inl rfl, rfl⟩
      · exact h.elim
    · exact h.elim
  · exact h.elim

/-! Parts of values. -/
def eextract (x : EV) (n : Nat) (K : EV → Prop) : Prop :=
  match x with
  | .tuple vs => match vs[n]? with
    | some v => K v
    | none => False
  | _ => False
theorem eextract_sound {P : Program} {x : EV} {x' : Value} {n : Nat} {K : EV → Prop} (h : eextract x n K) {ρ : Env} (hx : VR ρ x x') (w : World) :
    ∃ v, K v ∧ ∃ v', VR ρ v v' ∧ (Instr.extract x' n).run P w = .ok v' w := by
  unfold eextract at h
  split at h
  · rw [VR] at hx
    obtain ⟨cs, rfl, hc⟩ := hx
    split at h
    · rename_i v hv
      obtain ⟨v', a, b⟩ := hc.get _ v hv
      refine ⟨v, h, v', b, ?_⟩
      have : cs[n]? = some v' := by simpa using a
      simp [Instr.extract, this]
    · exact h.elim
  · exact h.elim

def epart (j : TI) (cs : List EV) (off : Nat) (K : EV → Prop) : Prop :=
  if j.u.agg = true then off + j.size ≤ cs.length ∧ K (.agg ((cs.drop off).take j.size)) else match cs[off]? with
    | some v => K v
    | none => False
theorem epart_sound {P : Program} {t : TypeId} {j : TI} (hj : tiOf P t = some j) {cs : List EV} {cs' : Array Value} {off : Nat} {K : EV → Prop} (h : epart j cs off K) {ρ : Env} (hc : VRs ρ cs cs'.toList) (w : World) :
    ∃ v, K v ∧ ∃ v', VR ρ v v' ∧ (part t cs' off).run P w = .ok v' w := by
  obtain ⟨inf, d, z, T⟩ := tiOf_some hj
  unfold epart at h
  by_cases ha : j.u.agg = true
  · rw [if_pos ha] at h
    refine ⟨_, h.2, .agg (cs'.extract off (off + j.size)), ?_, ?_⟩
    · rw [VR]
      refine ⟨_, rfl, ?_⟩
      have := (hc.drop off).take j.size
      rwa [show (cs'.extract off (off + j.size)).toList = (cs'.toList.drop off).take j.size by simp [List.extract_eq_take_drop]]
    · simp [part, T.run_agg w, ha, T.run_size w]
  · rw [if_neg ha] at h
    split at h
    · rename_i v hv
      obtain ⟨v', a, b⟩ := hc.get _ v hv
      have a' : cs'[off]? = some v' := by simpa using a
      exact ⟨v, h, v', b, by simp [part, T.run_agg w, ha, a']⟩
    · exact h.elim

def efield (P : Program) (i : TI) (x : EV) (f : Nat) (K : EV → Prop) : Prop :=
  match i.u, x with
  | .struct fs, .agg cs => match fs[f]? with
    | some (off, ft) => match tiOf P ft with
      | some j => epart j cs off K
      | none => False
    | none => False
  | _, _ => False
theorem efield_sound {P : Program} {t : TypeId} {i : TI} (hi : tiOf P t = some i) {x : EV} {x' : Value} {f : Nat} {K : EV → Prop} (h : efield P i x f K) {ρ : Env} (hx : VR ρ x x') (w : World) :
    ∃ v, K v ∧ ∃ v', VR ρ v v' ∧ (Instr.field t x' f).run P w = .ok v' w := by
  obtain ⟨inf, d, z, T⟩ := tiOf_some hi
  unfold efield at h
  split at h
  · rename_i fs cs hu
    rw [T.u] at hu
    cases d <;> simp [utOf] at hu
    rename_i fields
    subst hu
    rw [VR] at hx
    obtain ⟨cs', rfl, hc⟩ := hx
    split at h
    · rename_i off ft hf
      simp only [List.getElem?_map] at hf
      cases hfd : fields.toList[f]? with
      | none => simp [hfd] at hf
      | some fd =>
        simp [hfd] at hf
        obtain ⟨rfl, rfl⟩ := hf
        have hfd' : fields[f]? = some fd := by simpa using hfd
        split at h
        · rename_i j hj
          obtain ⟨v, hK, v', hv, hrun⟩ := epart_sound hj h hc w
          refine ⟨v, hK, v', hv, ?_⟩
          simp only [Instr.field, Sem.run_bind, T.run_und w, Result.andThen_ok, hfd', asAgg, Sem.run_pure, hrun]
        · exact h.elim
    · exact h.elim
  · exact h.elim

def eindex (P : Program) (i : TI) (x ix : EV) (K : EV → Prop) : Prop :=
  match i.u, x, ix with
  | .str, .str s, .int _ n => eIndexS s n K
  | .arr len e, .agg cs, .int _ n => match tiOf P e with
    | some j => (0 ≤ n ∧ n < len) ∧ epart j cs (n.toNat * j.size) K
    | none => False
  | _, _, _ => False
theorem eindex_sound {P : Program} {t : TypeId} {i : TI} (hi : tiOf P t = some i) {x ix : EV} {x' ix' : Value} {K : EV → Prop} (h : eindex P i x ix K) {ρ : Env} (hx : VR ρ x x') (hix : VR ρ ix ix') (w : World) :
    ∃ v, K v ∧ ∃ v', VR ρ v v' ∧ (Instr.index t x' ix').run P w = .ok v' w := by
  unfold eindex at h
  split at h
  · rename_i s k n hu
    rw [VR] at hx; rw [VR] at hix; subst hx; subst hix
    obtain ⟨v, a, v', b, c⟩ := eIndexS_sound hi hu h w
    exact ⟨v, a, v', b ρ, c⟩
  · rename_i len e cs k n hu
    obtain ⟨inf, d, z, T⟩ := tiOf_some hi
    have hd : d = .array len e := by rw [T.u] at hu; cases d <;> simp [utOf] at hu; obtain ⟨rfl, rfl⟩ := hu; rfl
    subst hd
    rw [VR] at hx; rw [VR] at hix; subst hix
    obtain ⟨cs', rfl, hc⟩ := hx
    split at h
    · rename_i j hj
      obtain ⟨inf2, d2, z2, T2⟩ := tiOf_some hj
      obtain ⟨hb, h⟩ := h
      obtain ⟨v, a, v', b, c⟩ := epart_sound hj h hc w
      refine ⟨v, a, v', b, ?_⟩
      simp only [Instr.index, Sem.run_bind, asIntOf, Sem.run_pure, Result.andThen_ok, T.run_und w, hb, and_self, if_true, T2.run_size w, c]
    · exact h.elim
  · exact h.elim

/-! Builtins that only reckon. -/
def elen (i : TI) (x : EV) (s : ES) (K : EV → Prop) : Prop :=
  match i.u, x with
  | .str, .str t => K (.int .i64 t.length)
  | .arr n _, _ => K (.int .i64 n)
  | .slice _, .slice _ n _ => K (.int .i64 n)
  | .map _ _, .map none => K (.int .i64 0)
  | .map _ _, .map (some r) => match s.get r with
    | some (.map es) => K (.int .i64 es.length)
    | _ => False
  | _, _ => False
theorem elen_sound {P : Program} {t : TypeId} {i : TI} (hi : tiOf P t = some i) {x : EV} {x' : Value} {s : ES} {K : EV → Prop} (h : elen i x s K) {ρ : Env} {w : World} (hR : Rel ρ s w) (hx : VR ρ x x') (ts : Array TypeId) (ht : ts[0]? = some t) (ty : TypeId) (xs : Array Value) (hxs : xs[0]? = some x') :
    ∃ v, K v ∧ ∃ v', VR ρ v v' ∧ (Builtin.len_ ts ty xs).run P w = .ok v' w := by
  obtain ⟨inf, d, z, T⟩ := tiOf_some hi
  unfold elen at h
  split at h
  · rename_i t0 hu
    have hd : d = .string := by rw [T.u] at hu; cases d <;> simp [utOf] at hu; rfl
    subst hd
    rw [VR] at hx; subst hx
    refine ⟨_, h, _, by rw [VR], ?_⟩
    simp only [Builtin.len_, ht, hxs, Sem.run_bind, T.run_und w, Result.andThen_ok, Sem.run_pure, size_mk]; rfl
  · rename_i n e hu
    have hd : d = .array n e := by rw [T.u] at hu; cases d <;> simp [utOf] at hu; obtain ⟨rfl, rfl⟩ := hu; rfl
    subst hd
    refine ⟨_, h, _, by rw [VR], ?_⟩
    simp only [Builtin.len_, ht, hxs, Sem.run_bind, T.run_und w, Result.andThen_ok]; rfl
  · rename_i e a n c hu
    have hd : d = .slice e := by rw [T.u] at hu; cases d <;> simp [utOf] at hu; subst hu; rfl
    subst hd
    cases a with
    | none =>
      rw [VR] at hx; obtain ⟨rfl, rfl, rfl⟩ := hx
      refine ⟨_, h, _, by rw [VR], ?_⟩
      simp only [Builtin.len_, ht, hxs, Sem.run_bind, T.run_und w, Result.andThen_ok]; rfl
    | some a =>
      rw [VR] at hx; obtain ⟨l, c', o', _, _, _, _, rfl⟩ := hx
      refine ⟨_, h, _, by rw [VR], ?_⟩
      simp only [Builtin.len_, ht, hxs, Sem.run_bind, T.run_und w, Result.andThen_ok]; rfl
  · rename_i k e hu
    have hd : d = .map k e := by rw [T.u] at hu; cases d <;> simp [utOf] at hu; obtain ⟨rfl, rfl⟩ := hu; rfl
    subst hd
    rw [VR] at hx; subst hx
    refine ⟨_, h, _, by rw [VR], ?_⟩
    simp only [Builtin.len_, ht, hxs, Sem.run_bind, T.run_und w, Result.andThen_ok]; rfl
  · rename_i k e r hu
    have hd : d = .map k e := by rw [T.u] at hu; cases d <;> simp [utOf] at hu; obtain ⟨rfl, rfl⟩ := hu; rfl
    subst hd
    rw [VR] at hx; obtain ⟨l, hl, rfl⟩ := hx
    split at h
    · rename_i es hg
      obtain ⟨es', cl, h1, h2, h3⟩ := hR.live _ _ _ hg hl
      refine ⟨_, h, _, by rw [VR], ?_⟩
      simp only [Builtin.len_, ht, hxs, Sem.run_bind, T.run_und w, Result.andThen_ok, getObj, Sem.run, h1, h2]; rfl
    · exact h.elim
  · exact h.elim

def minI (a b : Int) : Int := if b < a then b else a
def maxI (a b : Int) : Int := if a < b then b else a
def eminmax (f : Int → Int → Int) : EV → List EV → (EV → Prop) → Prop
  | x, [], K => K x
  | .int k a, .int k' b :: r, K => k = k' ∧ eminmax f (.int k (f a b)) r K
  | _, _ :: _, _ => False

theorem emin_sound {P : Program} : ∀ {x : EV} {xs : List EV} {x' : Value} {xs' : List Value} {K : EV → Prop} (_ : eminmax minI x xs K) {ρ : Env} (_ : VR ρ x x') (_ : VRs ρ xs xs') (w : World),
    ∃ v, K v ∧ ∃ v', VR ρ v v' ∧ (xs'.foldlM Builtin.min2 x').run P w = .ok v' w
  | x, [], x', xs', K, h, ρ, hx, hxs, w => by
    rw [VRs] at hxs; subst hxs
    exact ⟨x, h, x', hx, rfl⟩
  | .int k a, .int k' b :: r, x', xs', K, h, ρ, hx, hxs, w => by
    simp only [eminmax] at h
    obtain ⟨rfl, h⟩ := h
    rw [VRs] at hxs
    obtain ⟨y', l', rfl, hy, hl⟩ := hxs
    rw [VR] at hx hy; subst hx; subst hy
    obtain ⟨v, h1, v', h2, h3⟩ := emin_sound (P := P) h (x' := .int k (minI a b)) (by rw [VR]) hl w
    refine ⟨v, h1, v', h2, ?_⟩
    simp only [List.foldlM_cons, Sem.run_bind, Builtin.min2, Sem.run_pure, Result.andThen_ok]
    exact h3

theorem emax_sound {P : Program} : ∀ {x : EV} {xs : List EV} {x' : Value} {xs' : List Value} {K : EV → Prop} (_ : eminmax maxI x xs K) {ρ : Env} (_ : VR ρ x x') (_ : VRs ρ xs xs') (w : World),
    ∃ v, K v ∧ ∃ v', VR ρ v v' ∧ (xs'.foldlM Builtin.max2 x').run P w = .ok v' w
  | x, [], x', xs', K, h, ρ, hx, hxs, w => by
    rw [VRs] at hxs; subst hxs
    exact ⟨x, h, x', hx, rfl⟩
  | .int k a, .int k' b :: r, x', xs', K, h, ρ, hx, hxs, w => by
    simp only [eminmax] at h
    obtain ⟨rfl, h⟩ := h
    rw [VRs] at hxs
    obtain ⟨y', l', rfl, hy, hl⟩ := hxs
    rw [VR] at hx hy; subst hx; subst hy
    obtain ⟨v, h1, v', h2, h3⟩ := emax_sound (P := P) h (x' := .int k (maxI a b)) (by rw [VR]) hl w
    refine ⟨v, h1, v', h2, ?_⟩
    simp only [List.foldlM_cons, Sem.run_bind, Builtin.max2, Sem.run_pure, Result.andThen_ok]
    exact h3

end Go.E
