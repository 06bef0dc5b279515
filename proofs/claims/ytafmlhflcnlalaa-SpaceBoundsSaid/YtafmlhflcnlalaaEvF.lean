/-
  The layer E, part F: names that are dropped; lists of operations, code, functions. Own work.
-/
import Derived.Test.YtafmlhflcnlalaaEvE
namespace Go.E
set_option linter.all false

/-! Names that are dropped. -/
mutual
def EV.bel (k : Nat) : EV → Prop
  | .ptr (some a) => a.b < k
  | .slice (some a) _ _ => a.b < k
  | .map (some r) => r < k
  | .fn _ as bs => allBelow k as ∧ allBelow k bs
  | .iface _ v => EV.bel k v
  | .agg cs => allBelow k cs
  | .tuple cs => allBelow k cs
  | _ => True
def allBelow (k : Nat) : List EV → Prop
  | [] => True
  | v :: vs => EV.bel k v ∧ allBelow k vs
end
def pairsBelow (k : Nat) : List (EV × EV) → Prop
  | [] => True
  | (x, y) :: r => x.bel k ∧ y.bel k ∧ pairsBelow k r
def EO.bel (k : Nat) : EO → Prop
  | .cells c _ _ _ _ => allBelow k c
  | .map es => pairsBelow k es
  | .sIter _ _ => True
def blBelow (k : Nat) : List (Nat × EO) → Prop
  | [] => True
  | (b, o) :: r => b < k ∧ o.bel k ∧ blBelow k r

def Env.cut (ρ : Env) (k : Nat) : Env := fun i => if i < k then ρ i else none
theorem Env.cut_lt {ρ : Env} {k i : Nat} (h : i < k) : ρ.cut k i = ρ i := if_pos h

mutual
theorem VR.cut {ρ : Env} {k : Nat} : ∀ (v : EV) (v' : Value), VR ρ v v' → v.bel k → VR (ρ.cut k) v v'
  | .unk, _, _, _ => by simp [VR]
  | .bool _, _, x, _ => by simpa [VR] using x
  | .int _ _, _, x, _ => by simpa [VR] using x
  | .str _, _, x, _ => by simpa [VR] using x
  | .ptr none, _, x, _ => by simpa [VR] using x
  | .ptr (some a), _, x, h => by
    simp only [EV.bel] at h
    simp only [VR] at x ⊢
    rw [Env.cut_lt h]; exact x
  | .slice none _ _, _, x, _ => by simpa [VR] using x
  | .slice (some a) _ _, _, x, h => by
    simp only [EV.bel] at h
    simp only [VR] at x ⊢
    rw [Env.cut_lt h]; exact x
  | .map none, _, x, _ => by simpa [VR] using x
  | .map (some r), _, x, h => by
    simp only [EV.bel] at h
    simp only [VR] at x ⊢
    rw [Env.cut_lt h]; exact x
  | .fn _ as bs, _, x, h => by
    simp only [EV.bel] at h
    simp only [VR] at x ⊢
    obtain ⟨as', bs', a, b, c⟩ := x
    exact ⟨as', bs', a, VRs.cut as _ b h.1, VRs.cut bs _ c h.2⟩
  | .nilFn, _, x, _ => by simpa [VR] using x
  | .iface _ y, _, x, h => by
    simp only [EV.bel] at h
    simp only [VR] at x ⊢
    obtain ⟨z, a, b⟩ := x
    exact ⟨z, a, VR.cut y z b h⟩
  | .nilIface, _, x, _ => by simpa [VR] using x
  | .agg cs, _, x, h => by
    simp only [EV.bel] at h
    simp only [VR] at x ⊢
    obtain ⟨cs', a, b⟩ := x
    exact ⟨cs', a, VRs.cut cs _ b h⟩
  | .tuple cs, _, x, h => by
    simp only [EV.bel] at h
    simp only [VR] at x ⊢
    obtain ⟨cs', a, b⟩ := x
    exact ⟨cs', a, VRs.cut cs _ b h⟩
theorem VRs.cut {ρ : Env} {k : Nat} : ∀ (v : List EV) (v' : List Value), VRs ρ v v' → allBelow k v → VRs (ρ.cut k) v v'
  | [], _, x, _ => by simpa [VRs] using x
  | v :: vs, _, x, h => by
    simp only [allBelow] at h
    simp only [VRs] at x ⊢
    obtain ⟨v', l', a, b, c⟩ := x
    exact ⟨v', l', a, VR.cut v v' b h.1, VRs.cut vs l' c h.2⟩
end

theorem allBelow_get {k : Nat} : ∀ {l : List EV} (_ : allBelow k l) {i : Nat} {v : EV}, l[i]? = some v → v.bel k
  | [], _, i, v, h => by simp at h
  | x :: l, ha, i, v, h => by
    simp only [allBelow] at ha
    cases i with
    | zero => simp at h; subst h; exact ha.1
    | succ i => exact allBelow_get ha.2 (by simpa using h)
theorem allBelow_of {k : Nat} : ∀ {l : List EV}, (∀ v ∈ l, v.bel k) → allBelow k l
  | [], _ => by simp [allBelow]
  | x :: l, h => by simp only [allBelow]; exact ⟨h x (by simp), allBelow_of fun v hv => h v (by simp [hv])⟩
theorem pairsBelow_get {k : Nat} : ∀ {l : List (EV × EV)} (_ : pairsBelow k l) {i : Nat} {x y : EV}, l[i]? = some (x, y) → x.bel k ∧ y.bel k
  | [], _, i, x, y, h => by simp at h
  | (a, b) :: l, ha, i, x, y, h => by
    simp only [pairsBelow] at ha
    cases i with
    | zero => simp at h; obtain ⟨rfl, rfl⟩ := h; exact ⟨ha.1, ha.2.1⟩
    | succ i => exact pairsBelow_get ha.2.2 (by simpa using h)
theorem blBelow_lkp {k : Nat} : ∀ {l : List (Nat × EO)} (_ : blBelow k l) {b : Nat} {o : EO}, lkp l b = some o → b < k ∧ o.bel k
  | [], _, b, o, h => by simp [lkp] at h
  | (c, x) :: l, ha, b, o, h => by
    simp only [blBelow] at ha
    simp only [lkp] at h
    split at h
    · rename_i hc; subst hc; cases h; exact ⟨ha.1, ha.2.1⟩
    · exact blBelow_lkp ha.2.2 h

theorem BR.cut {ρ : Env} {w : World} {l : Loc} {o : EO} {k : Nat} (h : BR ρ w l o) (hb : o.bel k) : BR (ρ.cut k) w l o := by
  cases o with
  | cells c t z wr fz =>
    obtain ⟨h1, h2, h3, h4, cs, fr, h5, h6, h7, h8⟩ := h
    exact ⟨h1, h2, h3, h4, cs, fr, h5, h6, fun i v hi => let ⟨v', a, b⟩ := h7 i v hi; ⟨v', a, b.cut _ _ (allBelow_get hb hi)⟩, h8⟩
  | map es =>
    obtain ⟨es', cl, h1, h2, h3⟩ := h
    exact ⟨es', cl, h1, h2, fun i k v hi => let ⟨e, a, b, c⟩ := h3 i k v hi; ⟨e, a, b.cut _ _ (pairsBelow_get hb hi).1, c.cut _ _ (pairsBelow_get hb hi).2⟩⟩
  | sIter s p => exact h

/-- A state that says less, and knows fewer names. -/
def Less (s0 s : ES) : Prop := (∀ b o, s0.get b = some o → s.get b = some o) ∧ blBelow s0.nx s0.bl

theorem Go1.less {ρ ρ' : Env} {s s' : ES} {w w' : World} (h : Go1 ρ s w ρ' s' w') (s0 : ES) (hl : Less s0 s') (hnx : s.nx ≤ s0.nx) : Go1 ρ s w (ρ'.cut s0.nx) s0 w' := by
  have hc : ∀ b l, ρ'.cut s0.nx b = some l → b < s0.nx ∧ ρ' b = some l := by
    intro b l hb
    unfold Env.cut at hb
    split at hb
    · exact ⟨by assumption, hb⟩
    · cases hb
  refine ⟨⟨?_, ?_, ?_⟩, fun i hi => ?_, hnx, h.was, fun b hb hn => ?_, h.step, ?_⟩
  · intro b o l hg hr
    exact (h.rel.live b o l (hl.1 b o hg) (hc b l hr).2).cut (blBelow_lkp hl.2 (ES.get_lt hg).2).2
  · intro i hi; exact if_neg (by omega)
  · intro b b' o o' l l' hg hg' hr hr' hne hw
    exact h.rel.sep b b' o o' l l' (hl.1 b o hg) (hl.1 b' o' hg') (hc b l hr).2 (hc b' l' hr').2 hne hw
  · rw [Env.cut_lt (by omega)]; exact h.old i hi
  · cases hx : s0.get b with
    | none => rfl
    | some o =>
      have := h.gone b hb hn
      rw [hl.1 b o hx] at this
      cases this
  · intro b o l hg hr
    exact h.src b o l (hl.1 b o hg) (hc b l hr).2

/-! Lists of operations. -/
def KO (o : Oper) (fr : Fr) (next : Fr → ES → Prop) : EV → ES → Prop := fun v s => okDst fr.n o.dst ∧ next (fr.putO o.dst v) s
def KP (Q : X → Fr → ES → Prop) (fr : Fr) : EV → ES → Prop := fun v s => Q (.pan v) fr s
def guardT (L : List Oper) (j : Nat) : Option Tmp := match L[j]? with | some o => o.dst | none => none

/-- Two ways that wait. -/
def opRun (P : Program) (o : Oper) (fr : Fr) (s : ES) (next : Fr → ES → Prop) (Q : X → Fr → ES → Prop) : Prop := eop P o.op fr s (KO o fr next) (KP Q fr)
def opSkip (o : Oper) (fr : Fr) (s : ES) (next : Fr → ES → Prop) : Prop := okDst fr.n o.dst ∧ next (fr.putO o.dst undefE) s
def eops (P : Program) (L : List Oper) (Q : X → Fr → ES → Prop) : List Oper → Fr → ES → Prop
  | [], fr, s => Q .normal fr s
  | o :: rest, fr, s => match o.guard with
    | none => eop P o.op fr s (KO o fr (eops P L Q rest)) (KP Q fr)
    | some (j, want) => match guardT L j with
      | none => False
      | some t => match fr.lk t with
        | .bool b => gsel b want (opRun P o (fr.put t (.bool want)) s (eops P L Q rest) Q) (opSkip o (fr.put t (.bool !want)) s (eops P L Q rest))
        | .tuple [] => okDst fr.n o.dst ∧ eops P L Q rest (fr.putO o.dst undefE) s
        | _ => False

theorem wideR_fn (r : Option Nat) (f : FuncId) : (wideR r).fn f := trivial

theorem FR.same {ρ : Env} {fr : Fr} {a : Act} (h : FR ρ fr a) (t : Nat) (v : EV) (hv : VR ρ v (a.tmps.getD t undef)) : FR ρ (fr.put t v) a := by
  refine ⟨h.defers, h.size, fun u => ?_⟩
  simp only [Fr.put, Fr.lk, lkp]
  by_cases hu : t = u
  · subst hu; simpa using hv
  · simp only [hu, if_false]
    exact h.slot u

theorem wpIn_opRes {P : Program} {ρ : Env} {s : ES} {w : World} {a : Act} {o : Oper} {K : EV → ES → Prop} (hd : ∀ c, o.op ≠ .defer c) (h : OpRes P ρ s w a o K) (r : Option Nat) {next : Act → World → Prop} {Q : Exit → Act → World → Prop}
    (hn : ∀ v v' s' ρ' w', VR ρ' v v' → Go1 ρ s w ρ' s' w' → K v s' → next (a.put o.dst v') w') : o.wpIn (wideR r) 0 P a w next Q := by
  obtain ⟨v, v', s', ρ', w', hrun, h1, h2, h3⟩ := h
  refine ⟨fun f _ => wideR_fn r f, ?_⟩
  rw [Oper.semAt_eq _ _ _ hd]
  rcases hrun with hrun | ⟨hrun, rfl⟩
  · rw [hrun]; exact hn v v' s' ρ' w' h1 h2 h3
  · rw [hrun]; exact hn v _ s' ρ' w' h1 h2 h3

theorem eop_defer {P : Program} {op : Op} {fr : Fr} {s : ES} {K Kp : EV → ES → Prop} (h : eop P op fr s K Kp) : ∀ c, op ≠ .defer c := by
  intro c hc; subst hc; simp [eop] at h

theorem callsIn_round {r : Option Nat} {P : Program} {f : FuncId} {args : Array Value} {w : World} {R : Ending → World → Prop} (h : CallsIn (wideR none) 0 P f args w R) : CallsIn (wideR r) 0 P f args w R := by
  cases r with
  | none => exact h
  | some l => exact CallsIn.inRound l h

theorem wpIn_eop {P : Program} {k : Nat} {ρ0 ρ : Env} {s0 s : ES} {w0 w : World} {a : Act} {fr : Fr} {o : Oper} {Q : X → Fr → ES → Prop} {nextE : Fr → ES → Prop} (h : eop P o.op fr s (KO o fr nextE) (KP Q fr)) (r : Option Nat)
    (hG : GoK k ρ0 s0 w0 ρ s w) (hF : FR ρ fr a) {next : Act → World → Prop}
    (hn : ∀ fr' s' ρ' w' a', GoK k ρ0 s0 w0 ρ' s' w' → FR ρ' fr' a' → nextE fr' s' → next a' w') : o.wpIn (wideR r) 0 P a w next (CPost k ρ0 s0 w0 Q) := by
  have hR := hG.rel
  have hd := eop_defer h
  by_cases hc : isCall o.op = true
  · obtain ⟨dst, op, type, pos, after, guard⟩ := o
    simp only at h hc hd
    cases op <;> simp [isCall] at hc
    rename_i c
    obtain ⟨callee, args, ts⟩ := c
    cases callee with
    | builtin b => simp at hc
    | invoke x m => simp [eop, ecall] at h
    | value f =>
      simp only [eop, ecall] at h
      split at h
      · rename_i g first cap hf
        have hfr := hF.ev f
        rw [hf, VR] at hfr
        obtain ⟨first', cap', hfv, h1, h2⟩ := hfr
        have hargs : VRs ρ (first ++ opnds fr args.toList ++ cap) ((first' ++ args.map a.eval) ++ cap').toList := by
          simp only [Array.toList_append, Array.toList_map]
          exact (h1.append (hF.args args.toList)).append h2
        have hcall := h ρ w _ hR hargs
        refine ⟨fun f _ => wideR_fn r f, ?_⟩
        rw [Oper.semAt_eq _ _ _ hd]
        have hexec : (execOp a.eval { dst := dst, op := .call { callee := .value f, args := args, argTypes := ts }, type := type, pos := pos, after := after, guard := guard }).run P w = (callFunc g ((first' ++ args.map a.eval) ++ cap')).run P w := by
          simp [execOp, resolve, hfv, Deferred.ofValue, invoke]
        rw [hexec]
        have hret : ∀ (e : Ending) (w2 : World), EPost ρ s w (KC (KO { dst := dst, op := .call { callee := .value f, args := args, argTypes := ts }, type := type, pos := pos, after := after, guard := guard } fr nextE) (KP Q fr)) e w2 →
            (match e with
             | .returned v => next (a.put dst v) w2
             | .panicked chain => CPost k ρ0 s0 w0 Q (.panic chain) a w2
             | .outgrown => LetsOut (CPost k ρ0 s0 w0 Q)) := by
          rintro e w2 ⟨x, s', ρ', hret, hgo, hK⟩
          cases x with
          | ret v =>
            obtain ⟨v', rfl, hv⟩ := hret
            exact hn _ s' ρ' w2 _ (hG.trans (hgo.toK hG.nx)) ((hF.mono hgo.le).put dst v v' hK.1 hv) hK.2
          | pan v =>
            obtain ⟨v', rfl, hv⟩ := hret
            exact ⟨.pan v, fr, s', ρ', ⟨v', rfl, hv⟩, hF.mono hgo.le, hG.trans (hgo.toK hG.nx), hK⟩
        split at hcall
        · rename_i f' as' w1 hrun
          rw [hrun]
          refine ⟨fun h => by simp [wideR, Fence.wide] at h, ?_⟩
          refine callsIn_round (CallsIn.mono hcall fun e w2 hp => ?_)
          have := hret e w2 hp
          cases e <;> exact this
        · rename_i v' w1 hrun
          rw [hrun]
          exact hret (.returned v') w1 hcall
        · exact hcall.elim
      · exact h.elim
  · have hc' : isCall o.op = false := by simpa using hc
    exact wpIn_opRes hd (eop_sound h hc' hR hF) r fun v v' s' ρ' w' h1 h2 h3 => hn _ s' ρ' w' _ (hG.trans (h2.toK hG.nx)) ((hF.mono h2.le).put o.dst v v' h3.1 h1) h3.2

theorem eops_sound {P : Program} {k : Nat} {L : List Oper} {Q : X → Fr → ES → Prop} {ρ0 : Env} {s0 : ES} {w0 : World} (r : Option Nat) : ∀ (l : List Oper) (fr : Fr) (s : ES) (ρ : Env) (w : World) (a : Act), eops P L Q l fr s → GoK k ρ0 s0 w0 ρ s w → FR ρ fr a →
    wpListIn (wideR r) 0 P L.toArray (CPost k ρ0 s0 w0 Q) l a w
  | [], fr, s, ρ, w, a, h, hG, hF => ⟨.normal, fr, s, ρ, rfl, hF, hG, h⟩
  | o :: rest, fr, s, ρ, w, a, h, hG, hF => by
    simp only [eops] at h
    simp only [wpListIn]
    have hnext : ∀ fr' s' ρ' w' a', GoK k ρ0 s0 w0 ρ' s' w' → FR ρ' fr' a' → eops P L Q rest fr' s' → wpListIn (wideR r) 0 P L.toArray (CPost k ρ0 s0 w0 Q) rest a' w' :=
      fun fr' s' ρ' w' a' h1 h2 h3 => eops_sound r rest fr' s' ρ' w' a' h3 h1 h2
    cases hg : o.guard with
    | none =>
      simp only [hg] at h
      rw [if_pos (by simp [Region.wanted, hg])]
      exact wpIn_eop h r hG hF hnext
    | some jw =>
      obtain ⟨j, want⟩ := jw
      simp only [hg] at h
      cases ht : guardT L j with
      | none => simp [ht] at h
      | some t =>
        simp only [ht] at h
        have hy : ((L.toArray[j]?).bind (·.dst)) = some t := by
          simp only [guardT] at ht
          split at ht
          · rename_i oj hj; simp [hj, ht]
          · cases ht
        have hslot := hF.slot t
        split at h
        · rename_i b hb
          rw [hb, VR] at hslot
          have hget : a.tmps[t]? = some (.bool b) := by
            rw [Array.getD_eq_getD_getElem?] at hslot
            cases hx : a.tmps[t]? with
            | none => rw [hx] at hslot; simp [Go.undef] at hslot
            | some v => rw [hx] at hslot; simpa using hslot
          have hyield : yielded L.toArray a.tmps j = some b := by
            simp only [yielded, hy, Option.bind_some, hget]
          by_cases hbw : b = want
          · subst hbw
            rw [if_pos (by simp [Region.wanted, hg, hyield])]
            exact wpIn_eop (h.1 rfl) r hG (hF.same t (.bool b) (by rw [VR]; exact hslot)) hnext
          · rw [if_neg (by simp [Region.wanted, hg, hyield, hbw])]
            refine ⟨fun f _ => wideR_fn r f, ?_⟩
            have hbn : b = !want := by cases b <;> cases want <;> simp at hbw ⊢
            obtain ⟨h1, h2⟩ := h.2 hbn
            exact hnext _ s ρ w _ hG ((hF.same t (.bool !want) (by rw [VR, hslot, hbn])).put o.dst undefE undef h1 VR.undef) h2
        · rename_i hb
          rw [hb, VR] at hslot
          obtain ⟨cs', hcs, hnil⟩ := hslot
          rw [VRs] at hnil
          have hyield : yielded L.toArray a.tmps j = none := by
            simp only [yielded, hy, Option.bind_some]
            rw [Array.getD_eq_getD_getElem?] at hcs
            cases hx : a.tmps[t]? with
            | none => rfl
            | some v => rw [hx] at hcs; simp at hcs; subst hcs; rfl
          rw [if_neg (by simp [Region.wanted, hg, hyield])]
          exact ⟨fun f _ => wideR_fn r f, hnext _ s ρ w _ hG (hF.put o.dst undefE undef h.1 VR.undef) h.2⟩
        · exact h.elim

/-! Code. -/
def Then (next : Fr → ES → Prop) (Q : X → Fr → ES → Prop) : X → Fr → ES → Prop
  | .normal, fr, s => next fr s
  | .exit i, fr, s => Q (.exit i) fr s
  | .goto i, fr, s => Q (.goto i) fr s
  | .ret, fr, s => Q .ret fr s
  | .pan v, fr, s => Q (.pan v) fr s
def InBlk (id : Nat) (Q : X → Fr → ES → Prop) : X → Fr → ES → Prop
  | .exit i, fr, s => if i = id then Q .normal fr s else Q (.exit i) fr s
  | .normal, fr, s => Q .normal fr s
  | .goto i, fr, s => Q (.goto i) fr s
  | .ret, fr, s => Q .ret fr s
  | .pan v, fr, s => Q (.pan v) fr s

def ecode (P : Program) (k : Nat) : Code → (X → Fr → ES → Prop) → Fr → ES → Prop
  | .skip, Q, fr, s => Q .normal fr s
  | .label _, Q, fr, s => Q .normal fr s
  | .ret, Q, fr, s => Q .ret fr s
  | .exit i, Q, fr, s => Q (.exit i) fr s
  | .goto i, Q, fr, s => Q (.goto i) fr s
  | .region id ops d, Q, fr, s => match d with
    | false => eops P ops.toList Q ops.toList fr s
    | true => ESem P k (.region id ops true) Q fr s
  | .seq x y, Q, fr, s => ecode P k x (Then (ecode P k y Q) Q) fr s
  | .cond c x y, Q, fr, s => match ev fr c with
    | .bool b => gsel b true (ecode P k x Q fr s) (ecode P k y Q fr s)
    | _ => False
  | .block id x, Q, fr, s => ecode P k x (InBlk id Q) fr s
  | .loop x, Q, fr, s => ESem P k (.loop x) Q fr s
  | .scope x, Q, fr, s => ESem P k (.scope x) Q fr s
  | .rangeFunc f ps x y, Q, fr, s => ESem P k (.rangeFunc f ps x y) Q fr s
  | .refuse _, _, _, _ => False

theorem ecode_sound {P : Program} {k : Nat} : ∀ (c : Code) (Q : X → Fr → ES → Prop) (fr : Fr) (s : ES), ecode P k c Q fr s → ESem P k c Q fr s
  | .skip, Q, fr, s, h => fun hk r ρ w a hR hF => wpIn_skip ⟨.normal, fr, s, ρ, rfl, hF, GoK.refl hR hk, h⟩
  | .label _, Q, fr, s, h => fun hk r ρ w a hR hF => wpIn_label ⟨.normal, fr, s, ρ, rfl, hF, GoK.refl hR hk, h⟩
  | .ret, Q, fr, s, h => fun hk r ρ w a hR hF => wpIn_ret ⟨.ret, fr, s, ρ, rfl, hF, GoK.refl hR hk, h⟩
  | .exit i, Q, fr, s, h => fun hk r ρ w a hR hF => wpIn_exit ⟨.exit i, fr, s, ρ, rfl, hF, GoK.refl hR hk, h⟩
  | .goto i, Q, fr, s, h => fun hk r ρ w a hR hF => wpIn_goto ⟨.goto i, fr, s, ρ, rfl, hF, GoK.refl hR hk, h⟩
  | .region id ops d, Q, fr, s, h => by
    cases d with
    | true => exact h
    | false =>
      intro hk r ρ w a hR hF
      have := eops_sound (P := P) (L := ops.toList) (Q := Q) r ops.toList fr s ρ w a h (GoK.refl hR hk) hF
      exact wpIn_region_list (by simpa using this)
  | .seq x y, Q, fr, s, h => fun hk r ρ w a hR hF => by
    refine wpIn_seq (wpIn_mono (ecode_sound x _ fr s h hk r ρ w a hR hF) ?_)
    rintro e a' w' ⟨ex, fr', s', ρ', hx, hF', hG, hQ⟩
    cases ex with
    | normal =>
      cases hx
      exact wpIn_mono (ecode_sound y Q fr' s' hQ hG.nx r ρ' w' a' hG.rel hF') fun e a w h => CPost.trans hG h
    | exit i => cases hx; exact ⟨.exit i, fr', s', ρ', rfl, hF', hG, hQ⟩
    | goto i => cases hx; exact ⟨.goto i, fr', s', ρ', rfl, hF', hG, hQ⟩
    | ret => cases hx; exact ⟨.ret, fr', s', ρ', rfl, hF', hG, hQ⟩
    | pan v => obtain ⟨v', rfl, hv⟩ := hx; exact ⟨.pan v, fr', s', ρ', ⟨v', rfl, hv⟩, hF', hG, hQ⟩
  | .cond c x y, Q, fr, s, h => fun hk r ρ w a hR hF => by
    simp only [ecode] at h
    split at h
    · rename_i b hb
      have hc := hF.ev c
      rw [hb, VR] at hc
      cases b with
      | true => exact wpIn_cond_true hc (ecode_sound x Q fr s (h.1 rfl) hk r ρ w a hR hF)
      | false => exact wpIn_cond_false hc (ecode_sound y Q fr s (h.2 rfl) hk r ρ w a hR hF)
    · exact h.elim
  | .block id x, Q, fr, s, h => fun hk r ρ w a hR hF => by
    refine wpIn_block (wpIn_mono (ecode_sound x _ fr s h hk r ρ w a hR hF) ?_)
    rintro e a' w' ⟨ex, fr', s', ρ', hx, hF', hG, hQ⟩
    cases ex with
    | normal => cases hx; exact ⟨.normal, fr', s', ρ', rfl, hF', hG, hQ⟩
    | exit i =>
      cases hx
      simp only [InBlk] at hQ
      simp only [Exit.inBlock]
      split at hQ
      · rename_i hi; rw [if_pos hi]; exact ⟨.normal, fr', s', ρ', rfl, hF', hG, hQ⟩
      · rename_i hi; rw [if_neg hi]; exact ⟨.exit i, fr', s', ρ', rfl, hF', hG, hQ⟩
    | goto i => cases hx; exact ⟨.goto i, fr', s', ρ', rfl, hF', hG, hQ⟩
    | ret => cases hx; exact ⟨.ret, fr', s', ρ', rfl, hF', hG, hQ⟩
    | pan v => obtain ⟨v', rfl, hv⟩ := hx; exact ⟨.pan v, fr', s', ρ', ⟨v', rfl, hv⟩, hF', hG, hQ⟩
  | .loop x, Q, fr, s, h => h
  | .scope x, Q, fr, s, h => h
  | .rangeFunc f ps x y, Q, fr, s, h => h
  | .refuse _, _, _, _, h => h.elim

theorem least {p : Nat → Prop} (h : ∃ n, p n) : ∃ n, p n ∧ ∀ m, p m → n ≤ m := by
  obtain ⟨n, hn⟩ := h
  induction n using Nat.strongRecOn with
  | _ n ih =>
    by_cases hm : ∃ m, m < n ∧ p m
    · obtain ⟨m, h1, h2⟩ := hm; exact ih m h1 h2
    · exact ⟨n, hn, fun m hpm => Nat.le_of_not_lt fun hlt => hm ⟨m, hlt, hpm⟩⟩
open Classical in
noncomputable def leastOf (p : Nat → Prop) : Nat := if h : ∃ n, p n then Classical.choose (least h) else 0
theorem leastOf_spec {p : Nat → Prop} {n : Nat} (h : p n) : p (leastOf p) ∧ leastOf p ≤ n := by
  have hex : ∃ n, p n := ⟨n, h⟩
  have := Classical.choose_spec (least hex)
  unfold leastOf
  rw [dif_pos hex]
  exact ⟨this.1, this.2 n h⟩

/-- A loop by what holds at the head of every round, and a measure. -/
theorem esem_loop {P : Program} {k : Nat} {c : Code} {Q : X → Fr → ES → Prop} {fr : Fr} {s : ES} (I : Nat → Fr → ES → Prop) (n : Nat) (h0 : I n fr s)
    (round : ∀ n fr s, I n fr s → ecode P k c (Then (fun fr' s' => ∃ m, m < n ∧ I m fr' s') Q) fr s) : ESem P k (.loop c) Q fr s := by
  intro hk r ρ w a hR hF
  let p : Act → World → Nat → Prop := fun a' w' n => ∃ fr' s' ρ', I n fr' s' ∧ FR ρ' fr' a' ∧ GoK k ρ s w ρ' s' w'
  refine wpIn_loop (fun a' w' => ∃ n, p a' w' n) (fun a' w' => leastOf (p a' w')) ⟨n, fr, s, ρ, h0, hF, GoK.refl hR hk⟩ ?_
  rintro a' w' ⟨j, hj⟩
  obtain ⟨fr', s', ρ', hI, hF', hG⟩ := (leastOf_spec hj).1
  refine wpIn_mono (ecode_sound c _ fr' s' (round _ fr' s' hI) hG.nx r ρ' w' a' hG.rel hF') ?_
  rintro e a2 w2 ⟨ex, fr2, s2, ρ2, hx, hF2, hG2, hQ⟩
  cases ex with
  | normal =>
    cases hx
    obtain ⟨m, hm, hI2⟩ := hQ
    have hp : p a2 w2 m := ⟨fr2, s2, ρ2, hI2, hF2, hG.trans hG2⟩
    exact ⟨⟨m, hp⟩, Nat.lt_of_le_of_lt (leastOf_spec hp).2 hm⟩
  | exit i => cases hx; exact ⟨.exit i, fr2, s2, ρ2, rfl, hF2, hG.trans hG2, hQ⟩
  | goto i => cases hx; exact ⟨.goto i, fr2, s2, ρ2, rfl, hF2, hG.trans hG2, hQ⟩
  | ret => cases hx; exact ⟨.ret, fr2, s2, ρ2, rfl, hF2, hG.trans hG2, hQ⟩
  | pan v => obtain ⟨v', rfl, hv⟩ := hx; exact ⟨.pan v, fr2, s2, ρ2, ⟨v', rfl, hv⟩, hF2, hG.trans hG2, hQ⟩

/-- A cut: what holds behind the first piece is said anew; slots that are not named are forgotten. -/
def Fr.weak (fr' fr : Fr) : Prop := fr'.n = fr.n ∧ fr'.d = .unk ∧ ∀ t v, lkp fr'.m t = some v → fr.lk t = v
theorem FR.weak {ρ : Env} {fr fr' : Fr} {a : Act} (h : FR ρ fr a) (hw : fr'.weak fr) : FR ρ fr' a := by
  refine ⟨h.defers, by rw [h.size, hw.1], fun t => ?_⟩
  have ht := h.slot t
  unfold Fr.lk
  cases hl : lkp fr'.m t with
  | none => simp only [hw.2.1, VR]
  | some v => rw [hw.2.2 t v hl] at ht; exact ht
/-- The frame and the state said anew, names dropped. -/
def frBel (k : Nat) : List (Nat × EV) → Prop
  | [] => True
  | (_, v) :: r => v.bel k ∧ frBel k r
theorem frBel_lkp {k : Nat} : ∀ {l : List (Nat × EV)} (_ : frBel k l) {t : Nat} {v : EV}, lkp l t = some v → v.bel k
  | [], _, t, v, h => by simp [lkp] at h
  | (c, x) :: l, ha, t, v, h => by
    simp only [frBel] at ha
    simp only [lkp] at h
    split at h
    · cases h; exact ha.1
    · exact frBel_lkp ha.2 h
theorem FR.cut {ρ : Env} {fr : Fr} {a : Act} {k : Nat} (h : FR ρ fr a) (hb : frBel k fr.m) (hd : fr.d = .unk ∨ fr.d = undefE) : FR (ρ.cut k) fr a := by
  refine ⟨h.defers, h.size, fun t => ?_⟩
  have ht := h.slot t
  unfold Fr.lk at ht ⊢
  cases hl : lkp fr.m t with
  | none =>
    rw [hl] at ht
    rcases hd with hd | hd
    · simp only [hd, VR]
    · simp only [hd] at ht ⊢
      exact ht.cut _ _ (by simp [undefE, EV.bel, allBelow])
  | some v => rw [hl] at ht; exact ht.cut _ _ (frBel_lkp hb hl)

theorem GoK.less {k : Nat} {ρ ρ' : Env} {s s' : ES} {w w' : World} (h : GoK k ρ s w ρ' s' w') (s0 : ES) (hl : Less s0 s') (hnx : k ≤ s0.nx) : GoK k ρ s w (ρ'.cut s0.nx) s0 w' := by
  have hc : ∀ b l, ρ'.cut s0.nx b = some l → b < s0.nx ∧ ρ' b = some l := by
    intro b l hb
    unfold Env.cut at hb
    split at hb
    · exact ⟨by assumption, hb⟩
    · cases hb
  refine ⟨⟨?_, ?_, ?_⟩, fun i hi => ?_, hnx, fun b hb hn => ?_, h.step, ?_⟩
  · intro b o l hg hr
    exact (h.rel.live b o l (hl.1 b o hg) (hc b l hr).2).cut (blBelow_lkp hl.2 (ES.get_lt hg).2).2
  · intro i hi; exact if_neg (by omega)
  · intro b b' o o' l l' hg hg' hr hr' hne hw
    exact h.rel.sep b b' o o' l l' (hl.1 b o hg) (hl.1 b' o' hg') (hc b l hr).2 (hc b' l' hr').2 hne hw
  · rw [Env.cut_lt (by omega)]; exact h.old i hi
  · cases hx : s0.get b with
    | none => rfl
    | some o =>
      have := h.gone b hb hn
      rw [hl.1 b o hx] at this
      cases this
  · intro b o l hg hr
    exact h.src b o l (hl.1 b o hg) (hc b l hr).2

/-- The frame and the state are said anew: slots that are not named are forgotten, blocks that are not named are, and their names may be used again. -/
theorem esem_anew {P : Program} {k : Nat} {c : Code} {Q : X → Fr → ES → Prop} {fr fr' : Fr} {s s' : ES} (h : ESem P k c Q fr' s') (hw : fr'.weak fr) (hb : frBel s'.nx fr'.m) (hl : Less s' s) (hnx : k ≤ s'.nx) : ESem P k c Q fr s := by
  intro hk r ρ w a hR hF
  have hG := (GoK.refl hR hk).less s' hl hnx
  exact wpIn_mono (h hnx r _ w a hG.rel ((hF.weak hw).cut hb (.inl hw.2.1))) fun e a w h => CPost.trans hG h

end Go.E
