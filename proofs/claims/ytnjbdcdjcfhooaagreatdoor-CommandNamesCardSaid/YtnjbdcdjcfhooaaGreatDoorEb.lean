/-
  Own work: walks and laws of the functions that the statement reaches; the statement itself stands in the last text.
-/
import Derived.Test.YtnjbdcdjcfhooaaGreatDoorEa
import Derived.IntWalk
import Derived.Below
namespace Go.E
set_option linter.all false
mutual
def EV.bel (k : Nat) : EV → Prop
  | .ptr (some a) => a.b < k
  | .slice (some a) _ _ => a.b < k
  | .map (some r) => r < k
  | .fn _ as bs => allBelow k as ∧ allBelow k bs
  | .iface _ v => EV.bel k v
  | .agg cs => allBelow k cs
  | .tuple cs => allBelow k cs
  | _ => True
def allBelow (k : Nat) : List EV → Prop
  | [] => True
  | v :: vs => EV.bel k v ∧ allBelow k vs
end
def pairsBelow (k : Nat) : List (EV × EV) → Prop
  | [] => True
  | (x, y) :: r => x.bel k ∧ y.bel k ∧ pairsBelow k r
def EO.bel (k : Nat) : EO → Prop
  | .cells c _ _ _ _ => allBelow k c
  | .map es => pairsBelow k es
  | .sIter _ _ => True
def blBelow (k : Nat) : List (Nat × EO) → Prop
  | [] => True
  | (b, o) :: r => b < k ∧ o.bel k ∧ blBelow k r
def Env.cut (ρ : Env) (k : Nat) : Env := fun i => if i < k then ρ i else none
theorem Env.cut_lt {ρ : Env} {k i : Nat} (h : i < k) : ρ.cut k i = ρ i := if_pos h
mutual
theorem VR.cut {ρ : Env} {k : Nat} : ∀ (v : EV) (v' : Value), VR ρ v v' → v.bel k → VR (ρ.cut k) v v'
  | .unk, _, _, _ => by simp [VR]
  | .bool _, _, x, _ => by simpa [VR] using x
  | .int _ _, _, x, _ => by simpa [VR] using x
  | .str _, _, x, _ => by simpa [VR] using x
  | .ptr none, _, x, _ => by simpa [VR] using x
  | .ptr (some a), _, x, h => by
    simp only [EV.bel] at h
    simp only [VR] at x ⊢
    rw [Env.cut_lt h]; exact x
  | .slice none _ _, _, x, _ => by simpa [VR] using x
  | .slice (some a) _ _, _, x, h => by
    simp only [EV.bel] at h
    simp only [VR] at x ⊢
    rw [Env.cut_lt h]; exact x
  | .map none, _, x, _ => by simpa [VR] using x
  | .map (some r), _, x, h => by
    simp only [EV.bel] at h
    simp only [VR] at x ⊢
    rw [Env.cut_lt h]; exact x
  | .fn _ as bs, _, x, h => by
    simp only [EV.bel] at h
    simp only [VR] at x ⊢
    obtain ⟨as', bs', a, b, c⟩ := x
    exact ⟨as', bs', a, VRs.cut as _ b h.1, VRs.cut bs _ c h.2⟩
  | .nilFn, _, x, _ => by simpa [VR] using x
  | .iface _ y, _, x, h => by
    simp only [EV.bel] at h
    simp only [VR] at x ⊢
    obtain ⟨z, a, b⟩ := x
    exact ⟨z, a, VR.cut y z b h⟩
  | .nilIface, _, x, _ => by simpa [VR] using x
  | .agg cs, _, x, h => by
    simp only [EV.bel] at h
    simp only [VR] at x ⊢
    obtain ⟨cs', a, b⟩ := x
    exact ⟨cs', a, VRs.cut cs _ b h⟩
  | .tuple cs, _, x, h => by
    simp only [EV.bel] at h
    simp only [VR] at x ⊢
    obtain ⟨cs', a, b⟩ := x
    exact ⟨cs', a, VRs.cut cs _ b h⟩
theorem VRs.cut {ρ : Env} {k : Nat} : ∀ (v : List EV) (v' : List Value), VRs ρ v v' → allBelow k v → VRs (ρ.cut k) v v'
  | [], _, x, _ => by simpa [VRs] using x
  | v :: vs, _, x, h => by
    simp only [allBelow] at h
    simp only [VRs] at x ⊢
    obtain ⟨v', l', a, b, c⟩ := x
    exact ⟨v', l', a, VR.cut v v' b h.1, VRs.cut vs l' c h.2⟩
end
theorem allBelow_get {k : Nat} : ∀ {l : List EV} (_ : allBelow k l) {i : Nat} {v : EV}, l[i]? = some v → v.bel k
  | [], _, i, v, h => by simp at h
  | x :: l, ha, i, v, h => by
    simp only [allBelow] at ha
    cases i with
    | zero => simp at h; subst h; exact ha.1
    | succ i => exact allBelow_get ha.2 (by simpa using h)
theorem pairsBelow_get {k : Nat} : ∀ {l : List (EV × EV)} (_ : pairsBelow k l) {i : Nat} {x y : EV}, l[i]? = some (x, y) → x.bel k ∧ y.bel k
  | [], _, i, x, y, h => by simp at h
  | (a, b) :: l, ha, i, x, y, h => by
    simp only [pairsBelow] at ha
    cases i with
    | zero => simp at h; obtain ⟨rfl, rfl⟩ := h; exact ⟨ha.1, ha.2.1⟩
    | succ i => exact pairsBelow_get ha.2.2 (by simpa using h)
theorem blBelow_lkp {k : Nat} : ∀ {l : List (Nat × EO)} (_ : blBelow k l) {b : Nat} {o : EO}, lkp l b = some o → b < k ∧ o.bel k
  | [], _, b, o, h => by simp [lkp] at h
  | (c, x) :: l, ha, b, o, h => by
    simp only [blBelow] at ha
    simp only [lkp] at h
    split at h
    · rename_i hc; subst hc; cases h; exact ⟨ha.1, ha.2.1⟩
    · exact blBelow_lkp ha.2.2 h
theorem BR.cut {ρ : Env} {w : World} {l : Loc} {o : EO} {k : Nat} (h : BR ρ w l o) (hb : o.bel k) : BR (ρ.cut k) w l o := by
  cases o with
  | cells c t z wr fz =>
    obtain ⟨h1, h2, h3, h4, cs, fr, h5, h6, h7, h8⟩ := h
    exact ⟨h1, h2, h3, h4, cs, fr, h5, h6, fun i v hi => let ⟨v', a, b⟩ := h7 i v hi; ⟨v', a, b.cut _ _ (allBelow_get hb hi)⟩, h8⟩
  | map es =>
    obtain ⟨es', cl, h1, h2, h3⟩ := h
    exact ⟨es', cl, h1, h2, fun i k v hi => let ⟨e, a, b, c⟩ := h3 i k v hi; ⟨e, a, b.cut _ _ (pairsBelow_get hb hi).1, c.cut _ _ (pairsBelow_get hb hi).2⟩⟩
  | sIter s p => exact h
def Less (s0 s : ES) : Prop := (∀ b o, s0.get b = some o → s.get b = some o) ∧ blBelow s0.nx s0.bl ∧ s0.gl = s.gl
theorem Go1.less {ρ ρ' : Env} {s s' : ES} {w w' : World} (h : Go1 ρ s w ρ' s' w') (s0 : ES) (hl : Less s0 s') (hnx : s.nx ≤ s0.nx) : Go1 ρ s w (ρ'.cut s0.nx) s0 w' := by
  have hc : ∀ b l, ρ'.cut s0.nx b = some l → b < s0.nx ∧ ρ' b = some l := by
    intro b l hb
    unfold Env.cut at hb
    split at hb
    · exact ⟨by assumption, hb⟩
    · cases hb
  refine ⟨⟨?_, ?_, ?_⟩, fun i hi => ?_, hnx, h.was, fun b hb hn => ?_, h.step, ?_, hl.2.2.trans h.gl⟩
  · intro b o l hg hr
    exact (h.rel.live b o l (hl.1 b o hg) (hc b l hr).2).cut (blBelow_lkp hl.2.1 (ES.get_lt hg).2).2
  · intro i hi; exact if_neg (by omega)
  · intro b b' o o' l l' hg hg' hr hr' hne hw
    exact h.rel.sep b b' o o' l l' (hl.1 b o hg) (hl.1 b' o' hg') (hc b l hr).2 (hc b' l' hr').2 hne hw
  · rw [Env.cut_lt (by omega)]; exact h.old i hi
  · cases hx : s0.get b with
    | none => rfl
    | some o =>
      have := h.gone b hb hn
      rw [hl.1 b o hx] at this
      cases this
  · intro b o l hg hr
    exact h.src b o l (hl.1 b o hg) (hc b l hr).2
def KO (o : Oper) (fr : Fr) (next : Fr → ES → Prop) : EV → ES → Prop := fun v s => okDst fr.n o.dst ∧ next (fr.putO o.dst v) s
def KP (Q : X → Fr → ES → Prop) (fr : Fr) : EV → ES → Prop := fun v s => Q (.pan v) fr s
def guardT (L : List Oper) (j : Nat) : Option Tmp := match L[j]? with | some o => o.dst | none => none
def opRun (P : Program) (o : Oper) (fr : Fr) (s : ES) (next : Fr → ES → Prop) (Q : X → Fr → ES → Prop) : Prop := eop P o.op fr s (KO o fr next) (KP Q fr)
def opSkip (o : Oper) (fr : Fr) (s : ES) (next : Fr → ES → Prop) : Prop := okDst fr.n o.dst ∧ next (fr.putO o.dst undefE) s
def eops (P : Program) (L : List Oper) (Q : X → Fr → ES → Prop) : List Oper → Fr → ES → Prop
  | [], fr, s => Q .normal fr s
  | o :: rest, fr, s => match o.guard with
    | none => eop P o.op fr s (KO o fr (eops P L Q rest)) (KP Q fr)
    | some (j, want) => match guardT L j with
      | none => False
      | some t => match fr.lk t with
        | .bool b => gsel b want (opRun P o (fr.put t (.bool want)) s (eops P L Q rest) Q) (opSkip o (fr.put t (.bool !want)) s (eops P L Q rest))
        | .tuple [] => okDst fr.n o.dst ∧ eops P L Q rest (fr.putO o.dst undefE) s
        | _ => False
theorem wideR_fn (r : Option Nat) (f : FuncId) : (wideR r).fn f := trivial
theorem FR.same {ρ : Env} {fr : Fr} {a : Act} (h : FR ρ fr a) (t : Nat) (v : EV) (hv : VR ρ v (a.tmps.getD t undef)) : FR ρ (fr.put t v) a := by
  refine ⟨h.defers, h.size, fun u => ?_⟩
  simp only [Fr.put, Fr.lk, lkp]
  by_cases hu : t = u
  · subst hu; simpa using hv
  · simp only [hu, if_false]
    exact h.slot u
theorem wpIn_opRes {P : Program} {ρ : Env} {s : ES} {w : World} {a : Act} {o : Oper} {K : EV → ES → Prop} (hd : ∀ c, o.op ≠ .defer c) (h : OpRes P ρ s w a o K) (r : Option Nat) {next : Act → World → Prop} {Q : Exit → Act → World → Prop}
    (hn : ∀ v v' s' ρ' w', VR ρ' v v' → Go1 ρ s w ρ' s' w' → K v s' → next (a.put o.dst v') w') : o.wpIn (wideR r) 0 P a w next Q := by
  obtain ⟨v, v', s', ρ', w', hrun, h1, h2, h3⟩ := h
  refine ⟨fun f _ => wideR_fn r f, ?_⟩
  rw [Oper.semAt_eq _ _ _ hd]
  rcases hrun with hrun | ⟨hrun, rfl⟩
  · rw [hrun]; exact hn v v' s' ρ' w' h1 h2 h3
  · rw [hrun]; exact hn v _ s' ρ' w' h1 h2 h3
theorem eop_defer {P : Program} {op : Op} {fr : Fr} {s : ES} {K Kp : EV → ES → Prop} (h : eop P op fr s K Kp) : ∀ c, op ≠ .defer c := by
  intro c hc; subst hc; simp [eop] at h
theorem callsIn_round {r : Option Nat} {P : Program} {f : FuncId} {args : Array Value} {w : World} {R : Ending → World → Prop} (h : CallsIn (wideR none) 0 P f args w R) : CallsIn (wideR r) 0 P f args w R := by
  cases r with
  | none => exact h
  | some l => exact CallsIn.inRound l h
theorem wpIn_eop {P : Program} {k : Nat} {ρ0 ρ : Env} {s0 s : ES} {w0 w : World} {a : Act} {fr : Fr} {o : Oper} {Q : X → Fr → ES → Prop} {nextE : Fr → ES → Prop} (h : eop P o.op fr s (KO o fr nextE) (KP Q fr)) (r : Option Nat)
    (hG : GoK k ρ0 s0 w0 ρ s w) (hF : FR ρ fr a) {next : Act → World → Prop}
    (hn : ∀ fr' s' ρ' w' a', GoK k ρ0 s0 w0 ρ' s' w' → FR ρ' fr' a' → nextE fr' s' → next a' w') : o.wpIn (wideR r) 0 P a w next (CPost k ρ0 s0 w0 Q) := by
  have hR := hG.rel
  have hd := eop_defer h
  by_cases hc : isCall o.op = true
  · obtain ⟨dst, op, type, pos, after, guard⟩ := o
    simp only at h hc hd
    cases op <;> simp [isCall] at hc
    rename_i c
    obtain ⟨callee, args, ts⟩ := c
    cases callee with
    | builtin b => simp at hc
    | invoke x m => simp [eop, ecall] at h
    | value f =>
      simp only [eop, ecall] at h
      split at h
      · rename_i g first cap hf
        have hfr := hF.ev f
        rw [hf, VR] at hfr
        obtain ⟨first', cap', hfv, h1, h2⟩ := hfr
        have hargs : VRs ρ (first ++ opnds fr args.toList ++ cap) ((first' ++ args.map a.eval) ++ cap').toList := by
          simp only [Array.toList_append, Array.toList_map]
          exact (h1.append (hF.args args.toList)).append h2
        have hcall := h ρ w _ hR hargs
        refine ⟨fun f _ => wideR_fn r f, ?_⟩
        rw [Oper.semAt_eq _ _ _ hd]
        have hexec : (execOp a.eval { dst := dst, op := .call { callee := .value f, args := args, argTypes := ts }, type := type, pos := pos, after := after, guard := guard }).run P w = (callFunc g ((first' ++ args.map a.eval) ++ cap')).run P w := by
          simp [execOp, resolve, hfv, Deferred.ofValue, invoke]
        rw [hexec]
        have hret : ∀ (e : Ending) (w2 : World), EPost ρ s w (KC (KO { dst := dst, op := .call { callee := .value f, args := args, argTypes := ts }, type := type, pos := pos, after := after, guard := guard } fr nextE) (KP Q fr)) e w2 →
            (match e with
             | .returned v => next (a.put dst v) w2
             | .panicked chain => CPost k ρ0 s0 w0 Q (.panic chain) a w2
             | .outgrown => LetsOut (CPost k ρ0 s0 w0 Q)) := by
          rintro e w2 ⟨x, s', ρ', hret, hgo, hK⟩
          cases x with
          | ret v =>
            obtain ⟨v', rfl, hv⟩ := hret
            exact hn _ s' ρ' w2 _ (hG.trans (hgo.toK hG.nx)) ((hF.mono hgo.le).put dst v v' hK.1 hv) hK.2
          | pan v =>
            obtain ⟨v', rfl, hv⟩ := hret
            exact ⟨.pan v, fr, s', ρ', ⟨v', rfl, hv⟩, hF.mono hgo.le, hG.trans (hgo.toK hG.nx), hK⟩
        split at hcall
        · rename_i f' as' w1 hrun
          rw [hrun]
          refine ⟨fun h => by simp [wideR, Fence.wide] at h, ?_⟩
          refine callsIn_round (CallsIn.mono hcall fun e w2 hp => ?_)
          have := hret e w2 hp
          cases e <;> exact this
        · rename_i v' w1 hrun
          rw [hrun]
          exact hret (.returned v') w1 hcall
        · exact hcall.elim
      · exact h.elim
  · have hc' : isCall o.op = false := by simpa using hc
    exact wpIn_opRes hd (eop_sound h hc' hR hF) r fun v v' s' ρ' w' h1 h2 h3 => hn _ s' ρ' w' _ (hG.trans (h2.toK hG.nx)) ((hF.mono h2.le).put o.dst v v' h3.1 h1) h3.2
theorem eops_sound {P : Program} {k : Nat} {L : List Oper} {Q : X → Fr → ES → Prop} {ρ0 : Env} {s0 : ES} {w0 : World} (r : Option Nat) : ∀ (l : List Oper) (fr : Fr) (s : ES) (ρ : Env) (w : World) (a : Act), eops P L Q l fr s → GoK k ρ0 s0 w0 ρ s w → FR ρ fr a →
    wpListIn (wideR r) 0 P L.toArray (CPost k ρ0 s0 w0 Q) l a w
  | [], fr, s, ρ, w, a, h, hG, hF => ⟨.normal, fr, s, ρ, rfl, hF, hG, h⟩
  | o :: rest, fr, s, ρ, w, a, h, hG, hF => by
    simp only [eops] at h
    simp only [wpListIn]
    have hnext : ∀ fr' s' ρ' w' a', GoK k ρ0 s0 w0 ρ' s' w' → FR ρ' fr' a' → eops P L Q rest fr' s' → wpListIn (wideR r) 0 P L.toArray (CPost k ρ0 s0 w0 Q) rest a' w' :=
      fun fr' s' ρ' w' a' h1 h2 h3 => eops_sound r rest fr' s' ρ' w' a' h3 h1 h2
    cases hg : o.guard with
    | none =>
      simp only [hg] at h
      rw [if_pos (by simp [Region.wanted, hg])]
      exact wpIn_eop h r hG hF hnext
    | some jw =>
      obtain ⟨j, want⟩ := jw
      simp only [hg] at h
      cases ht : guardT L j with
      | none => simp [ht] at h
      | some t =>
        simp only [ht] at h
        have hy : ((L.toArray[j]?).bind (·.dst)) = some t := by
          simp only [guardT] at ht
          split at ht
          · rename_i oj hj; simp [hj, ht]
          · cases ht
        have hslot := hF.slot t
        split at h
        · rename_i b hb
          rw [hb, VR] at hslot
          have hget : a.tmps[t]? = some (.bool b) := by
            rw [Array.getD_eq_getD_getElem?] at hslot
            cases hx : a.tmps[t]? with
            | none => rw [hx] at hslot; simp [Go.undef] at hslot
            | some v => rw [hx] at hslot; simpa using hslot
          have hyield : yielded L.toArray a.tmps j = some b := by
            simp only [yielded, hy, Option.bind_some, hget]
          by_cases hbw : b = want
          · subst hbw
            rw [if_pos (by simp [Region.wanted, hg, hyield])]
            exact wpIn_eop (h.1 rfl) r hG (hF.same t (.bool b) (by rw [VR]; exact hslot)) hnext
          · rw [if_neg (by simp [Region.wanted, hg, hyield, hbw])]
            refine ⟨fun f _ => wideR_fn r f, ?_⟩
            have hbn : b = !want := by cases b <;> cases want <;> simp at hbw ⊢
            obtain ⟨h1, h2⟩ := h.2 hbn
            exact hnext _ s ρ w _ hG ((hF.same t (.bool !want) (by rw [VR, hslot, hbn])).put o.dst undefE undef h1 VR.undef) h2
        · rename_i hb
          rw [hb, VR] at hslot
          obtain ⟨cs', hcs, hnil⟩ := hslot
          rw [VRs] at hnil
          have hyield : yielded L.toArray a.tmps j = none := by
            simp only [yielded, hy, Option.bind_some]
            rw [Array.getD_eq_getD_getElem?] at hcs
            cases hx : a.tmps[t]? with
            | none => rfl
            | some v => rw [hx] at hcs; simp at hcs; subst hcs; rfl
          rw [if_neg (by simp [Region.wanted, hg, hyield])]
          exact ⟨fun f _ => wideR_fn r f, hnext _ s ρ w _ hG (hF.put o.dst undefE undef h.1 VR.undef) h.2⟩
        · exact h.elim
def Then (next : Fr → ES → Prop) (Q : X → Fr → ES → Prop) : X → Fr → ES → Prop
  | .normal, fr, s => next fr s
  | .exit i, fr, s => Q (.exit i) fr s
  | .goto i, fr, s => Q (.goto i) fr s
  | .ret, fr, s => Q .ret fr s
  | .pan v, fr, s => Q (.pan v) fr s
def InBlk (id : Nat) (Q : X → Fr → ES → Prop) : X → Fr → ES → Prop
  | .exit i, fr, s => if i = id then Q .normal fr s else Q (.exit i) fr s
  | .normal, fr, s => Q .normal fr s
  | .goto i, fr, s => Q (.goto i) fr s
  | .ret, fr, s => Q .ret fr s
  | .pan v, fr, s => Q (.pan v) fr s
def ecode (P : Program) (k : Nat) : Code → (X → Fr → ES → Prop) → Fr → ES → Prop
  | .skip, Q, fr, s => Q .normal fr s
  | .label _, Q, fr, s => Q .normal fr s
  | .ret, Q, fr, s => Q .ret fr s
  | .exit i, Q, fr, s => Q (.exit i) fr s
  | .goto i, Q, fr, s => Q (.goto i) fr s
  | .region id ops d, Q, fr, s => match d with
    | false => eops P ops.toList Q ops.toList fr s
    | true => ESem P k (.region id ops true) Q fr s
  | .seq x y, Q, fr, s => ecode P k x (Then (ecode P k y Q) Q) fr s
  | .cond c x y, Q, fr, s => match ev fr c with
    | .bool b => gsel b true (ecode P k x Q fr s) (ecode P k y Q fr s)
    | _ => False
  | .block id x, Q, fr, s => ecode P k x (InBlk id Q) fr s
  | .loop x, Q, fr, s => ESem P k (.loop x) Q fr s
  | .scope x, Q, fr, s => ESem P k (.scope x) Q fr s
  | .rangeFunc f ps x y, Q, fr, s => ESem P k (.rangeFunc f ps x y) Q fr s
  | .refuse _, _, _, _ => False
theorem ecode_sound {P : Program} {k : Nat} : ∀ (c : Code) (Q : X → Fr → ES → Prop) (fr : Fr) (s : ES), ecode P k c Q fr s → ESem P k c Q fr s
  | .skip, Q, fr, s, h => fun hk r ρ w a hR hF => wpIn_skip ⟨.normal, fr, s, ρ, rfl, hF, GoK.refl hR hk, h⟩
  | .label _, Q, fr, s, h => fun hk r ρ w a hR hF => wpIn_label ⟨.normal, fr, s, ρ, rfl, hF, GoK.refl hR hk, h⟩
  | .ret, Q, fr, s, h => fun hk r ρ w a hR hF => wpIn_ret ⟨.ret, fr, s, ρ, rfl, hF, GoK.refl hR hk, h⟩
  | .exit i, Q, fr, s, h => fun hk r ρ w a hR hF => wpIn_exit ⟨.exit i, fr, s, ρ, rfl, hF, GoK.refl hR hk, h⟩
  | .goto i, Q, fr, s, h => fun hk r ρ w a hR hF => wpIn_goto ⟨.goto i, fr, s, ρ, rfl, hF, GoK.refl hR hk, h⟩
  | .region id ops d, Q, fr, s, h => by
    cases d with
    | true => exact h
    | false =>
      intro hk r ρ w a hR hF
      have := eops_sound (P := P) (L := ops.toList) (Q := Q) r ops.toList fr s ρ w a h (GoK.refl hR hk) hF
      exact wpIn_region_list (by simpa using this)
  | .seq x y, Q, fr, s, h => fun hk r ρ w a hR hF => by
    refine wpIn_seq (wpIn_mono (ecode_sound x _ fr s h hk r ρ w a hR hF) ?_)
    rintro e a' w' ⟨ex, fr', s', ρ', hx, hF', hG, hQ⟩
    cases ex with
    | normal =>
      cases hx
      exact wpIn_mono (ecode_sound y Q fr' s' hQ hG.nx r ρ' w' a' hG.rel hF') fun e a w h => CPost.trans hG h
    | exit i => cases hx; exact ⟨.exit i, fr', s', ρ', rfl, hF', hG, hQ⟩
    | goto i => cases hx; exact ⟨.goto i, fr', s', ρ', rfl, hF', hG, hQ⟩
    | ret => cases hx; exact ⟨.ret, fr', s', ρ', rfl, hF', hG, hQ⟩
    | pan v => obtain ⟨v', rfl, hv⟩ := hx; exact ⟨.pan v, fr', s', ρ', ⟨v', rfl, hv⟩, hF', hG, hQ⟩
  | .cond c x y, Q, fr, s, h => fun hk r ρ w a hR hF => by
    simp only [ecode] at h
    split at h
    · rename_i b hb
      have hc := hF.ev c
      rw [hb, VR] at hc
      cases b with
      | true => exact wpIn_cond_true hc (ecode_sound x Q fr s (h.1 rfl) hk r ρ w a hR hF)
      | false => exact wpIn_cond_false hc (ecode_sound y Q fr s (h.2 rfl) hk r ρ w a hR hF)
    · exact h.elim
  | .block id x, Q, fr, s, h => fun hk r ρ w a hR hF => by
    refine wpIn_block (wpIn_mono (ecode_sound x _ fr s h hk r ρ w a hR hF) ?_)
    rintro e a' w' ⟨ex, fr', s', ρ', hx, hF', hG, hQ⟩
    cases ex with
    | normal => cases hx; exact ⟨.normal, fr', s', ρ', rfl, hF', hG, hQ⟩
    | exit i =>
      cases hx
      simp only [InBlk] at hQ
      simp only [Exit.inBlock]
      split at hQ
      · rename_i hi; rw [if_pos hi]; exact ⟨.normal, fr', s', ρ', rfl, hF', hG, hQ⟩
      · rename_i hi; rw [if_neg hi]; exact ⟨.exit i, fr', s', ρ', rfl, hF', hG, hQ⟩
    | goto i => cases hx; exact ⟨.goto i, fr', s', ρ', rfl, hF', hG, hQ⟩
    | ret => cases hx; exact ⟨.ret, fr', s', ρ', rfl, hF', hG, hQ⟩
    | pan v => obtain ⟨v', rfl, hv⟩ := hx; exact ⟨.pan v, fr', s', ρ', ⟨v', rfl, hv⟩, hF', hG, hQ⟩
  | .loop x, Q, fr, s, h => h
  | .scope x, Q, fr, s, h => h
  | .rangeFunc f ps x y, Q, fr, s, h => h
  | .refuse _, _, _, _, h => h.elim
theorem least {p : Nat → Prop} (h : ∃ n, p n) : ∃ n, p n ∧ ∀ m, p m → n ≤ m := by
  obtain ⟨n, hn⟩ := h
  induction n using Nat.strongRecOn with
  | _ n ih =>
    by_cases hm : ∃ m, m < n ∧ p m
    · obtain ⟨m, h1, h2⟩ := hm; exact ih m h1 h2
    · exact ⟨n, hn, fun m hpm => Nat.le_of_not_lt fun hlt => hm ⟨m, hlt, hpm⟩⟩
open Classical in
noncomputable def leastOf (p : Nat → Prop) : Nat := if h : ∃ n, p n then Classical.choose (least h) else 0
theorem leastOf_spec {p : Nat → Prop} {n : Nat} (h : p n) : p (leastOf p) ∧ leastOf p ≤ n := by
  have hex : ∃ n, p n := ⟨n, h⟩
  have := Classical.choose_spec (least hex)
  unfold leastOf
  rw [dif_pos hex]
  exact ⟨this.1, this.2 n h⟩
def Fr.weak (fr' fr : Fr) : Prop := fr'.n = fr.n ∧ fr'.d = .unk ∧ ∀ t v, lkp fr'.m t = some v → fr.lk t = v
theorem FR.weak {ρ : Env} {fr fr' : Fr} {a : Act} (h : FR ρ fr a) (hw : fr'.weak fr) : FR ρ fr' a := by
  refine ⟨h.defers, by rw [h.size, hw.1], fun t => ?_⟩
  have ht := h.slot t
  unfold Fr.lk
  cases hl : lkp fr'.m t with
  | none => simp only [hw.2.1, VR]
  | some v => rw [hw.2.2 t v hl] at ht; exact ht
def frBel (k : Nat) : List (Nat × EV) → Prop
  | [] => True
  | (_, v) :: r => v.bel k ∧ frBel k r
theorem frBel_lkp {k : Nat} : ∀ {l : List (Nat × EV)} (_ : frBel k l) {t : Nat} {v : EV}, lkp l t = some v → v.bel k
  | [], _, t, v, h => by simp [lkp] at h
  | (c, x) :: l, ha, t, v, h => by
    simp only [frBel] at ha
    simp only [lkp] at h
    split at h
    · cases h; exact ha.1
    · exact frBel_lkp ha.2 h
theorem FR.cut {ρ : Env} {fr : Fr} {a : Act} {k : Nat} (h : FR ρ fr a) (hb : frBel k fr.m) (hd : fr.d = .unk ∨ fr.d = undefE) : FR (ρ.cut k) fr a := by
  refine ⟨h.defers, h.size, fun t => ?_⟩
  have ht := h.slot t
  unfold Fr.lk at ht ⊢
  cases hl : lkp fr.m t with
  | none =>
    rw [hl] at ht
    rcases hd with hd | hd
    · simp only [hd, VR]
    · simp only [hd] at ht ⊢
      exact ht.cut _ _ (by simp [undefE, EV.bel, allBelow])
  | some v => rw [hl] at ht; exact ht.cut _ _ (frBel_lkp hb hl)
theorem GoK.less {k : Nat} {ρ ρ' : Env} {s s' : ES} {w w' : World} (h : GoK k ρ s w ρ' s' w') (s0 : ES) (hl : Less s0 s') (hnx : k ≤ s0.nx) : GoK k ρ s w (ρ'.cut s0.nx) s0 w' := by
  have hc : ∀ b l, ρ'.cut s0.nx b = some l → b < s0.nx ∧ ρ' b = some l := by
    intro b l hb
    unfold Env.cut at hb
    split at hb
    · exact ⟨by assumption, hb⟩
    · cases hb
  refine ⟨⟨?_, ?_, ?_⟩, fun i hi => ?_, hnx, fun b hb hn => ?_, h.step, ?_, hl.2.2.trans h.gl, h.was⟩
  · intro b o l hg hr
    exact (h.rel.live b o l (hl.1 b o hg) (hc b l hr).2).cut (blBelow_lkp hl.2.1 (ES.get_lt hg).2).2
  · intro i hi; exact if_neg (by omega)
  · intro b b' o o' l l' hg hg' hr hr' hne hw
    exact h.rel.sep b b' o o' l l' (hl.1 b o hg) (hl.1 b' o' hg') (hc b l hr).2 (hc b' l' hr').2 hne hw
  · rw [Env.cut_lt (by omega)]; exact h.old i hi
  · cases hx : s0.get b with
    | none => rfl
    | some o =>
      have := h.gone b hb hn
      rw [hl.1 b o hx] at this
      cases this
  · intro b o l hg hr
    exact h.src b o l (hl.1 b o hg) (hc b l hr).2
theorem esem_anew {P : Program} {k : Nat} {c : Code} {Q : X → Fr → ES → Prop} {fr fr' : Fr} {s s' : ES} (h : ESem P k c Q fr' s') (hw : fr'.weak fr) (hb : frBel s'.nx fr'.m) (hl : Less s' s) (hnx : k ≤ s'.nx) : ESem P k c Q fr s := by
  intro hk r ρ w a hR hF
  have hG := (GoK.refl hR hk).less s' hl hnx
  exact wpIn_mono (h hnx r _ w a hG.rel ((hF.weak hw).cut hb (.inl hw.2.1))) fun e a w h => CPost.trans hG h
end Go.E
namespace Go.E
set_option linter.all false
def eresult1 (P : Program) (rv : ResultVar) (fr : Fr) (s : ES) (K : EV → Prop) : Prop :=
  match rv with
  | .tmp t => K (fr.lk t)
  | .cell t ty => match tiOf P ty with
    | some i => eLoad i (fr.lk t) s K
    | none => False
def eresults (P : Program) (fr : Fr) (s : ES) : List ResultVar → (List EV → Prop) → Prop
  | [], K => K []
  | r :: rs, K => eresult1 P r fr s fun v => eresults P fr s rs fun vs => K (v :: vs)
def packE : List EV → EV
  | [v] => v
  | vs => .tuple vs
def resSem (tmps : Array Value) : ResultVar → Sem Value
  | .tmp t => pure (tmps.getD t undef)
  | .cell a t => do loadVar t (← asAddr (tmps.getD a undef))
theorem eresults_sound {P : Program} {fr : Fr} {s : ES} {ρ : Env} {w : World} {a : Act} (hR : Rel ρ s w) (hF : FR ρ fr a) : ∀ (rs : List ResultVar) (K : List EV → Prop), eresults P fr s rs K →
    ∃ vs, K vs ∧ ∃ vs', VRs ρ vs vs' ∧ (rs.mapM (m := Sem) (resSem a.tmps)).run P w = .ok vs' w
  | [], K, h => ⟨[], h, [], VRs.nil, rfl⟩
  | r :: rs, K, h => by
    simp only [eresults] at h
    obtain ⟨v, h1, v', h2, h3⟩ : ∃ v, (eresults P fr s rs fun vs => K (v :: vs)) ∧ ∃ v', VR ρ v v' ∧ (resSem a.tmps r).run P w = .ok v' w := by
      cases r with
      | tmp t => exact ⟨_, h, _, hF.slot t, rfl⟩
      | cell t ty =>
        simp only [eresult1] at h
        split at h
        · rename_i i hi
          obtain ⟨v, a1, v', a2, a3, x, a4⟩ := eLoad_sound hi h hR (hF.slot t)
          refine ⟨v, a1, v', a2, ?_⟩
          rw [a4] at a3
          simp only [resSem, a4]
          simpa [Instr.loadAt, Instr.sureAddr, asAddr] using a3
        · exact h.elim
    obtain ⟨vs, k1, vs', k2, k3⟩ := eresults_sound hR hF rs _ h1
    refine ⟨v :: vs, k1, v' :: vs', VRs.cons h2 k2, ?_⟩
    simp only [List.mapM_cons, Sem.run_bind, h3, Result.andThen_ok, k3, Sem.run_pure]
theorem run_results {P : Program} {fn : Func} {tmps : Array Value} {w : World} {vs' : List Value} (h : (fn.results.toList.mapM (m := Sem) (resSem tmps)).run P w = .ok vs' w) :
    (results fn tmps).run P w = .ok (if h : vs'.toArray.size = 1 then vs'.toArray[0] else .tuple vs'.toArray) w := by
  have : (results fn tmps) = (do let vs ← fn.results.mapM (resSem tmps); pure (if h : vs.size = 1 then vs[0] else .tuple vs)) := by
    unfold results
    congr 1
  rw [this, Array.mapM_eq_mapM_toList]
  simp only [Sem.run_bind, Sem.run_map, h, Result.andThen_ok, Sem.run_pure]
theorem packE_rel {ρ : Env} {vs : List EV} {vs' : List Value} (h : VRs ρ vs vs') : VR ρ (packE vs) (if h : vs'.toArray.size = 1 then vs'.toArray[0] else .tuple vs'.toArray) := by
  rcases vs with _ | ⟨v, _ | ⟨u, r⟩⟩
  · rw [VRs] at h; subst h; simp [packE, VR, VRs]
  · rw [VRs] at h
    obtain ⟨v', l', rfl, h1, h2⟩ := h
    rw [VRs] at h2; subst h2
    simpa [packE] using h1
  · have hl := h.length
    rw [dif_neg (by simp [hl])]
    simp only [packE, VR]
    exact ⟨_, rfl, by simpa using h⟩
def Done (k : Nat) (Q : ER → ES → Prop) (v : ER) (s : ES) : Prop := ∃ s0 : ES, Less s0 s ∧ k ≤ s0.nx ∧ (match v with | .ret v => v.bel s0.nx | .pan v => v.bel s0.nx) ∧ Q v s0
def Final (P : Program) (rs : List ResultVar) (k : Nat) (Q : ER → ES → Prop) : X → Fr → ES → Prop
  | .normal, fr, s => eresults P fr s rs fun vs => Done k Q (.ret (packE vs)) s
  | .ret, fr, s => eresults P fr s rs fun vs => Done k Q (.ret (packE vs)) s
  | .pan v, _, s => Done k Q (.pan v) s
  | .exit _, _, _ => False
  | .goto _, _, _ => False
def enumL : Nat → List EV → List (Nat × EV)
  | _, [] => []
  | i, v :: vs => (i, v) :: enumL (i + 1) vs
theorem enumL_lkp : ∀ (l : List EV) (i t : Nat), lkp (enumL i l) t = if i ≤ t then l[t - i]? else none
  | [], i, t => by simp [enumL, lkp]
  | v :: l, i, t => by
    simp only [enumL, lkp, enumL_lkp l (i + 1) t]
    by_cases h : i = t
    · subst h; simp
    · rw [if_neg h]
      by_cases h2 : i + 1 ≤ t
      · rw [if_pos h2, if_pos (by omega), show t - i = (t - (i + 1)) + 1 by omega]; simp
      · rw [if_neg h2, if_neg (by omega)]
theorem FR.enter {ρ : Env} {args : List EV} {args' : Array Value} (h : VRs ρ args args'.toList) (n : Nat) (hn : args.length ≤ n) : FR ρ ⟨enumL 0 args, undefE, n⟩ { tmps := args' ++ Array.replicate (n - args'.size) undef, defers := [] } := by
  have hl : args'.size = args.length := by have := h.length; simpa using this
  refine ⟨rfl, by simp; omega, fun t => ?_⟩
  simp only [Fr.lk, enumL_lkp, Nat.zero_le, if_true, Nat.sub_zero]
  rw [Array.getD_eq_getD_getElem?]
  cases hv : args[t]? with
  | none =>
    have : args.length ≤ t := by
      rcases Nat.lt_or_ge t args.length with h1 | h1
      · simp [h1] at hv
      · exact h1
    rw [Array.getElem?_append_right (by omega)]
    have : ((Array.replicate (n - args'.size) undef)[t - args'.size]?).getD undef = undef := by
      simp only [Array.getElem?_replicate]; split <;> rfl
    rw [this]; exact VR.undef
  | some v =>
    obtain ⟨v', h1, h2⟩ := h.get t v hv
    have hlt : t < args'.size := by
      have := (List.getElem?_eq_some_iff.1 hv).1; omega
    rw [Array.getElem?_append_left hlt]
    have : args'[t]? = some v' := by simpa using h1
    rw [this]; exact h2
end Go.E
namespace Go.E
set_option linter.all false
mutual
def EV.ren (π : Nat → Nat) : EV → EV
  | .unk => .unk
  | .bool b => .bool b
  | .int k n => .int k n
  | .str s => .str s
  | .ptr none => .ptr none
  | .ptr (some a) => .ptr (some ⟨π a.b, a.o⟩)
  | .slice none n c => .slice none n c
  | .slice (some a) n c => .slice (some ⟨π a.b, a.o⟩) n c
  | .map none => .map none
  | .map (some r) => .map (some (π r))
  | .fn f as bs => .fn f (renL π as) (renL π bs)
  | .nilFn => .nilFn
  | .iface t v => .iface t (EV.ren π v)
  | .nilIface => .nilIface
  | .agg cs => .agg (renL π cs)
  | .tuple cs => .tuple (renL π cs)
def renL (π : Nat → Nat) : List EV → List EV
  | [] => []
  | v :: vs => EV.ren π v :: renL π vs
end
def renP (π : Nat → Nat) : List (EV × EV) → List (EV × EV)
  | [] => []
  | (x, y) :: r => (x.ren π, y.ren π) :: renP π r
def EO.ren (π : Nat → Nat) : EO → EO
  | .cells c t z wr fz => .cells (renL π c) t z wr fz
  | .map es => .map (renP π es)
  | .sIter s p => .sIter s p
def ER.ren (π : Nat → Nat) : ER → ER
  | .ret v => .ret (v.ren π)
  | .pan v => .pan (v.ren π)
theorem renL_length (π : Nat → Nat) : ∀ l : List EV, (renL π l).length = l.length
  | [] => rfl
  | v :: l => by simp [renL, renL_length π l]
theorem renL_get (π : Nat → Nat) : ∀ (l : List EV) (i : Nat), (renL π l)[i]? = (l[i]?).map (EV.ren π)
  | [], i => by simp [renL]
  | v :: l, i => by
    cases i with
    | zero => simp [renL]
    | succ i => simp [renL, renL_get π l i]
theorem renP_length (π : Nat → Nat) : ∀ l : List (EV × EV), (renP π l).length = l.length
  | [] => rfl
  | (_, _) :: l => by simp [renP, renP_length π l]
theorem renP_get (π : Nat → Nat) : ∀ (l : List (EV × EV)) (i : Nat), (renP π l)[i]? = (l[i]?).map fun x => (x.1.ren π, x.2.ren π)
  | [], i => by simp [renP]
  | (_, _) :: l, i => by
    cases i with
    | zero => simp [renP]
    | succ i => simp [renP, renP_get π l i]
mutual
/-- From the small state's names to the great one's. -/
theorem VR.renTo {ρ ρ' : Env} {π : Nat → Nat} (h : ∀ i l, ρ i = some l → ρ' (π i) = some l) : ∀ (v : EV) (v' : Value), VR ρ v v' → VR ρ' (v.ren π) v'
  | .unk, _, _ => by simp [EV.ren, VR]
  | .bool _, _, x => by simpa [EV.ren, VR] using x
  | .int _ _, _, x => by simpa [EV.ren, VR] using x
  | .str _, _, x => by simpa [EV.ren, VR] using x
  | .ptr none, _, x => by simpa [EV.ren, VR] using x
  | .ptr (some _), _, x => by
    simp only [EV.ren, VR] at x ⊢
    obtain ⟨l, a, b⟩ := x; exact ⟨l, h _ _ a, b⟩
  | .slice none _ _, _, x => by simpa [EV.ren, VR] using x
  | .slice (some _) _ _, _, x => by
    simp only [EV.ren, VR] at x ⊢
    obtain ⟨l, c', o', a, b⟩ := x; exact ⟨l, c', o', h _ _ a, b⟩
  | .map none, _, x => by simpa [EV.ren, VR] using x
  | .map (some _), _, x => by
    simp only [EV.ren, VR] at x ⊢
    obtain ⟨l, a, b⟩ := x; exact ⟨l, h _ _ a, b⟩
  | .fn _ as bs, _, x => by
    simp only [EV.ren, VR] at x ⊢
    obtain ⟨as', bs', a, b, c⟩ := x; exact ⟨as', bs', a, VRs.renTo h as _ b, VRs.renTo h bs _ c⟩
  | .nilFn, _, x => by simpa [EV.ren, VR] using x
  | .iface _ y, _, x => by
    simp only [EV.ren, VR] at x ⊢
    obtain ⟨z, a, b⟩ := x; exact ⟨z, a, VR.renTo h y z b⟩
  | .nilIface, _, x => by simpa [EV.ren, VR] using x
  | .agg cs, _, x => by
    simp only [EV.ren, VR] at x ⊢
    obtain ⟨cs', a, b⟩ := x; exact ⟨cs', a, VRs.renTo h cs _ b⟩
  | .tuple cs, _, x => by
    simp only [EV.ren, VR] at x ⊢
    obtain ⟨cs', a, b⟩ := x; exact ⟨cs', a, VRs.renTo h cs _ b⟩
theorem VRs.renTo {ρ ρ' : Env} {π : Nat → Nat} (h : ∀ i l, ρ i = some l → ρ' (π i) = some l) : ∀ (v : List EV) (v' : List Value), VRs ρ v v' → VRs ρ' (renL π v) v'
  | [], _, x => by simpa [renL, VRs] using x
  | v :: vs, _, x => by
    simp only [renL, VRs] at x ⊢
    obtain ⟨v', l', a, b, c⟩ := x; exact ⟨v', l', a, VR.renTo h v v' b, VRs.renTo h vs l' c⟩
end
mutual
/-- Back: of values whose names are all known. -/
theorem VR.renFrom {ρ ρ' : Env} {π : Nat → Nat} {k : Nat} (h : ∀ i, i < k → ρ i = ρ' (π i)) : ∀ (v : EV) (v' : Value), VR ρ' (v.ren π) v' → v.bel k → VR ρ v v'
  | .unk, _, _, _ => by simp [VR]
  | .bool _, _, x, _ => by simpa [EV.ren, VR] using x
  | .int _ _, _, x, _ => by simpa [EV.ren, VR] using x
  | .str _, _, x, _ => by simpa [EV.ren, VR] using x
  | .ptr none, _, x, _ => by simpa [EV.ren, VR] using x
  | .ptr (some a), _, x, hb => by
    simp only [EV.ren, VR, EV.bel] at x hb ⊢
    rw [h _ hb]; exact x
  | .slice none _ _, _, x, _ => by simpa [EV.ren, VR] using x
  | .slice (some a) _ _, _, x, hb => by
    simp only [EV.ren, VR, EV.bel] at x hb ⊢
    rw [h _ hb]; exact x
  | .map none, _, x, _ => by simpa [EV.ren, VR] using x
  | .map (some _), _, x, hb => by
    simp only [EV.ren, VR, EV.bel] at x hb ⊢
    rw [h _ hb]; exact x
  | .fn _ as bs, _, x, hb => by
    simp only [EV.ren, VR, EV.bel] at x hb ⊢
    obtain ⟨as', bs', a, b, c⟩ := x; exact ⟨as', bs', a, VRs.renFrom h as _ b hb.1, VRs.renFrom h bs _ c hb.2⟩
  | .nilFn, _, x, _ => by simpa [EV.ren, VR] using x
  | .iface _ y, _, x, hb => by
    simp only [EV.ren, VR, EV.bel] at x hb ⊢
    obtain ⟨z, a, b⟩ := x; exact ⟨z, a, VR.renFrom h y z b hb⟩
  | .nilIface, _, x, _ => by simpa [EV.ren, VR] using x
  | .agg cs, _, x, hb => by
    simp only [EV.ren, VR, EV.bel] at x hb ⊢
    obtain ⟨cs', a, b⟩ := x; exact ⟨cs', a, VRs.renFrom h cs _ b hb⟩
  | .tuple cs, _, x, hb => by
    simp only [EV.ren, VR, EV.bel] at x hb ⊢
    obtain ⟨cs', a, b⟩ := x; exact ⟨cs', a, VRs.renFrom h cs _ b hb⟩
theorem VRs.renFrom {ρ ρ' : Env} {π : Nat → Nat} {k : Nat} (h : ∀ i, i < k → ρ i = ρ' (π i)) : ∀ (v : List EV) (v' : List Value), VRs ρ' (renL π v) v' → allBelow k v → VRs ρ v v'
  | [], _, x, _ => by simpa [renL, VRs] using x
  | v :: vs, _, x, hb => by
    simp only [renL, VRs, allBelow] at x hb ⊢
    obtain ⟨v', l', a, b, c⟩ := x; exact ⟨v', l', a, VR.renFrom h v v' b hb.1, VRs.renFrom h vs l' c hb.2⟩
end
theorem BR.renTo {ρ ρ' : Env} {π : Nat → Nat} (h : ∀ i l, ρ i = some l → ρ' (π i) = some l) {w : World} {l : Loc} {o : EO} (hb : BR ρ w l o) : BR ρ' w l (o.ren π) := by
  cases o with
  | cells c t z wr fz =>
    obtain ⟨h1, h2, h3, h4, cs, fr, h5, h6, h7, h8⟩ := hb
    refine ⟨by rw [renL_length]; exact h1, h2, h3, h4, cs, fr, h5, h6, fun i v hi => ?_, h8⟩
    rw [renL_get] at hi
    cases hc : c[i]? with
    | none => simp [hc] at hi
    | some u =>
      simp [hc] at hi; subst hi
      obtain ⟨v', a, b⟩ := h7 i u hc
      exact ⟨v', a, b.renTo h _ _⟩
  | map es =>
    obtain ⟨es', cl, h1, h2, h3⟩ := hb
    refine ⟨es', cl, h1, by rw [renP_length]; exact h2, fun i k v hi => ?_⟩
    rw [renP_get] at hi
    cases hc : es[i]? with
    | none => simp [hc] at hi
    | some u =>
      simp [hc] at hi
      obtain ⟨e, a, b, c⟩ := h3 i u.1 u.2 hc
      rw [← hi.1, ← hi.2]
      exact ⟨e, a, b.renTo h _ _, c.renTo h _ _⟩
  | sIter s p => exact hb
theorem BR.renFrom {ρ ρ' : Env} {π : Nat → Nat} {k : Nat} (h : ∀ i, i < k → ρ i = ρ' (π i)) {w : World} {l : Loc} {o : EO} (hb : BR ρ' w l (o.ren π)) (hk : o.bel k) : BR ρ w l o := by
  cases o with
  | cells c t z wr fz =>
    obtain ⟨h1, h2, h3, h4, cs, fr, h5, h6, h7, h8⟩ := hb
    refine ⟨by rw [renL_length] at h1; exact h1, h2, h3, h4, cs, fr, h5, h6, fun i v hi => ?_, h8⟩
    obtain ⟨v', a, b⟩ := h7 i (v.ren π) (by rw [renL_get, hi]; rfl)
    exact ⟨v', a, b.renFrom h _ _ (allBelow_get hk hi)⟩
  | map es =>
    obtain ⟨es', cl, h1, h2, h3⟩ := hb
    refine ⟨es', cl, h1, by rw [renP_length] at h2; exact h2, fun i x y hi => ?_⟩
    obtain ⟨e, a, b, c⟩ := h3 i (x.ren π) (y.ren π) (by rw [renP_get, hi]; rfl)
    exact ⟨e, a, b.renFrom h _ _ (pairsBelow_get hk hi).1, c.renFrom h _ _ (pairsBelow_get hk hi).2⟩
  | sIter s p => exact hb
def Merged (π : Nat → Nat) (s s' S S' : ES) : Prop :=
  s.nx ≤ s'.nx ∧ S'.gl = S.gl ∧ S'.nx = S.nx + (s'.nx - s.nx) ∧ ∀ j O, S'.get j = some O → (∃ i o, s'.get i = some o ∧ π i = j ∧ O = o.ren π) ∨ (S.get j = some O ∧ ∀ i o, s.get i = some o → π i ≠ j)
theorem ECalls.frame {P : Program} {g : FuncId} {args args2 : List EV} {s S : ES} {Q Q2 : ER → ES → Prop} (h : ECalls P g args s Q) (π : Nat → Nat) (hargs : args2 = renL π args) (hab : allBelow s.nx args)
    (hinj : ∀ i j, i < s.nx → j < s.nx → π i = π j → i = j) (hlt : ∀ i, i < s.nx → π i < S.nx) (hnew : ∀ i, π (s.nx + i) = S.nx + i) (hbl : blBelow s.nx s.bl)
    (hget : ∀ i o, s.get i = some o → S.get (π i) = some (o.ren π)) (hgl : ∀ x ∈ s.gl, x ∈ S.gl)
    (hQ : ∀ x s', Q x s' → ∃ S', Merged π s s' S S' ∧ Q2 (x.ren π) S') : ECalls P g args2 S Q2 := by
  subst hargs
  intro ρ w args' hR hA
  let ρg : Env := fun i => if i < s.nx then ρ (π i) else none
  have hgi : ∀ i, i < s.nx → ρg i = ρ (π i) := fun i hi => if_pos hi
  have hsb : ∀ i o, s.get i = some o → i < s.nx ∧ o.bel s.nx := fun i o hi => blBelow_lkp hbl (ES.get_lt hi).2
  have hRg0 : Rel0 ρg s w := by
    refine ⟨fun b o l hg hr => ?_, fun i hi => if_neg (by omega), fun b b' o o' l l' hg hg' hr hr' hne hw => ?_⟩
    · have hb := hsb b o hg
      rw [hgi b hb.1] at hr
      exact (hR.live _ _ _ (hget b o hg) hr).renFrom hgi hb.2
    · have hb := hsb b o hg
      have hb' := hsb b' o' hg'
      rw [hgi b hb.1] at hr
      rw [hgi b' hb'.1] at hr'
      exact hR.sep _ _ _ _ _ _ (hget b o hg) (hget b' o' hg') hr hr' (fun e => hne (hinj b b' hb.1 hb'.1 e)) (by cases o <;> exact hw)
  have hown : ∀ r, Owned ρg s r → ∃ b o l, s.get b = some o ∧ ρ (π b) = some l ∧ l.r = r ∧ o.wr = true := by
    rintro r ⟨b, o, l, hg, hr, hw, e⟩
    rw [hgi b (hsb b o hg).1] at hr
    exact ⟨b, o, l, hg, hr, e, hw⟩
  have hwr : ∀ o : EO, (o.ren π).wr = o.wr := fun o => by cases o <;> rfl
  have hRg : Rel ρg s w := ⟨hRg0, fun x hx => by
    obtain ⟨q1, q2⟩ := hR.glob x (hgl x hx)
    refine ⟨q1, fun ho => q2 ?_⟩
    obtain ⟨b, o, l, a1, a2, a3, a4⟩ := hown _ ho
    exact ⟨π b, _, l, hget b o a1, a2, by rw [hwr]; exact a4, a3⟩⟩
  have hcall := h ρg w args' hRg (VRs.renFrom hgi args _ hA hab)
  have main : ∀ e w', EPost ρg s w Q e w' → EPost ρ S w Q2 e w' := by
    rintro e w' ⟨x, s', ρg', hret, hG, hq⟩
    obtain ⟨S', ⟨hle, hSgl, hnx, hm0⟩, hq2⟩ := hQ x s' hq
    have hm : ∀ j O, S'.get j = some O → (∃ i o, s'.get i = some o ∧ i < s'.nx ∧ π i = j ∧ O = o.ren π) ∨ (j < S.nx ∧ S.get j = some O ∧ ∀ i o, s.get i = some o → π i ≠ j) := by
      intro j O hj
      rcases hm0 j O hj with ⟨i, o, a1, a2, a3⟩ | ⟨a1, a2⟩
      · exact .inl ⟨i, o, a1, (ES.get_lt a1).1, a2, a3⟩
      · exact .inr ⟨(ES.get_lt a1).1, a1, a2⟩
    let ρ' : Env := fun j => if j < S.nx then ρ j else ρg' (s.nx + (j - S.nx))
    have hπ : ∀ i l, ρg' i = some l → ρ' (π i) = some l := by
      intro i l hi
      by_cases hlt' : i < s.nx
      · rw [hG.old i hlt', hgi i hlt'] at hi
        show (if π i < S.nx then ρ (π i) else _) = _
        rw [if_pos (hlt i hlt')]; exact hi
      · have : π i = S.nx + (i - s.nx) := by rw [← hnew (i - s.nx)]; congr 1; omega
        show (if π i < S.nx then ρ (π i) else _) = _
        rw [if_neg (by omega), this, show s.nx + (S.nx + (i - s.nx) - S.nx) = i by omega]; exact hi
    have hπ' : ∀ i, i < s'.nx → ρ' (π i) = ρg' i := by
      intro i hi
      by_cases hlt' : i < s.nx
      · show (if π i < S.nx then ρ (π i) else _) = _
        rw [if_pos (hlt i hlt'), hG.old i hlt', hgi i hlt']
      · have : π i = S.nx + (i - s.nx) := by rw [← hnew (i - s.nx)]; congr 1; omega
        show (if π i < S.nx then ρ (π i) else _) = _
        rw [if_neg (by omega), this, show s.nx + (S.nx + (i - s.nx) - S.nx) = i by omega]
    have hπinj : ∀ i j, π i = π j → i = j := by
      intro i j hij
      by_cases h1 : i < s.nx <;> by_cases h2 : j < s.nx
      · exact hinj i j h1 h2 hij
      · have a1 := hlt i h1
        have : π j = S.nx + (j - s.nx) := by rw [← hnew (j - s.nx)]; congr 1; omega
        omega
      · have a1 := hlt j h2
        have : π i = S.nx + (i - s.nx) := by rw [← hnew (i - s.nx)]; congr 1; omega
        omega
      · have a1 : π j = S.nx + (j - s.nx) := by rw [← hnew (j - s.nx)]; congr 1; omega
        have a2 : π i = S.nx + (i - s.nx) := by rw [← hnew (i - s.nx)]; congr 1; omega
        omega
    have hold : ∀ j, j < S.nx → ρ' j = ρ j := fun j hj => if_pos hj
    have hlei : ρ.le ρ' := fun j l hj => by
      rcases Nat.lt_or_ge j S.nx with h1 | h1
      · rw [hold j h1]; exact hj
      · rw [hR.fresh j h1] at hj; cases hj
    -- a block of the frame lies as it lay
    have hframe : ∀ j O l, S.get j = some O → ρ j = some l → (∀ i o, s.get i = some o → π i ≠ j) → w'.heap[l.r]? = w.heap[l.r]? := by
      intro j O l hg hr hne
      have hb := hR.live j O l hg hr
      refine hG.step.block l.r hb.lt ?_
      intro ho
      obtain ⟨b, o, l2, c1, c2, c3, c4⟩ := hown _ ho
      exact hR.sep (π b) j _ _ l2 l (hget b o c1) hg c2 hr (hne b o c1) (by rw [hwr]; exact c4) c3
    refine ⟨x.ren π, S', ρ', ?_, ?_, hq2⟩
    · cases x with
      | ret v => obtain ⟨v', e1, e2⟩ := hret; exact ⟨v', e1, e2.renTo hπ _ _⟩
      | pan v => obtain ⟨v', e1, e2⟩ := hret; exact ⟨v', e1, e2.renTo hπ _ _⟩
    · refine ⟨⟨fun j O l hg hr => ?_, fun j hj => ?_, fun j j' O O' l l' hg hg' hr hr' hne hw => ?_⟩, hold, by omega, hR, fun j hj hn => ?_, ?_, fun j O l hg hr => ?_, hSgl⟩
      · rcases hm j O hg with ⟨i, o, a1, a2, a3, a4⟩ | ⟨a1, a2, a3⟩
        · subst a3; subst a4
          rw [hπ' i a2] at hr
          exact (hG.rel.live i o l a1 hr).renTo hπ
        · rw [hold j a1] at hr
          exact (hR.live j O l a2 hr).mono hlei (hframe j O l a2 hr a3)
      · show (if j < S.nx then ρ j else _) = _
        rw [if_neg (by omega)]
        exact hG.rel.fresh _ (by omega)
      · rcases hm j O hg with ⟨i, o, a1, a2, a3, a4⟩ | ⟨a1, a2, a3⟩
        · subst a3; subst a4
          rw [hπ' i a2] at hr
          rw [hwr] at hw
          rcases hm j' O' hg' with ⟨i', o', b1, b2, b3, b4⟩ | ⟨b1, b2, b3⟩
          · subst b3; subst b4
            rw [hπ' i' b2] at hr'
            exact hG.rel.sep i i' o o' l l' a1 b1 hr hr' (fun e => hne (by rw [e])) hw
          · rw [hold j' b1] at hr'
            have hlt' := (hR.live j' O' l' b2 hr').lt
            rcases hG.src i o l a1 hr with ⟨b0, o0, l0, c1, c2, c3, c4⟩ | c1
            · rw [hgi b0 (hsb b0 o0 c1).1] at c2
              have := hR.sep (π b0) j' _ _ l0 l' (hget b0 o0 c1) b2 c2 hr' (b3 b0 o0 c1) (by rw [hwr]; exact c4 hw)
              rwa [c3] at this
            · omega
        · rw [hold j a1] at hr
          have hlt' := (hR.live j O l a2 hr).lt
          rcases hm j' O' hg' with ⟨i', o', b1, b2, b3, b4⟩ | ⟨b1, b2, b3⟩
          · subst b3; subst b4
            rw [hπ' i' b2] at hr'
            rcases hG.src i' o' l' b1 hr' with ⟨b0, o0, l0, c1, c2, c3, c4⟩ | c1
            · rw [hgi b0 (hsb b0 o0 c1).1] at c2
              have := hR.sep j (π b0) _ _ l l0 a2 (hget b0 o0 c1) hr c2 (fun e => a3 b0 o0 c1 e.symm) hw
              rwa [c3] at this
            · omega
          · rw [hold j' b1] at hr'
            exact hR.sep j j' O O' l l' a2 b2 hr hr' hne hw
      · cases hx : S'.get j with
        | none => rfl
        | some O =>
          rcases hm j O hx with ⟨i, o, a1, a2, a3, a4⟩ | ⟨a1, a2, a3⟩
          · by_cases hi : i < s.nx
            · cases hy : s.get i with
              | none => rw [hG.gone i hi hy] at a1; cases a1
              | some o2 => have := hget i o2 hy; rw [a3, hn] at this; cases this
            · have : π i = S.nx + (i - s.nx) := by rw [← hnew (i - s.nx)]; congr 1; omega
              omega
          · rw [hn] at a2; cases a2
      · refine ⟨hG.step.os, hG.step.tape, hG.step.output, hG.step.size, fun r hr ho => hG.step.block r hr fun ho2 => ho ?_⟩
        obtain ⟨b, o, l2, c1, c2, c3, c4⟩ := hown _ ho2
        exact ⟨π b, _, l2, hget b o c1, c2, by rw [hwr]; exact c4, c3⟩
      · rcases hm j O hg with ⟨i, o, a1, a2, a3, a4⟩ | ⟨a1, a2, a3⟩
        · subst a3; subst a4
          rw [hπ' i a2] at hr
          rcases hG.src i o l a1 hr with ⟨b0, o0, l0, c1, c2, c3, c4⟩ | c1
          · rw [hgi b0 (hsb b0 o0 c1).1] at c2
            exact .inl ⟨π b0, _, l0, hget b0 o0 c1, c2, c3, by rw [hwr, hwr]; exact c4⟩
          · exact .inr c1
        · rw [hold j a1] at hr
          exact .inl ⟨j, O, l, a2, hr, rfl, id⟩
  revert hcall
  split
  · exact fun hc => CallsIn.mono hc main
  · exact fun hc => main _ _ hc
  · exact id
end Go.E
namespace Go.E
set_option linter.all false
mutual
theorem EV.ren_bel {π : Nat → Nat} : ∀ (v : EV), v.bel 0 → v.ren π = v
  | .unk, _ => by simp [EV.ren]
  | .bool _, _ => by simp [EV.ren]
  | .int _ _, _ => by simp [EV.ren]
  | .str _, _ => by simp [EV.ren]
  | .ptr none, _ => by simp [EV.ren]
  | .ptr (some a), h => by simp [EV.bel] at h
  | .slice none _ _, _ => by simp [EV.ren]
  | .slice (some a) _ _, h => by simp [EV.bel] at h
  | .map none, _ => by simp [EV.ren]
  | .map (some _), h => by simp [EV.bel] at h
  | .fn _ as bs, h => by
    simp only [EV.bel] at h
    simp [EV.ren, renL_bel as h.1, renL_bel bs h.2]
  | .nilFn, _ => by simp [EV.ren]
  | .iface _ y, h => by
    simp only [EV.bel] at h
    simp [EV.ren, EV.ren_bel y h]
  | .nilIface, _ => by simp [EV.ren]
  | .agg cs, h => by
    simp only [EV.bel] at h
    simp [EV.ren, renL_bel cs h]
  | .tuple cs, h => by
    simp only [EV.bel] at h
    simp [EV.ren, renL_bel cs h]
theorem renL_bel {π : Nat → Nat} : ∀ (v : List EV), allBelow 0 v → renL π v = v
  | [], _ => by simp [renL]
  | v :: vs, h => by
    simp only [allBelow] at h
    simp [renL, EV.ren_bel v h.1, renL_bel vs h.2]
end
def ES.zero (G : List Gl) : ES := ⟨[], 0, G⟩
def Pure (G : List Gl) (P : Program) (g : FuncId) (args : List EV) (v : EV) : Prop := ECalls P g args (ES.zero G) fun x s => x = .ret v ∧ s = ES.zero G
theorem Pure.at {G : List Gl} {P : Program} {g : FuncId} {args : List EV} {v : EV} (h : Pure G P g args v) (ha : allBelow 0 args) (hv : v.bel 0) {S : ES} (hG : S.gl = G) {K Kp : EV → ES → Prop} (hK : K v S) : ECalls P g args S (KC K Kp) := by
  refine ECalls.frame h (fun i => S.nx + i) (renL_bel args ha).symm ha (fun i j h => by simp [ES.zero] at h) (fun i h => by simp [ES.zero] at h) (fun i => by simp [ES.zero]) trivial (fun i o h => by simp [ES.zero, ES.get] at h) (fun x hx => by rw [hG]; exact hx) ?_
  rintro x s' ⟨rfl, rfl⟩
  refine ⟨S, ⟨Nat.le_refl _, rfl, by simp [ES.zero], fun j O hj => .inr ⟨hj, fun i o h => by simp [ES.zero, ES.get] at h⟩⟩, ?_⟩
  simp only [ER.ren, EV.ren_bel v hv]; exact hK
theorem ECalls.toCalls {P : Program} {g : FuncId} {fn : Func} {c : Code} {args : List EV} {args' : Array Value} {Q : ER → ES → Prop} {G : List Gl} (h : ECalls P g args (ES.zero G) Q) (hf : P.funcs[g]? = some fn) (hb : fn.body = some c) (hname : (fn.name == "runtime.NumGoroutine") = false)
    (hA : VRs (fun _ => none) args args'.toList) (w : World) (hGl : ∀ x ∈ G, GlOK w x) : Calls P g args' w fun e w' => ∃ x s' ρ', RetR ρ' x e ∧ RowKit.Below w.heap.size w w' ∧ Q x s' := by
  have hR : Rel (fun _ => none) (ES.zero G) w := ⟨⟨fun b o l hg => by simp [ES.zero, ES.get] at hg, fun _ _ => rfl, fun b b' o o' l l' hg => by simp [ES.zero, ES.get] at hg⟩, fun x hx => ⟨hGl x hx, fun ⟨b, o, l, hg, _⟩ => by simp [ES.zero, ES.get] at hg⟩⟩
  have hc := h _ w args' hR hA
  have hcall : (callFunc g args').run P w = .ok (.enter g args') w := by
    simp only [callFunc, Sem.run_bind, program, Sem.run, Result.andThen_ok, hf, hname, Bool.false_eq_true, if_false, hb, Option.isNone_some]
    rfl
  rw [hcall] at hc
  refine (callsIn_wide (n := 0)).1 (CallsIn.mono hc ?_)
  rintro e w' ⟨x, s', ρ', h1, h2, h3⟩
  refine ⟨x, s', ρ', h1, ⟨h2.step.os, h2.step.tape, h2.step.output, h2.step.size, fun k hk => h2.step.block k hk ?_⟩, h3⟩
  rintro ⟨b, o, l, hg, _⟩
  simp [ES.zero, ES.get] at hg
theorem wrap64E {x : Int} (h1 : -9223372036854775808 ≤ x) (h2 : x ≤ 9223372036854775807) : IntKind.i64.wrap x = x := by
  rw [IntKind.wrap_i64]; omega
theorem tdivE {a b : Int} (h : 0 ≤ a) : a.tdiv b = a / b := Int.tdiv_eq_ediv_of_nonneg h
theorem tmodE {a b : Int} (h : 0 ≤ a) : a.tmod b = a % b := Int.tmod_eq_emod_of_nonneg h
end Go.E
namespace Go.E
set_option linter.all false
def ES.add (s : ES) (b : Nat) (o : EO) : ES := ⟨(b, o) :: s.bl, s.nx, s.gl⟩
structure Ext (b : Nat) (oo : Option EO) (s s2 : ES) : Prop where
  nx : s2.nx = s.nx
  gl : s2.gl = s.gl
  get : ∀ c, s2.get c = match oo with
    | some o => if b = c then some o else s.get c
    | none => s.get c
def Free (b : Nat) (oo : Option EO) (s : ES) : Prop := oo.isSome = true → s.get b = none ∧ b < s.nx ∧ (∀ o, oo = some o → o.wr = true)
theorem Ext.refl (b : Nat) (s : ES) : Ext b none s s := ⟨rfl, rfl, fun _ => rfl⟩
theorem Ext.some {b : Nat} {oo : Option EO} {s s2 : ES} (h : Ext b oo s s2) (hf : Free b oo s) {c : Nat} {o : EO} (hg : s.get c = some o) : s2.get c = some o := by
  rw [h.get]
  cases oo with
  | none => exact hg
  | some x =>
    by_cases hbc : b = c
    · subst hbc; rw [(hf rfl).1] at hg; cases hg
    · simp only [hbc, if_false]; exact hg
theorem ES.get_add {s : ES} {b : Nat} {o : EO} (hb : b < s.nx) (c : Nat) : (s.add b o).get c = if b = c then Option.some o else s.get c := by
  simp only [ES.get, ES.add, lkp]
  by_cases h : b = c
  · subst h; simp [hb]
  · simp only [h, if_false]
theorem Ext.add {s : ES} {b : Nat} {o : EO} (hb : b < s.nx) : Ext b (Option.some o) s (s.add b o) := ⟨rfl, rfl, fun c => ES.get_add hb c⟩
theorem Ext.new {b : Nat} {oo : Option EO} {s s2 : ES} (h : Ext b oo s s2) (hf : Free b oo s) (o : EO) : Ext b oo (s.new o) (s2.new o) ∧ Free b oo (s.new o) := by
  refine ⟨⟨by simp [ES.new, h.nx], h.gl, fun c => ?_⟩, fun hs => ?_⟩
  · rw [ES.get_new, ES.get_new, h.nx, h.get]
    cases oo with
    | none => rfl
    | some x =>
      have hb := (hf rfl).2.1
      by_cases h1 : s.nx = c
      · subst h1
        simp only [if_true]
        rw [if_neg (by omega)]
      · simp only [h1, if_false]
  · obtain ⟨h1, h2, h3⟩ := hf hs
    exact ⟨by rw [ES.get_new, if_neg (by omega)]; exact h1, by simp [ES.new]; omega, h3⟩
theorem Ext.set {b : Nat} {oo : Option EO} {s s2 : ES} (h : Ext b oo s s2) (hf : Free b oo s) {a : Nat} {o0 : EO} (ha : s.get a = Option.some o0) (o : EO) : Ext b oo (s.set a o) (s2.set a o) ∧ Free b oo (s.set a o) := by
  refine ⟨⟨by simp [ES.set, h.nx], h.gl, fun c => ?_⟩, fun hs => ?_⟩
  · rw [ES.get_set, ES.get_set, h.get, h.get]
    cases oo with
    | none => rfl
    | some x =>
      have hne : b ≠ a := fun e => by subst e; rw [(hf rfl).1] at ha; cases ha
      by_cases h1 : a = c
      · subst h1
        simp only [if_true, if_neg hne]
      · simp only [h1, if_false]
  · obtain ⟨h1, h2, h3⟩ := hf hs
    have hne : a ≠ b := fun e => by subst e; rw [h1] at ha; cases ha
    exact ⟨by rw [ES.get_set, if_neg hne]; exact h1, h2, h3⟩
theorem EPost.ext {s s2 : ES} {ρ : Env} {w : World} {Q Q2 : ER → ES → Prop} {b : Nat} {oo : Option EO} (hx : Ext b oo s s2) (hf : Free b oo s) (hR : Rel ρ s2 w)
    (hQ : ∀ x t t2, Ext b oo t t2 → Free b oo t → Q x t → Q2 x t2) : ∀ e w', EPost ρ s w Q e w' → EPost ρ s2 w Q2 e w' := by
  rintro e w' ⟨x, t, ρ', hret, hG, hq⟩
  let t2 : ES := match oo with
    | Option.some o => t.add b o
    | none => t
  have hft : Free b oo t := fun hs => by
    obtain ⟨h1, h2, h3⟩ := hf hs
    exact ⟨hG.gone b h2 h1, Nat.lt_of_lt_of_le h2 hG.nx, h3⟩
  have hxt : Ext b oo t t2 := by
    cases oo with
    | none => exact Ext.refl b t
    | some o => exact Ext.add (hft rfl).2.1
  refine ⟨x, t2, ρ', hret, ?_, hQ x t t2 hxt hft hq⟩
  have hown : ∀ r, Owned ρ s r → Owned ρ s2 r := fun r ⟨c, o, l, a1, a2, a3, a4⟩ => ⟨c, o, l, hx.some hf a1, a2, a3, a4⟩
  cases hoo : oo with
  | none =>
    subst hoo
    refine ⟨hG.rel0, fun i hi => hG.old i (by rw [← hx.nx]; exact hi), by rw [hx.nx]; exact hG.nx, hR, fun c hcl hn => ?_, ⟨hG.step.os, hG.step.tape, hG.step.output, hG.step.size, fun r hr ho => hG.step.block r hr fun o => ho (hown r o)⟩, fun c o l hg hl => ?_, hxt.gl.trans (hG.gl.trans hx.gl.symm)⟩
    · have hn' := hx.get c; simp only at hn'
      exact hG.gone c (by rw [← hx.nx]; exact hcl) (by rw [← hn']; exact hn)
    · rcases hG.src c o l hg hl with ⟨c0, o0, l0, a1, a2, a3, a4⟩ | h1
      · exact .inl ⟨c0, o0, l0, hx.some hf a1, a2, a3, a4⟩
      · exact .inr h1
  | some o0 =>
    subst hoo
    obtain ⟨f1, f2, f3⟩ := hf rfl
    have hwr : o0.wr = true := f3 o0 rfl
    have hb2 : s2.get b = Option.some o0 := by rw [hx.get]; simp
    have ht2 : ∀ c, t2.get c = if b = c then Option.some o0 else t.get c := fun c => hxt.get c
    have hkeep : ∀ l, ρ b = Option.some l → w'.heap[l.r]? = w.heap[l.r]? := by
      intro l hl
      have hbr := hR.live b o0 l hb2 hl
      refine hG.step.block l.r hbr.lt ?_
      rintro ⟨c, o, l2, a1, a2, a3, a4⟩
      have hne : b ≠ c := fun e => by subst e; rw [f1] at a1; cases a1
      exact hR.sep b c o0 o l l2 hb2 (hx.some hf a1) hl a2 hne hwr a4.symm
    have hρ : ρ' b = ρ b := hG.old b f2
    have hother : ∀ c o l l0, b ≠ c → t.get c = Option.some o → ρ' c = Option.some l → ρ b = Option.some l0 → l0.r ≠ l.r := by
      intro c o l l0 hne hg hl hl0
      have hbr := (hR.live b o0 l0 hb2 hl0).lt
      rcases hG.src c o l hg hl with ⟨c0, o1, l1, a1, a2, a3, a4⟩ | h1
      · have hne0 : b ≠ c0 := fun e => by subst e; rw [f1] at a1; cases a1
        rw [← a3]
        exact hR.sep b c0 o0 o1 l0 l1 hb2 (hx.some hf a1) hl0 a2 hne0 hwr
      · omega
    refine ⟨⟨fun c o l hg hl => ?_, fun i hi => hG.rel.fresh i (by rw [hxt.nx] at hi; exact hi), fun c c' o o' l l' hg hg' hl hl' hne hw => ?_⟩, fun i hi => hG.old i (by rw [← hx.nx]; exact hi), by rw [hx.nx, hxt.nx]; exact hG.nx, hR, fun c hcl hn => ?_,
      ⟨hG.step.os, hG.step.tape, hG.step.output, hG.step.size, fun r hr ho => hG.step.block r hr fun o => ho (hown r o)⟩, fun c o l hg hl => ?_, hxt.gl.trans (hG.gl.trans hx.gl.symm)⟩
    · rw [ht2] at hg
      by_cases hbc : b = c
      · subst hbc
        simp only [if_true, Option.some.injEq] at hg
        subst hg
        rw [hρ] at hl
        exact (hR.live b o0 l hb2 hl).mono hG.le (hkeep l hl)
      · simp only [hbc, if_false] at hg
        exact hG.rel.live c o l hg hl
    · rw [ht2] at hg hg'
      by_cases hbc : b = c
      · subst hbc
        simp only [hne, if_false] at hg'
        rw [hρ] at hl
        exact hother c' o' l' l hne hg' hl' hl
      · simp only [hbc, if_false] at hg
        by_cases hbc' : b = c'
        · subst hbc'
          rw [hρ] at hl'
          exact fun e => hother c o l l' hbc hg hl hl' e.symm
        · simp only [hbc', if_false] at hg'
          exact hG.rel.sep c c' o o' l l' hg hg' hl hl' hne hw
    · rw [hx.get] at hn
      rw [ht2]
      by_cases hbc : b = c
      · simp [hbc] at hn
      · simp only [hbc, if_false] at hn ⊢
        exact hG.gone c (by rw [← hx.nx]; exact hcl) hn
    · rw [ht2] at hg
      by_cases hbc : b = c
      · subst hbc
        simp only [if_true, Option.some.injEq] at hg
        subst hg
        rw [hρ] at hl
        exact .inl ⟨b, o0, l, hb2, hl, rfl, id⟩
      · simp only [hbc, if_false] at hg
        rcases hG.src c o l hg hl with ⟨c0, o1, l1, a1, a2, a3, a4⟩ | h1
        · exact .inl ⟨c0, o1, l1, hx.some hf a1, a2, a3, a4⟩
        · exact .inr h1
theorem ECalls.ext {P : Program} {g : FuncId} {args : List EV} {s s2 : ES} {Q Q2 : ER → ES → Prop} {b : Nat} {oo : Option EO} (h : ECalls P g args s Q) (hx : Ext b oo s s2) (hf : Free b oo s)
    (hQ : ∀ x t t2, Ext b oo t t2 → Free b oo t → Q x t → Q2 x t2) : ECalls P g args s2 Q2 := by
  intro ρ w args' hR hA
  have hR1 : Rel ρ s w := (hR.less (s' := s) (fun c o hg => hx.some hf hg) (by rw [hx.nx]; exact Nat.le_refl _) hx.gl.symm).rel
  have hc := h ρ w args' hR1 hA
  have main := EPost.ext (Q := Q) (Q2 := Q2) hx hf hR hQ
  revert hc
  split
  · exact fun hc => CallsIn.mono hc main
  · exact fun hc => main _ _ hc
  · exact id
theorem EOp.ext {P : Program} {op : Op} {vals : List EV} {s s2 : ES} {K K2 : EV → ES → Prop} {b : Nat} {oo : Option EO} (h : EOp P op vals s K) (hx : Ext b oo s s2) (hf : Free b oo s)
    (hK : ∀ v t t2, Ext b oo t t2 → Free b oo t → K v t → K2 v t2) : EOp P op vals s2 K2 := by
  intro ρ w a o ho hR hv
  have hR1 : Rel ρ s w := (hR.less (s' := s) (fun c o hg => hx.some hf hg) (by rw [hx.nx]; exact Nat.le_refl _) hx.gl.symm).rel
  obtain ⟨v, v', s', ρ', w', h1, h2, h3, h4⟩ := h ρ w a o ho hR1 hv
  obtain ⟨x, t, ρ2, hr, g2, g3⟩ := EPost.ext (Q := KC K fun _ _ => False) (Q2 := KC K2 fun _ _ => False) hx hf hR (fun x t t2 e1 e2 q => by cases x with | ret v => exact hK v t t2 e1 e2 q | pan v => exact q) (.returned v') w' ⟨.ret v, s', ρ', ⟨v', rfl, h2⟩, h3, h4⟩
  cases x with
  | ret v2 => obtain ⟨v2', e, hv2⟩ := hr; cases e; exact ⟨v2, v', t, ρ2, w', h1, hv2, g2, g3⟩
  | pan v2 => exact g3.elim
def opTemps : Op → List Tmp := fun op => op.operands.toList.filterMap fun | .tmp t => Option.some t | _ => none
def Agree (ts : List Tmp) (fr fr2 : Fr) : Prop := fr2.n = fr.n ∧ ∀ t ∈ ts, fr2.lk t = fr.lk t
theorem Agree.ev {op : Op} {fr fr2 : Fr} (h : Agree (opTemps op) fr fr2) : ∀ x ∈ op.operands.toList, ev fr2 x = ev fr x := by
  intro x hx
  cases x with
  | tmp t => exact h.2 t (by simp only [opTemps, List.mem_filterMap]; exact ⟨.tmp t, hx, rfl⟩)
  | const v => rfl
  | func f => rfl
  | global g => rfl
theorem opnds_agree {fr fr2 : Fr} {l : List Operand} (h : ∀ x ∈ l, ev fr2 x = ev fr x) : opnds fr2 l = opnds fr l := List.map_congr_left h
theorem partsE_agree {fr fr2 : Fr} {l : List (Nat × Operand)} (h : ∀ x ∈ l.map (·.2), ev fr2 x = ev fr x) : partsE fr2 l = partsE fr l := by
  refine List.map_congr_left fun x hx => ?_
  rw [h x.2 (List.mem_map_of_mem hx)]
theorem optOp_agree {fr fr2 : Fr} {o : Option Operand} (h : ∀ x, o = Option.some x → ev fr2 x = ev fr x) : optOp fr2 o = optOp fr o := by
  cases o with
  | none => rfl
  | some x => simp only [optOp, h x rfl]
theorem eop_agree {P : Program} {op : Op} {fr fr2 : Fr} {s : ES} {K Kp : EV → ES → Prop} (h : ∀ x ∈ op.operands.toList, ev fr2 x = ev fr x) : eop P op fr2 s K Kp = eop P op fr s K Kp := by
  have hO : opnds fr2 op.operands.toList = opnds fr op.operands.toList := opnds_agree h
  cases op <;> simp only [eop] <;> (try (rw [hO]; done)) <;> (try simp only [Op.operands, List.mem_cons, List.not_mem_nil, or_false, forall_eq_or_imp, forall_eq] at h)
  case move => rw [h]
  case assign => rw [h]
  case pick => rw [h.1, h.2.1, h.2.2]
  case box => rw [h]
  case build t ps => rw [partsE_agree (by simpa using h)]
  case buildSlice t n ps => rw [partsE_agree (by simpa using h)]
  case load => rw [h]
  case store => rw [h.1, h.2]
  case nilCheck => rw [h]
  case binOp => rw [h.1, h.2]
  case unOp => rw [h]
  case convert => rw [h]
  case slice t x lo hi mx =>
    rw [h x (by simp), optOp_agree (o := lo) (fun y hy => h y (by subst hy; simp)), optOp_agree (o := hi) (fun y hy => h y (by subst hy; simp)), optOp_agree (o := mx) (fun y hy => h y (by subst hy; simp))]
  case fieldAddr => rw [h]
  case field => rw [h]
  case indexAddr => rw [h.1, h.2]
  case index => rw [h.1, h.2]
  case makeInterface => rw [h]
  case makeFunc f first cap =>
    rw [opnds_agree (l := first.toList) (fun x hx => h x (by simp [hx])), opnds_agree (l := cap.toList) (fun x hx => h x (by simp [hx]))]
  case extract => rw [h]
  case call c =>
    obtain ⟨callee, args, ts⟩ := c
    have hargs : opnds fr2 args.toList = opnds fr args.toList := opnds_agree fun x hx => h x (by simp [Call.operands, hx])
    cases callee with
    | builtin b => simp only [ecall, hargs]
    | invoke x m => rfl
    | value f => simp only [ecall, hargs, h f (by simp [Call.operands])]
def Det (f : (EV → Prop) → Prop) : Prop := ∀ K, f K → ∃ v, ∀ K' : EV → Prop, f K' ↔ K' v
theorem Det.mono {f : (EV → Prop) → Prop} (h : Det f) {K K' : EV → Prop} (hK : ∀ v, K v → K' v) (hf : f K) : f K' := by
  obtain ⟨v, h1⟩ := h K hf
  exact (h1 K').2 (hK v ((h1 K).1 hf))
theorem det_id (v : EV) : ∃ u, ∀ K' : EV → Prop, K' v ↔ K' u := ⟨v, fun _ => Iff.rfl⟩
theorem det_and {p : Prop} (hp : p) (v : EV) : ∃ u, ∀ K' : EV → Prop, (p ∧ K' v) ↔ K' u := ⟨v, fun _ => ⟨fun q => q.2, fun q => ⟨hp, q⟩⟩⟩
theorem det_under {p : Prop} (hp : p) {f : (EV → Prop) → Prop} (h : ∃ u, ∀ K' : EV → Prop, f K' ↔ K' u) : ∃ u, ∀ K' : EV → Prop, (p ∧ f K') ↔ K' u :=
  let ⟨u, hu⟩ := h
  ⟨u, fun K' => ⟨fun q => (hu K').1 q.2, fun q => ⟨hp, (hu K').2 q⟩⟩⟩
theorem det_ebinI (op : BinOp) (k : IntKind) (a : Int) (k' : IntKind) (b : Int) : Det (ebinI op k a k' b) := by
  intro K h
  cases op <;> exact det_and h.1 _
theorem det_ebinS (op : BinOp) (x y : List UInt8) : Det (ebinS op x y) := by
  intro K h
  cases op <;> first | exact det_and h.1 _ | exact det_id _ | exact h.elim
theorem det_ebin (op : BinOp) (x y : EV) : Det (ebin op x y) := by
  intro K h
  unfold ebin at h
  split at h
  · exact det_ebinI _ _ _ _ _ K h
  · exact det_ebinS _ _ _ K h
  all_goals first | (split at h <;> first | exact det_id _ | exact h.elim) | exact h.elim
theorem det_ebinX (P : Program) (op : BinOp) (t : TypeId) (x y : EV) : Det (ebinX P op t x y) := by
  intro K h
  unfold ebinX at h ⊢
  cases op <;> first | exact h.elim | exact det_and h.1 _
theorem det_ebinT (P : Program) (op : BinOp) (t : TypeId) (x y : EV) (c : Bool) : Det (ebinT P op t x y c) := by
  intro K h
  cases hi : tiOf P t with
  | none =>
    unfold ebinT at h ⊢
    simp only [hi] at h ⊢
    split at h <;> first | exact h.elim | exact h.2.elim | exact det_ebin _ _ _ K h | exact det_ebinX P op t _ _ K h
  | some i =>
    obtain ⟨u, sz, by_, z⟩ := i
    unfold ebinT at h ⊢
    rw [hi] at h
    simp only [hi] at h ⊢
    split at h
    · cases u <;> first | exact h.elim | exact det_ebin _ _ _ K h
    · obtain ⟨hc, h⟩ := h
      cases u <;> first | exact h.elim | skip
      cases op <;> first | exact h.elim | exact det_and hc _
    · cases u <;> first | exact h.elim | exact det_ebin _ _ _ K h
    · cases u <;> first | exact h.elim | exact det_ebin _ _ _ K h
    · cases u <;> first | exact h.elim | exact det_ebin _ _ _ K h
    · exact det_ebin _ _ _ K h
    · exact det_ebin _ _ _ K h
    · exact det_ebinX P op t _ _ K h
theorem det_eun (op : UnOp) (x : EV) : Det (eun op x) := by
  intro K h
  unfold eun at h
  split at h <;> first | exact det_id _ | exact h.elim
theorem det_econv (P : Program) (src dst : TypeId) (x : EV) : Det (econv P src dst x) := by
  intro K h
  unfold econv at h ⊢
  cases h1 : tiOf P src with
  | none => simp only [h1] at h
  | some i =>
    cases h2 : tiOf P dst with
    | none => simp only [h1, h2] at h
    | some j =>
      obtain ⟨u, sz, by_, z⟩ := j
      simp only [h1, h2] at h ⊢
      cases x <;> first | exact h.elim | skip
      all_goals cases u <;> first | exact h.elim | exact det_id _
theorem det_epart (j : TI) (cs : List EV) (off : Nat) : Det (epart j cs off) := by
  intro K h
  unfold epart at h ⊢
  split at h
  · rename_i ha
    simp only [if_pos ha]
    exact det_and h.1 _
  · rename_i ha
    simp only [if_neg ha]
    split at h
    · exact det_id _
    · exact h.elim
theorem det_eIndexS (s : List UInt8) (n : Int) : Det (eIndexS s n) := fun _ h => det_and h.1 _
theorem det_eindex (P : Program) (i : TI) (x ix : EV) : Det (eindex P i x ix) := by
  intro K h
  obtain ⟨u, sz, by_, z⟩ := i
  unfold eindex at h
  split at h
  · rename_i hu
    simp only at hu; subst hu
    exact det_eIndexS _ _ K h
  · rename_i e cs k n hu
    simp only at hu; subst hu
    split at h
    · rename_i j hj
      simp only [eindex, hj]
      exact det_under h.1 (det_epart _ _ _ K h.2)
    · exact h.elim
  · exact h.elim
theorem det_efield (P : Program) (i : TI) (x : EV) (f : Nat) : Det (efield P i x f) := by
  intro K h
  obtain ⟨u, sz, by_, z⟩ := i
  unfold efield at h
  split at h
  · rename_i fs cs hu
    simp only at hu; subst hu
    split at h
    · rename_i off ft hf
      split at h
      · rename_i j hj
        simp only [efield, hf, hj]
        exact det_epart _ _ _ K h
      · exact h.elim
    · exact h.elim
  · exact h.elim
theorem det_eextract (x : EV) (n : Nat) : Det (eextract x n) := by
  intro K h
  unfold eextract at h
  split at h
  · split at h
    · rename_i v hv
      simp only [eextract, hv]
      exact det_id _
    · exact h.elim
  · exact h.elim
theorem det_ebuild (P : Program) (i : TI) (ps : List (Nat × EV)) : Det (ebuild P i ps) := by
  intro K h
  obtain ⟨u, sz, by_, z⟩ := i
  unfold ebuild at h
  split at h
  · rename_i fs hu
    simp only at hu; subst hu
    obtain ⟨ha, h⟩ := h
    split at h
    · rename_i c hc
      simp only [ebuild, hc]
      exact det_and ha _
    · exact h.elim
  · rename_i n e hu
    simp only at hu; subst hu
    split at h
    · rename_i j hj
      split at h
      · rename_i c hc
        simp only [ebuild, hj, hc]
        exact det_id _
      · exact h.elim
    · exact h.elim
  · exact h.elim
theorem det_eminmax (f : Int → Int → Int) : ∀ (r : List EV) (x : EV), Det (eminmax f x r)
  | [], x, _, _ => det_id x
  | y :: r, x, K, h => by
    cases x <;> cases y <;> first | exact (h : False).elim | skip
    simp only [eminmax] at h ⊢
    exact det_under h.1 (det_eminmax f r _ K h.2)
theorem det_eLoad (i : TI) (x : EV) (s : ES) : Det (eLoad i x s) := by
  intro K h
  unfold eLoad at h
  split at h
  · split at h
    · rename_i c t z wr fz hg
      simp only [eLoad, hg]
      split at h
      · rename_i ha; simp only [if_pos ha]; exact det_and h.1 _
      · rename_i ha; simp only [if_neg ha]
        split at h
        · exact det_id _
        · exact h.elim
    · exact h.elim
  · exact h.elim
theorem det_elen (i : TI) (x : EV) (s : ES) : Det (elen i x s) := by
  intro K h
  obtain ⟨u, sz, by_, z⟩ := i
  unfold elen at h
  split at h
  · rename_i hu; simp only at hu; subst hu; exact det_id _
  · rename_i hu; simp only at hu; subst hu; exact det_id _
  · rename_i hu; simp only at hu; subst hu; exact det_id _
  · rename_i hu; simp only at hu; subst hu; exact det_id _
  · rename_i hu; simp only at hu; subst hu
    split at h
    · rename_i hg
      simp only [elen, hg]
      exact det_id _
    · exact h.elim
  · exact h.elim
theorem det_eSlice (P : Program) (i : TI) (x : EV) (lo hi mx : Option EV) (s : ES) : Det fun K => eSlice P i x lo hi mx s fun v _ => K v := by
  intro K h
  obtain ⟨u, sz, by_, z⟩ := i
  unfold eSlice at h
  split at h
  · rename_i hu; simp only at hu; subst hu
    obtain ⟨hm, h⟩ := h
    unfold eSliceS at h
    split at h
    · rename_i e1 e2
      simp only [eSlice, eSliceS, e1, e2]
      exact det_under hm (det_and h.1 _)
    · exact h.elim
  · rename_i hu; simp only at hu; subst hu
    split at h
    · rename_i e1 e2 e3 e4
      split at h
      · rename_i hg
        simp only [eSlice, e1, e2, e3, e4, hg]
        exact det_and h.1 _
      · exact h.elim
    · exact h.elim
  · rename_i hu; simp only at hu; subst hu
    split at h
    · rename_i e1 e2 e3 e4
      simp only [eSlice, e1, e2, e3, e4]
      exact det_and h.1 _
    · exact h.elim
  · rename_i hu; simp only at hu; subst hu
    split at h
    · rename_i e1 e2 e3 e4
      split at h
      · rename_i hg
        simp only [eSlice, e1, e2, e3, e4, hg]
        exact det_and h.1 _
      · exact h.elim
    · exact h.elim
  · exact h.elim
theorem det_eFieldAddr (P : Program) (i : TI) (x : EV) (f : Nat) (s : ES) : Det fun K => eFieldAddr P i x f s fun v _ => K v := by
  intro K h
  obtain ⟨u, sz, by_, z⟩ := i
  unfold eFieldAddr at h
  split at h
  · rename_i hu; simp only at hu; subst hu
    split at h
    · rename_i hf
      split at h
      · rename_i hj
        simp only [eFieldAddr, hf, hj]
        exact det_and h.1 _
      · exact h.elim
    · exact h.elim
  · exact h.elim
theorem det_eIndexAddr (P : Program) (i : TI) (x ix : EV) (s : ES) : Det fun K => eIndexAddr P i x ix s fun v _ => K v := by
  intro K h
  obtain ⟨u, sz, by_, z⟩ := i
  unfold eIndexAddr at h
  split at h
  · split at h
    · rename_i hu; simp only at hu; subst hu
      split at h
      · rename_i hj
        simp only [eIndexAddr, hj]
        exact det_and h.1 _
      · exact h.elim
    · rename_i hu; simp only at hu; subst hu
      split at h
      · rename_i hj
        simp only [eIndexAddr, hj]
        exact det_and h.1 _
      · exact h.elim
    · exact h.elim
  · exact h.elim
theorem eop_ext {P : Program} {op : Op} {fr : Fr} {s s2 : ES} {K Kp K2 Kp2 : EV → ES → Prop} {b : Nat} {oo : Option EO} (h : eop P op fr s K Kp) (hx : Ext b oo s s2) (hf : Free b oo s)
    (hK : ∀ v t t2, Ext b oo t t2 → Free b oo t → K v t → K2 v t2) (hKp : ∀ v t t2, Ext b oo t t2 → Free b oo t → Kp v t → Kp2 v t2) : eop P op fr s2 K2 Kp2 := by
  have h0 : ∀ v, K v s → K2 v s2 := fun v => hK v s s2 hx hf
  cases op <;> simp only [eop] at h ⊢ <;> try first | exact h.elim | exact EOp.ext h hx hf hK
  case move => exact h0 _ h
  case assign => exact h0 _ h
  case pick => split at h <;> first | exact ⟨fun e => h0 _ (h.1 e), fun e => h0 _ (h.2 e)⟩ | exact h.elim
  case alloc =>
    split at h
    · unfold eNew at h ⊢
      obtain ⟨h1, h2⟩ := hx.new hf (.cells _ _ 0 true 0)
      rw [hx.nx]; exact hK _ _ _ h1 h2 h
    · exact h.elim
  case box =>
    unfold eBox eNew at h ⊢
    obtain ⟨h1, h2⟩ := hx.new hf (.cells _ _ 0 true 0)
    rw [hx.nx]; exact ⟨h.1, hK _ _ _ h1 h2 h.2⟩
  case build =>
    split at h
    · unfold ebuild at h ⊢
      split at h
      · refine ⟨h.1, ?_⟩
        have h' := h.2
        split at h'
        · exact h0 _ h'
        · exact h'.elim
      · split at h
        · split at h
          · exact h0 _ h
          · exact h.elim
        · exact h.elim
      · exact h.elim
    · exact h.elim
  case buildSlice =>
    split at h
    · unfold ebuildSlice at h ⊢
      split at h
      · split at h
        · refine ⟨h.1, ?_⟩
          have h' := h.2
          split at h'
          · obtain ⟨h1, h2⟩ := hx.new hf (.cells _ _ 0 true 0)
            rw [hx.nx]; exact hK _ _ _ h1 h2 h'
          · exact h'.elim
        · exact h.elim
      · exact h.elim
    · exact h.elim
  case load =>
    split at h
    · unfold eLoad at h ⊢
      split at h
      · split at h
        · rename_i hg
          rw [hx.some hf hg]
          simp only
          split at h
          · rename_i ha; rw [if_pos ha]; exact ⟨h.1, h0 _ h.2⟩
          · rename_i ha; rw [if_neg ha]
            split at h
            · exact h0 _ h
            · exact h.elim
        · exact h.elim
      · exact h.elim
    · exact h.elim
  case store =>
    split at h
    · unfold eStore at h ⊢
      split at h
      · split at h
        · rename_i hg
          rw [hx.some hf hg]
          simp only
          obtain ⟨h1, h2⟩ := hx.set hf hg (.cells _ _ _ true _)
          exact ⟨h.1, hK _ _ _ h1 h2 h.2⟩
        · exact h.elim
      · exact h.elim
    · exact h.elim
  case nilCheck =>
    split at h
    · exact h0 _ h
    · exact h.elim
  case binOp => exact (det_ebinT _ _ _ _ _ _).mono h0 h
  case unOp => exact (det_eun _ _).mono h0 h
  case convert =>
    split at h
    · exact (det_econv _ _ _ _).mono h0 h
    · exact h.ext hx hf hK
  case slice =>
    split at h
    · unfold eSlice at h ⊢
      split at h
      · refine ⟨h.1, ?_⟩
        have h' := h.2
        unfold eSliceS at h' ⊢
        split at h'
        · exact ⟨h'.1, h0 _ h'.2⟩
        · exact h'.elim
      · split at h
        · split at h
          · rename_i hg
            rw [hx.some hf hg]
            exact ⟨h.1, h0 _ h.2⟩
          · exact h.elim
        · exact h.elim
      · split at h
        · exact ⟨h.1, h0 _ h.2⟩
        · exact h.elim
      · split at h
        · split at h
          · rename_i hg
            rw [hx.some hf hg]
            exact ⟨h.1, h0 _ h.2⟩
          · exact h.elim
        · exact h.elim
      · exact h.elim
    · exact h.elim
  case fieldAddr =>
    split at h
    · unfold eFieldAddr at h ⊢
      split at h
      · split at h
        · split at h
          · exact ⟨h.1, h0 _ h.2⟩
          · exact h.elim
        · exact h.elim
      · exact h.elim
    · exact h.elim
  case field =>
    split at h
    · exact (det_efield _ _ _ _).mono h0 h
    · exact h.elim
  case indexAddr =>
    split at h
    · unfold eIndexAddr at h ⊢
      split at h
      · split at h
        · split at h
          · exact ⟨h.1, h0 _ h.2⟩
          · exact h.elim
        · split at h
          · exact ⟨h.1, h0 _ h.2⟩
          · exact h.elim
        · exact h.elim
      · exact h.elim
    · exact h.elim
  case index =>
    split at h
    · exact (det_eindex _ _ _ _).mono h0 h
    · exact h.elim
  case makeInterface =>
    split at h
    · split at h
      · exact h.elim
      · exact h0 _ h
    · exact h.elim
  case makeFunc => exact h0 _ h
  case extract => exact (det_eextract _ _).mono h0 h
  case call c =>
    obtain ⟨callee, args, ts⟩ := c
    cases callee with
    | invoke x m => exact h.elim
    | value f =>
      simp only [ecall] at h ⊢
      split at h
      · refine ECalls.ext h hx hf ?_
        intro x t t2 h1 h2 h3
        cases x with
        | ret v => exact hK v t t2 h1 h2 h3
        | pan v => exact hKp v t t2 h1 h2 h3
      · exact h.elim
    | builtin b =>
      simp only [ecall] at h ⊢
      cases hown : hereB b with
      | false =>
        simp only [hown] at h ⊢
        exact h.ext hx hf hK
      | true =>
      simp only [hown] at h ⊢
      clear hown
      unfold ebuiltin at h ⊢
      split at h
      · split at h
        · unfold elen at h ⊢
          split at h <;> first | exact h0 _ h | exact h.elim | skip
          split at h
          · rename_i hg
            rw [hx.some hf hg]
            exact h0 _ h
          · exact h.elim
        · exact h.elim
      · exact (det_eminmax _ _ _).mono h0 h
      · exact (det_eminmax _ _ _).mono h0 h
      · exact h.elim
end Go.E
namespace Go.E
set_option linter.all false
inductive Cls where
  | P | R | A | E
  deriving DecidableEq
def cls (P : Program) : Op → Cls
  | .move _ | .assign _ | .pick .. | .build .. | .nilCheck _ | .binOp .. | .unOp .. | .fieldAddr .. | .field .. | .indexAddr .. | .index .. | .makeInterface .. | .makeFunc .. | .extract .. => .P
  | .load .. | .slice .. => .R
  | .call { callee := .builtin .len, .. } => .R
  | .call { callee := .builtin .min, .. } | .call { callee := .builtin .max, .. } => .P
  | .alloc _ | .box .. | .buildSlice .. => .A
  | .convert s d _ => match convP P s d with | true => .P | false => .E
  | _ => .E
theorem eSlice_at {P : Program} {i : TI} {x : EV} {lo hi mx : Option EV} {s : ES} {K : EV → ES → Prop} : eSlice P i x lo hi mx s K = eSlice P i x lo hi mx s fun v _ => K v s := by
  unfold eSlice; rfl
theorem eFieldAddr_at {P : Program} {i : TI} {x : EV} {f : Nat} {s : ES} {K : EV → ES → Prop} : eFieldAddr P i x f s K = eFieldAddr P i x f s fun v _ => K v s := by
  unfold eFieldAddr; rfl
theorem eIndexAddr_at {P : Program} {i : TI} {x ix : EV} {s : ES} {K : EV → ES → Prop} : eIndexAddr P i x ix s K = eIndexAddr P i x ix s fun v _ => K v s := by
  unfold eIndexAddr; rfl
theorem eop_det {P : Program} {op : Op} {fr : Fr} {s : ES} {K Kp : EV → ES → Prop} (hc : cls P op = .P ∨ cls P op = .R) (h : eop P op fr s K Kp) : ∃ v, ∀ K2 Kp2 : EV → ES → Prop, eop P op fr s K2 Kp2 ↔ K2 v s := by
  have lift : ∀ {f : (EV → Prop) → Prop}, Det f → f (fun v => K v s) → ∃ v, ∀ K2 Kp2 : EV → ES → Prop, f (fun v => K2 v s) ↔ K2 v s := fun hd hf => let ⟨v, hv⟩ := hd _ hf; ⟨v, fun K2 _ => hv _⟩
  cases op <;> simp only [cls, reduceCtorEq, or_self, or_false, false_or] at hc <;> simp only [eop] at h ⊢ <;> try exact h.elim
  case move => exact ⟨_, fun _ _ => Iff.rfl⟩
  case assign => exact ⟨_, fun _ _ => Iff.rfl⟩
  case pick =>
    split at h
    · rename_i t ht
      try simp only [ht]
      cases t with
      | true => exact ⟨_, fun K2 _ => ⟨fun q => q.1 rfl, fun q => ⟨fun _ => q, fun e => Bool.noConfusion e⟩⟩⟩
      | false => exact ⟨_, fun K2 _ => ⟨fun q => q.2 rfl, fun q => ⟨fun e => Bool.noConfusion e, fun _ => q⟩⟩⟩
    · exact h.elim
  case build =>
    split at h
    · rename_i i hi; (try simp only [hi]); exact lift (det_ebuild _ _ _) h
    · exact h.elim
  case load =>
    split at h
    · rename_i i hi; (try simp only [hi]); exact lift (det_eLoad _ _ _) h
    · exact h.elim
  case nilCheck =>
    split at h
    · rename_i hx; (try simp only [hx]); exact ⟨_, fun _ _ => Iff.rfl⟩
    · exact h.elim
  case binOp => exact lift (det_ebinT _ _ _ _ _ _) h
  case unOp => exact lift (det_eun _ _) h
  case convert src dst x =>
    cases hcv : convP P src dst with
    | false => simp [hcv] at hc
    | true =>
      simp only [hcv] at h ⊢
      exact lift (det_econv _ _ _ _) h
  case slice =>
    split at h
    · rename_i i hi
      try simp only [hi]
      rw [eSlice_at] at h
      obtain ⟨v, hv⟩ := det_eSlice _ _ _ _ _ _ _ _ h
      exact ⟨v, fun K2 _ => by rw [eSlice_at]; exact hv _⟩
    · exact h.elim
  case fieldAddr =>
    split at h
    · rename_i i hi
      try simp only [hi]
      rw [eFieldAddr_at] at h
      obtain ⟨v, hv⟩ := det_eFieldAddr _ _ _ _ _ _ h
      exact ⟨v, fun K2 _ => by rw [eFieldAddr_at]; exact hv _⟩
    · exact h.elim
  case field =>
    split at h
    · rename_i i hi; (try simp only [hi]); exact lift (det_efield _ _ _ _) h
    · exact h.elim
  case indexAddr =>
    split at h
    · rename_i i hi
      try simp only [hi]
      rw [eIndexAddr_at] at h
      obtain ⟨v, hv⟩ := det_eIndexAddr _ _ _ _ _ _ h
      exact ⟨v, fun K2 _ => by rw [eIndexAddr_at]; exact hv _⟩
    · exact h.elim
  case index =>
    split at h
    · rename_i i hi; (try simp only [hi]); exact lift (det_eindex _ _ _ _) h
    · exact h.elim
  case makeInterface =>
    split at h
    · rename_i i hi
      obtain ⟨u, sz, by_, z⟩ := i
      try simp only [hi]
      simp only at h
      cases u <;> first | exact h.elim | exact ⟨_, fun _ _ => Iff.rfl⟩
    · exact h.elim
  case makeFunc => exact ⟨_, fun _ _ => Iff.rfl⟩
  case extract => exact lift (det_eextract _ _) h
  case call c =>
    obtain ⟨callee, args, ts⟩ := c
    cases callee with
    | invoke x m => exact h.elim
    | value f => simp [cls] at hc
    | builtin b =>
      simp only [ecall] at h ⊢
      have hown : hereB b = true := by cases b <;> simp [cls] at hc <;> rfl
      simp only [hown] at h ⊢
      clear hown
      unfold ebuiltin at h
      split at h
      · rename_i t tr x xr e1 e2
        split at h
        · rename_i i hi
          simp only [ebuiltin, e1, e2, hi]
          exact lift (det_elen _ _ _) h
        · exact h.elim
      · rename_i x xr e2
        simp only [ebuiltin, e2]
        exact lift (det_eminmax _ _ _) h
      · rename_i x xr e2
        simp only [ebuiltin, e2]
        exact lift (det_eminmax _ _ _) h
      · exact h.elim
theorem eop_pure {P : Program} {op : Op} {fr : Fr} {s s2 : ES} {K K2 Kp Kp2 : EV → ES → Prop} (hc : cls P op = .P) (h : eop P op fr s K Kp) (hK : ∀ v, K v s → K2 v s2) : eop P op fr s2 K2 Kp2 := by
  cases op <;> simp only [cls, reduceCtorEq] at hc <;> simp only [eop] at h ⊢ <;> try exact h.elim
  case move => exact hK _ h
  case assign => exact hK _ h
  case pick => split at h <;> first | exact ⟨fun e => hK _ (h.1 e), fun e => hK _ (h.2 e)⟩ | exact h.elim
  case build =>
    split at h
    · exact (det_ebuild _ _ _).mono hK h
    · exact h.elim
  case nilCheck =>
    split at h
    · exact hK _ h
    · exact h.elim
  case binOp => exact (det_ebinT _ _ _ _ _ _).mono hK h
  case unOp => exact (det_eun _ _).mono hK h
  case convert src dst x =>
    cases hcv : convP P src dst with
    | false => simp [hcv] at hc
    | true =>
      simp only [hcv] at h ⊢
      exact (det_econv _ _ _ _).mono hK h
  case fieldAddr =>
    split at h
    · unfold eFieldAddr at h ⊢
      split at h
      · split at h
        · split at h
          · exact ⟨h.1, hK _ h.2⟩
          · exact h.elim
        · exact h.elim
      · exact h.elim
    · exact h.elim
  case field =>
    split at h
    · exact (det_efield _ _ _ _).mono hK h
    · exact h.elim
  case indexAddr =>
    split at h
    · unfold eIndexAddr at h ⊢
      split at h
      · split at h
        · split at h
          · exact ⟨h.1, hK _ h.2⟩
          · exact h.elim
        · split at h
          · exact ⟨h.1, hK _ h.2⟩
          · exact h.elim
        · exact h.elim
      · exact h.elim
    · exact h.elim
  case index =>
    split at h
    · exact (det_eindex _ _ _ _).mono hK h
    · exact h.elim
  case makeInterface =>
    split at h
    · split at h
      · exact h.elim
      · exact hK _ h
    · exact h.elim
  case makeFunc => exact hK _ h
  case extract => exact (det_eextract _ _).mono hK h
  case call c =>
    obtain ⟨callee, args, ts⟩ := c
    cases callee with
    | invoke x m => exact h.elim
    | value f => simp [cls] at hc
    | builtin b =>
      cases b <;> simp [cls] at hc
      all_goals
        simp only [ecall, hereB] at h ⊢
        unfold ebuiltin at h ⊢
        split at h <;> first | exact h.elim | (rename_i hb _ _; cases hb; done) | exact (det_eminmax _ _ _).mono hK h
def eopA (P : Program) (b : Nat) (op : Op) (fr : Fr) (s : ES) (K : EV → ES → Prop) : Prop :=
  match op with
  | .alloc t => match tiOf P t with
    | some i => K (.ptr (some ⟨b, 0⟩)) (s.add b (.cells i.zero t 0 true 0))
    | none => False
  | .box t x => (ev fr x).known = true ∧ K (.ptr (some ⟨b, 0⟩)) (s.add b (.cells (ev fr x).cells t 0 true 0))
  | .buildSlice t len ps => match tiOf P t with
    | some i => match i.u with
      | .slice e => match tiOf P e with
        | some j => (j.zero.length = j.size ∧ len * j.size ≤ 16777216) ∧ match fillE (fun n => some (n * j.size, j.size)) (zerosE j.zero len) (partsE fr ps.toList) with
          | some c => K (.slice (some ⟨b, 0⟩) len len) (s.add b (.cells c e 0 true 0))
          | none => False
        | none => False
      | _ => False
    | none => False
  | _ => False
theorem eopA_det {P : Program} {b : Nat} {op : Op} {fr : Fr} {s : ES} {K : EV → ES → Prop} (h : eopA P b op fr s K) : ∃ v o, o.wr = true ∧ ∀ s2 (K2 : EV → ES → Prop), eopA P b op fr s2 K2 ↔ K2 v (s2.add b o) := by
  cases op <;> simp only [eopA] at h ⊢ <;> try exact h.elim
  case alloc =>
    split at h
    · rename_i i hi; (try simp only [hi]); exact ⟨_, _, rfl, fun _ _ => Iff.rfl⟩
    · exact h.elim
  case box => exact ⟨_, _, rfl, fun _ _ => ⟨fun q => q.2, fun q => ⟨h.1, q⟩⟩⟩
  case buildSlice =>
    split at h
    · rename_i i hi
      obtain ⟨u, sz, by_, z⟩ := i
      try simp only [hi]
      split at h
      · rename_i e hu
        simp only at hu; subst hu
        split at h
        · rename_i j hj
          obtain ⟨h1, h2⟩ := h
          split at h2
          · rename_i c hc
            simp only [hj, hc]
            exact ⟨_, _, rfl, fun _ _ => ⟨fun q => q.2, fun q => ⟨h1, q⟩⟩⟩
          · exact h2.elim
        · exact h.elim
      · exact h.elim
    · exact h.elim
theorem eopA_agree {P : Program} {b : Nat} {op : Op} {fr fr2 : Fr} {s : ES} {K : EV → ES → Prop} (h : ∀ x ∈ op.operands.toList, ev fr2 x = ev fr x) : eopA P b op fr2 s K = eopA P b op fr s K := by
  cases op <;> simp only [eopA] <;> (try simp only [Op.operands, List.mem_cons, List.not_mem_nil, or_false, forall_eq_or_imp, forall_eq] at h)
  case box => rw [h]
  case buildSlice t n ps => rw [partsE_agree (by simpa using h)]
end Go.E
namespace Go.E
set_option linter.all false
theorem Rel.newAt {ρ : Env} {s : ES} {w : World} (h : Rel ρ s w) (b : Nat) (hb : b < s.nx) (hg0 : s.get b = none) (hρ : ρ b = none) (o : EO) (ob : Obj) (l : Loc) (hl : l.r = w.heap.size)
    (hbr : BR (fun i => if i = b then some l else ρ i) (w.alloc ob) l o) {k : Nat} (hk : k ≤ b) :
    GoK k ρ s w (fun i => if i = b then some l else ρ i) (s.add b o) (w.alloc ob) := by
  have hle : ρ.le (fun i => if i = b then some l else ρ i) := fun c l' hc => by
    by_cases hx : c = b
    · subst hx; rw [hρ] at hc; cases hc
    · simp [hx, hc]
  have hold : ∀ r, r < w.heap.size → (w.alloc ob).heap[r]? = w.heap[r]? := fun r hr => by
    simp only [World.alloc, Array.getElem?_push, Nat.ne_of_lt hr, if_false]
  refine ⟨⟨?_, ?_, ?_⟩, fun i hi => by simp [show ¬ i = b by omega], by simp [ES.add]; omega, fun c hc hn => by rw [ES.get_add hb, if_neg (by omega)]; exact hn, ⟨rfl, rfl, rfl, by simp, fun r hr _ => hold r hr⟩, ?_, rfl, h⟩
  · intro c o' l' hg hr
    rw [ES.get_add hb] at hg
    by_cases hx : b = c
    · subst hx
      simp at hg hr; subst hg; subst hr; exact hbr
    · simp only [hx, if_false] at hg
      simp only [show ¬ c = b from fun e => hx e.symm, if_false] at hr
      have := h.live c o' l' hg hr
      exact this.mono hle (hold _ this.lt)
  · intro i hi
    simp only [ES.add] at hi
    simp only [show ¬ i = b by omega, if_false]
    exact h.fresh i hi
  · intro c c' o1 o2 l1 l2 hg hg' hr hr' hne hw
    rw [ES.get_add hb] at hg hg'
    by_cases hx : b = c
    · subst hx
      simp at hg hr; subst hg; subst hr
      simp only [hne, if_false] at hg'
      simp only [show ¬ c' = b from fun e => hne e.symm, if_false] at hr'
      have := (h.live c' o2 l2 hg' hr').lt
      omega
    · simp only [hx, if_false] at hg
      simp only [show ¬ c = b from fun e => hx e.symm, if_false] at hr
      have h1 := (h.live c o1 l1 hg hr).lt
      by_cases hy : b = c'
      · subst hy
        simp at hg' hr'; subst hg'; subst hr'
        omega
      · simp only [hy, if_false] at hg'
        simp only [show ¬ c' = b from fun e => hy e.symm, if_false] at hr'
        exact h.sep c c' o1 o2 l1 l2 hg hg' hr hr' hne hw
  · intro c o' l' hg hr
    rw [ES.get_add hb] at hg
    by_cases hx : b = c
    · subst hx
      simp at hr; subst hr
      exact .inr (by omega)
    · simp only [hx, if_false] at hg
      simp only [show ¬ c = b from fun e => hx e.symm, if_false] at hr
      exact .inl ⟨c, o', l', hg, hr, rfl, id⟩
theorem Rel.newCellsAt {ρ : Env} {s : ES} {w : World} (hR : Rel ρ s w) (b : Nat) (hb : b < s.nx) (hg0 : s.get b = none) (hρ : ρ b = none) (c : List EV) (cs : Array Value) (t : TypeId) (hc : VRs ρ c cs.toList) {k : Nat} (hk : k ≤ b) :
    GoK k ρ s w (fun i => if i = b then some ⟨w.heap.size, 0, c.length, c.length, 0⟩ else ρ i) (s.add b (.cells c t 0 true 0)) (w.alloc (.cells cs t)) := by
  refine hR.newAt b hb hg0 hρ _ _ ⟨w.heap.size, 0, c.length, c.length, 0⟩ rfl ?_ hk
  have hle : ρ.le (fun i => if i = b then some ⟨w.heap.size, 0, c.length, c.length, 0⟩ else ρ i) := fun x l' hx => by
    by_cases h : x = b
    · subst h; rw [hρ] at hx; cases hx
    · simp [h, hx]
  refine ⟨rfl, rfl, fun _ => rfl, Nat.le_refl _, cs, (0, 0), ?_, ?_, fun i v hi => ?_, fun _ i _ _ => by simp [free]⟩
  · simp only [World.alloc, Array.getElem?_push, if_true]
  · have := hc.length; simp at this; exact ⟨by simp; omega, fun _ _ => ⟨rfl, by simp; omega⟩⟩
  · obtain ⟨v', a, b⟩ := hc.get i v hi
    exact ⟨v', by simpa using a, b.mono hle⟩
theorem eopA_run {P : Program} {b : Nat} {o : Oper} {fr : Fr} {s : ES} {K : EV → ES → Prop} (h : eopA P b o.op fr s K) {ρ : Env} {w : World} {a : Act} (hF : FR ρ fr a) :
    ∃ (v : EV) (c : List EV) (cs : Array Value) (t : TypeId) (v' : Value), K v (s.add b (.cells c t 0 true 0)) ∧ VRs ρ c cs.toList ∧ (execOp a.eval o).run P w = .ok (.value v') (w.alloc (.cells cs t)) ∧
      ∀ ρ' : Env, ρ' b = some ⟨w.heap.size, 0, c.length, c.length, 0⟩ → VR ρ' v v' := by
  obtain ⟨dst, op, type, pos, after, guard⟩ := o
  simp only at h
  cases op <;> simp only [eopA] at h <;> try exact h.elim
  case alloc t =>
    split at h
    · rename_i i hi
      obtain ⟨inf, d, z, T⟩ := tiOf_some hi
      refine ⟨_, _, z.cells, _, .pointer (some ⟨w.heap.size, 0, none⟩), h, by rw [T.cells]; exact VRs.ofV _, ?_, fun ρ' hρ' => by rw [VR]; exact ⟨_, hρ', by simp⟩⟩
      simp only [execOp, Instr.alloc, Sem.run_bind, T.run_zero w, Result.andThen_ok]
      simp [newVar, newRow, newObj, Sem.run]
    · exact h.elim
  case box t x =>
    refine ⟨_, _, (a.eval x).cells, _, .pointer (some ⟨w.heap.size, 0, none⟩), h.2, ((hF.ev x).cells h.1).1, ?_, fun ρ' hρ' => by rw [VR]; exact ⟨_, hρ', by simp⟩⟩
    simp [execOp, Instr.box, newVar, newRow, newObj, Sem.run]
  case buildSlice t len ps =>
    split at h
    · rename_i i hi
      obtain ⟨inf, d, z, T⟩ := tiOf_some hi
      split at h
      · rename_i e hu
        have hd : d = .slice e := by rw [T.u] at hu; cases d <;> simp [utOf] at hu; subst hu; rfl
        subst hd
        split at h
        · rename_i j hj
          obtain ⟨inf2, d2, z2, T2⟩ := tiOf_some hj
          obtain ⟨⟨hzl, hle⟩, h⟩ := h
          split at h
          · rename_i c hf
            have hz : VRs ρ j.zero z2.cells.toList := by rw [T2.cells]; exact VRs.ofV _
            have hzero : VRs ρ (zerosE j.zero len) ((Array.range (len * j.size)).map ((if len * j.size = 0 then #[] else z2.cells)[· % (if len * j.size = 0 then #[] else z2.cells).size]!)).toList := by
              by_cases h0 : len * j.size = 0
              · have : zerosE j.zero len = [] := by
                  apply List.eq_nil_of_length_eq_zero; rw [zerosE_length, hzl]; exact h0
                rw [this, h0]; simp [VRs]
              · simp only [h0, if_false]
                exact zeros_VRs hz len _ (by rw [hzl])
            obtain ⟨p1, p2⟩ := parts_rel hF ps
            obtain ⟨cs, h1, h2⟩ := fillE_sound (ρ := ρ) (partsE fr ps.toList) (ps.map fun (x : Nat × Operand) => (x.1, a.eval x.2)).toList _ _ c (by simpa using p1) (fun k n v hk => by simpa using p2 k n v hk) hzero hf
            refine ⟨_, c, cs, e, .slice (some ⟨w.heap.size, 0, none⟩) len len, h, h2, ?_, fun ρ' hρ' => by rw [VR]; exact ⟨_, len, 0, hρ', .inl rfl, Nat.le_refl _, .inl rfl, rfl⟩⟩
            have hexec : execOp a.eval { dst := dst, op := .buildSlice t len ps, type := type, pos := pos, after := after, guard := guard } = (do pure (.value (← Instr.buildSlice t len (ps.map fun (x : Nat × Operand) => (x.1, a.eval x.2))))) := rfl
            rw [hexec]
            simp only [Instr.buildSlice, Sem.run_bind, T.run_und w, Result.andThen_ok, T2.run_size w]
            rw [if_neg (by omega)]
            by_cases h0 : len * j.size = 0
            · simp only [h0, if_true] at h1 ⊢
              rw [pure_bind]
              simp only [h1]
              simp [newRow, newObj, Sem.run]
            · simp only [h0, if_false] at h1 ⊢
              simp only [Sem.run_bind, T2.run_zero w, Sem.run_pure, Result.andThen_ok, h1]
              simp [newRow, newObj, Sem.run]
          · exact h.elim
        · exact h.elim
      · exact h.elim
    · exact h.elim
def rdsOf (L : List Oper) (o : Oper) : List Tmp := opTemps o.op ++ (match o.guard with
  | some (j, _) => match guardT L j with
    | some t => [t]
    | none => []
  | none => [])
def gstep (L : List Oper) (o : Oper) (fr : Fr) (run skip : Prop) : Prop :=
  match o.guard with
  | none => run
  | some (j, want) => match guardT L j with
    | none => False
    | some t => match fr.lk t with
      | .bool b => gsel b want run skip
      | .tuple [] => skip
      | _ => False
def KF : EV → ES → Prop := fun _ _ => False
def oneOp (P : Program) (b : Nat) (o : Oper) (fr : Fr) (s : ES) (K : Fr → ES → Prop) : Prop :=
  match cls P o.op with
  | .A => b < s.nx ∧ eopA P b o.op fr s (KO o fr K)
  | _ => eop P o.op fr s (KO o fr K) KF
def stepG (P : Program) (L : List Oper) (base i : Nat) (K : Fr → ES → Prop) (fr : Fr) (s : ES) : Prop :=
  match L[i]? with
  | none => False
  | some o => gstep L o fr (oneOp P (base + i) o fr s K) (okDst fr.n o.dst ∧ K (fr.putO o.dst undefE) s)
def ES.addO (s : ES) (b : Nat) : Option EO → ES
  | some o => s.add b o
  | none => s
theorem gstep_split {L : List Oper} {o : Oper} {fr : Fr} {run skip : Prop} (h : gstep L o fr run skip) : (∀ run2 skip2 : Prop, gstep L o fr run2 skip2 ↔ run2) ∨ (∀ run2 skip2 : Prop, gstep L o fr run2 skip2 ↔ skip2) := by
  unfold gstep at h ⊢
  cases hg : o.guard with
  | none => exact .inl fun _ _ => by simp
  | some jw =>
    obtain ⟨j, want⟩ := jw
    simp only [hg] at h ⊢
    cases ht : guardT L j with
    | none => simp [ht] at h
    | some t =>
      simp only [ht] at h ⊢
      cases hv : fr.lk t <;> simp only [hv] at h ⊢ <;> try exact h.elim
      case bool b =>
        by_cases hb : b = want
        · subst hb
          exact .inl fun _ _ => ⟨fun q => q.1 rfl, fun q => ⟨fun _ => q, fun e => by cases b <;> cases e⟩⟩
        · have hb' : b = !want := by cases b <;> cases want <;> simp at hb ⊢
          exact .inr fun _ _ => ⟨fun q => q.2 hb', fun q => ⟨fun e => absurd e hb, fun _ => q⟩⟩
      case tuple vs =>
        cases vs with
        | nil => exact .inr fun _ _ => Iff.rfl
        | cons _ _ => exact h.elim
theorem gstep_agree {L : List Oper} {o : Oper} {fr fr2 : Fr} {run skip : Prop} (ha : Agree (rdsOf L o) fr fr2) : gstep L o fr2 run skip = gstep L o fr run skip := by
  unfold gstep
  cases hg : o.guard with
  | none => rfl
  | some jw =>
    obtain ⟨j, want⟩ := jw
    simp only
    cases ht : guardT L j with
    | none => rfl
    | some t =>
      simp only
      rw [ha.2 t (by simp [rdsOf, hg, ht])]
theorem agree_ops {L : List Oper} {o : Oper} {fr fr2 : Fr} (ha : Agree (rdsOf L o) fr fr2) : ∀ x ∈ o.op.operands.toList, Go.E.ev fr2 x = Go.E.ev fr x :=
  Agree.ev (op := o.op) ⟨ha.1, fun t ht => ha.2 t (by simp only [rdsOf, List.mem_append]; exact .inl ht)⟩
theorem Ext.addBoth {b c : Nat} {oo : Option EO} {s s2 : ES} (h : Ext b oo s s2) (hf : Free b oo s) (o : EO) (hc : c < s.nx) (hne : oo.isSome = true → b ≠ c) : Ext b oo (s.add c o) (s2.add c o) ∧ Free b oo (s.add c o) := by
  refine ⟨⟨h.nx, h.gl, fun x => ?_⟩, fun hs => ?_⟩
  · rw [ES.get_add hc, ES.get_add (by rw [h.nx]; exact hc), h.get]
    cases oo with
    | none => rfl
    | some y =>
      have := hne rfl
      by_cases h1 : c = x
      · subst h1; simp [this]
      · simp only [h1, if_false]
  · obtain ⟨h1, h2, h3⟩ := hf hs
    exact ⟨by rw [ES.get_add hc, if_neg (fun e => hne hs e.symm)]; exact h1, h2, h3⟩
theorem stepG_sim {P : Program} {L : List Oper} {base i : Nat} {o : Oper} (ho : L[i]? = some o) {fr fr2 : Fr} {s s2 : ES} {K K2 : Fr → ES → Prop} {b : Nat} {oo : Option EO} (h : stepG P L base i K fr s) (ha : Agree (rdsOf L o) fr fr2)
    (hx : Ext b oo s s2) (hf : Free b oo s) (hne : oo.isSome = true → b ≠ base + i) (hK : ∀ v t t2, Ext b oo t t2 → Free b oo t → K (fr.putO o.dst v) t → K2 (fr2.putO o.dst v) t2) : stepG P L base i K2 fr2 s2 := by
  unfold stepG at h ⊢
  simp only [ho] at h ⊢
  rw [gstep_agree ha]
  have hrun : oneOp P (base + i) o fr s K → oneOp P (base + i) o fr2 s2 K2 := by
    intro hr
    have hko : ∀ v t t2, Ext b oo t t2 → Free b oo t → KO o fr K v t → KO o fr2 K2 v t2 := fun v t t2 e1 e2 e3 => ⟨by rw [ha.1]; exact e3.1, hK v t t2 e1 e2 e3.2⟩
    unfold oneOp at hr ⊢
    split at hr
    · rw [eopA_agree (agree_ops ha)]
      obtain ⟨hb, hr⟩ := hr
      refine ⟨by rw [hx.nx]; exact hb, ?_⟩
      obtain ⟨v, ob, _, hv⟩ := eopA_det hr
      obtain ⟨e1, e2⟩ := hx.addBoth hf ob hb hne
      exact (hv s2 _).2 (hko v _ _ e1 e2 ((hv s _).1 hr))
    · rw [eop_agree (agree_ops ha)]
      exact eop_ext hr hx hf hko fun _ _ _ _ _ e => e
  have hskip : (okDst fr.n o.dst ∧ K (fr.putO o.dst undefE) s) → (okDst fr2.n o.dst ∧ K2 (fr2.putO o.dst undefE) s2) := fun q => ⟨by rw [ha.1]; exact q.1, hK _ _ _ hx hf q.2⟩
  rcases gstep_split h with hs | hs
  · exact (hs _ _).2 (hrun ((hs _ _).1 h))
  · exact (hs _ _).2 (hskip ((hs _ _).1 h))
def clsAt (P : Program) (L : List Oper) (i : Nat) : Cls := match L[i]? with
  | some o => cls P o.op
  | none => .E
theorem stepG_PA {P : Program} {L : List Oper} {base i : Nat} {o : Oper} (ho : L[i]? = some o) (hc : cls P o.op = .P ∨ cls P o.op = .A) {fr : Fr} {s : ES} {K : Fr → ES → Prop} (h : stepG P L base i K fr s) :
    ∃ v oo, (∀ x, oo = some x → x.wr = true) ∧ ∀ s2 (K2 : Fr → ES → Prop), (stepG P L base i K2 fr s2 ↔ (oo.isSome = true → base + i < s2.nx) ∧ K2 (fr.putO o.dst v) (s2.addO (base + i) oo)) := by
  unfold stepG at h ⊢
  simp only [ho] at h ⊢
  rcases gstep_split h with hs | hs
  · have hr := (hs _ _).1 h
    rcases hc with hc | hc
    · simp only [oneOp, hc] at hr
      obtain ⟨v, hv⟩ := eop_det (.inl hc) hr
      refine ⟨v, none, by simp, fun s2 K2 => ?_⟩
      rw [hs]
      simp only [oneOp, hc, ES.addO]
      have hok : okDst fr.n o.dst := ((hv _ _).1 hr).1
      refine ⟨fun q => ⟨by simp, ?_⟩, fun q => ?_⟩
      · have := eop_pure (s2 := s) (K2 := fun u _ => KO o fr K2 u s2) (Kp2 := KF) hc q fun _ e => e
        exact ((hv _ _).1 this).2
      · have := (hv (fun u _ => KO o fr K2 u s2) KF).2 ⟨hok, q.2⟩
        exact eop_pure (s2 := s2) hc this fun _ e => e
    · simp only [oneOp, hc] at hr
      obtain ⟨v, ob, hw, hv⟩ := eopA_det hr.2
      refine ⟨v, some ob, by rintro x ⟨⟩; exact hw, fun s2 K2 => ?_⟩
      rw [hs]
      simp only [oneOp, hc, ES.addO]
      have hok : okDst fr.n o.dst := ((hv _ _).1 hr.2).1
      exact ⟨fun q => ⟨fun _ => q.1, ((hv _ _).1 q.2).2⟩, fun q => ⟨q.1 rfl, (hv _ _).2 ⟨hok, q.2⟩⟩⟩
  · have hr := (hs _ _).1 h
    refine ⟨undefE, none, by simp, fun s2 K2 => ?_⟩
    rw [hs]
    exact ⟨fun q => ⟨by simp, q.2⟩, fun q => ⟨hr.1, q.2⟩⟩
theorem stepG_PR {P : Program} {L : List Oper} {base i : Nat} {o : Oper} (ho : L[i]? = some o) (hc : cls P o.op = .P ∨ cls P o.op = .R) {fr : Fr} {s : ES} {K : Fr → ES → Prop} (h : stepG P L base i K fr s) :
    ∃ v, ∀ K2 : Fr → ES → Prop, stepG P L base i K2 fr s ↔ K2 (fr.putO o.dst v) s := by
  unfold stepG at h ⊢
  simp only [ho] at h ⊢
  rcases gstep_split h with hs | hs
  · have hr := (hs _ _).1 h
    have hne : ∀ K2, oneOp P (base + i) o fr s K2 = eop P o.op fr s (KO o fr K2) KF := by
      intro K2; rcases hc with hc | hc <;> simp only [oneOp, hc]
    rw [hne] at hr
    obtain ⟨v, hv⟩ := eop_det hc hr
    have hok : okDst fr.n o.dst := ((hv _ _).1 hr).1
    refine ⟨v, fun K2 => ?_⟩
    rw [hs, hne, hv]
    exact ⟨fun q => q.2, fun q => ⟨hok, q⟩⟩
  · have hr := (hs _ _).1 h
    refine ⟨undefE, fun K2 => ?_⟩
    rw [hs]
    exact ⟨fun q => q.2, fun q => ⟨hr.1, q⟩⟩
end Go.E
namespace Go.E
set_option linter.all false
structure FEq (fr fr2 : Fr) : Prop where
  n : fr2.n = fr.n
  lk : ∀ t, fr2.lk t = fr.lk t
theorem FEq.refl (fr : Fr) : FEq fr fr := ⟨rfl, fun _ => rfl⟩
theorem FEq.agree {fr fr2 : Fr} (h : FEq fr fr2) (ts : List Tmp) : Agree ts fr fr2 := ⟨h.n, fun t _ => h.lk t⟩
theorem lk_putO (fr : Fr) (d : Option Tmp) (v : EV) (u : Tmp) : (fr.putO d v).lk u = if d = some u then v else fr.lk u := by
  cases d with
  | none => simp [Fr.putO]
  | some t =>
    simp only [Fr.putO, Fr.put, Fr.lk, lkp, Option.some.injEq]
    by_cases h : t = u <;> simp [h]
theorem n_putO (fr : Fr) (d : Option Tmp) (v : EV) : (fr.putO d v).n = fr.n := by cases d <;> rfl
theorem FEq.putO {fr fr2 : Fr} (h : FEq fr fr2) (d : Option Tmp) (v : EV) : FEq (fr.putO d v) (fr2.putO d v) :=
  ⟨by rw [n_putO, n_putO, h.n], fun t => by rw [lk_putO, lk_putO, h.lk]⟩
theorem FR.feq {ρ : Env} {fr fr2 : Fr} {a : Act} (h : FR ρ fr a) (e : FEq fr fr2) : FR ρ fr2 a := ⟨h.defers, by rw [h.size, e.n], fun t => by rw [e.lk]; exact h.slot t⟩
def Apt (d : Option Tmp) (ts : List Tmp) : Prop := ∀ t, d = some t → t ∉ ts
def Dne (d e : Option Tmp) : Prop := ∀ t, d = some t → e ≠ some t
theorem Dne.symm {d e : Option Tmp} (h : Dne d e) : Dne e d := fun t h1 h2 => h t h2 h1
theorem Apt.agree {d : Option Tmp} {ts : List Tmp} (h : Apt d ts) (fr : Fr) (v : EV) : Agree ts fr (fr.putO d v) :=
  ⟨n_putO _ _ _, fun t ht => by rw [lk_putO, if_neg (fun e => h t e ht)]⟩
theorem Agree.symm {ts : List Tmp} {fr fr2 : Fr} (h : Agree ts fr fr2) : Agree ts fr2 fr := ⟨h.1.symm, fun t ht => (h.2 t ht).symm⟩
theorem Agree.trans {ts : List Tmp} {fr fr2 fr3 : Fr} (h : Agree ts fr fr2) (k : Agree ts fr2 fr3) : Agree ts fr fr3 := ⟨k.1.trans h.1, fun t ht => (k.2 t ht).trans (h.2 t ht)⟩
theorem FEq.swap (fr : Fr) {d e : Option Tmp} (h : Dne d e) (v u : EV) : FEq ((fr.putO d v).putO e u) ((fr.putO e u).putO d v) := by
  refine ⟨by simp only [n_putO], fun t => ?_⟩
  simp only [lk_putO]
  by_cases h1 : d = some t
  · have : e ≠ some t := h t h1
    simp [h1, this]
  · simp [h1]
theorem FEq.trans {fr fr2 fr3 : Fr} (h : FEq fr fr2) (k : FEq fr2 fr3) : FEq fr fr3 := ⟨k.n.trans h.n, fun t => (k.lk t).trans (h.lk t)⟩
theorem FEq.symm {fr fr2 : Fr} (h : FEq fr fr2) : FEq fr2 fr := ⟨h.n.symm, fun t => (h.lk t).symm⟩
def dstI (L : List Oper) (i : Nat) : Option Tmp := match L[i]? with | some o => o.dst | none => none
def rdsI (L : List Oper) (i : Nat) : List Tmp := match L[i]? with | some o => rdsOf L o | none => []
theorem stepG_ex {P : Program} {L : List Oper} {base i : Nat} {K : Fr → ES → Prop} {fr : Fr} {s : ES} (h : stepG P L base i K fr s) : ∃ o, L[i]? = some o := by
  unfold stepG at h
  split at h
  · exact h.elim
  · exact ⟨_, by assumption⟩
theorem free_none (b : Nat) (s : ES) : Free b none s := fun h => by simp at h
theorem ext_any {b c : Nat} {s s2 : ES} (h : Ext b none s s2) : Ext c none s s2 := ⟨h.nx, h.gl, h.get⟩
def Val (P : Program) (L : List Oper) (base i : Nat) (fr : Fr) (s : ES) (v : EV) (s' : ES) : Prop := ∀ K : Fr → ES → Prop, stepG P L base i K fr s ↔ K (fr.putO (dstI L i) v) s'
theorem stepG_move {P : Program} {L : List Oper} {base i : Nat} {o : Oper} (ho : L[i]? = some o) {fr fr2 : Fr} (ha : Agree (rdsOf L o) fr fr2) (s : ES) (K : Fr → ES → Prop) :
    stepG P L base i K fr2 s = stepG P L base i (fun f t => K (fr2.putO o.dst (match o.dst with | some t => f.lk t | none => .unk)) t) fr s := by
  have hk : ∀ v (t : ES), K (fr2.putO o.dst (match o.dst with | some t => (fr.putO o.dst v).lk t | none => .unk)) t = K (fr2.putO o.dst v) t := by
    intro v t
    cases hd : o.dst with
    | none => rfl
    | some d => simp [lk_putO]
  have hko : KO o fr2 K = KO o fr (fun f t => K (fr2.putO o.dst (match o.dst with | some t => f.lk t | none => .unk)) t) := by
    funext v t
    simp only [KO, ha.1, hk]
  unfold stepG
  simp only [ho]
  rw [gstep_agree ha]
  congr 1
  · unfold oneOp
    split
    · rw [eopA_agree (agree_ops ha), hko]
    · rw [eop_agree (agree_ops ha), hko]
  · rw [ha.1]
    have := hk undefE s
    rw [this]
theorem Val.move {P : Program} {L : List Oper} {base i : Nat} {fr fr2 : Fr} {s s' : ES} {v : EV} (h : Val P L base i fr s v s') (ha : Agree (rdsI L i) fr fr2) : Val P L base i fr2 s v s' := by
  intro K
  obtain ⟨o, ho⟩ := stepG_ex ((h fun _ _ => True).2 trivial)
  simp only [rdsI, ho] at ha
  rw [stepG_move ho ha, h]
  simp only [dstI, ho]
  cases hd : o.dst with
  | none => rfl
  | some d => simp [lk_putO]
def rchk1 (P : Program) (L : List Oper) (base r : Nat) (fr : Fr) (s : ES) : Prop := stepG P L base r (fun f _ => ∀ t, dstI L r = some t → f.lk t = fr.lk t) fr s
def rchks (P : Program) (L : List Oper) (base : Nat) : List Nat → Fr → ES → Prop
  | [], _, _ => True
  | r :: rs, fr, s => rchk1 P L base r fr s ∧ rchks P L base rs fr s
def canon (P : Program) (L : List Oper) (base : Nat) (K : Fr → ES → Prop) : List (Nat × List Nat) → Fr → ES → Prop
  | [], fr, s => K fr s
  | (i, rs) :: rest, fr, s => stepG P L base i (fun fr s => rchks P L base rs fr s ∧ canon P L base K rest fr s) fr s
variable {P : Program} {L : List Oper} {base : Nat}
theorem rchks_iff : ∀ {rs : List Nat} {fr : Fr} {s : ES}, rchks P L base rs fr s ↔ ∀ r ∈ rs, rchk1 P L base r fr s
  | [], fr, s => by simp [rchks]
  | r :: rs, fr, s => by simp only [rchks, List.forall_mem_cons, rchks_iff (rs := rs)]
theorem rchk1_sim {r : Nat} {fr fr2 : Fr} {s s2 : ES} {b : Nat} {oo : Option EO} (h : rchk1 P L base r fr s) (ha : Agree (rdsI L r) fr fr2) (hd : ∀ t, dstI L r = some t → fr2.lk t = fr.lk t) (hx : Ext b oo s s2) (hf : Free b oo s) (hne : oo.isSome = true → b ≠ base + r) : rchk1 P L base r fr2 s2 := by
  obtain ⟨o, ho⟩ := stepG_ex h
  unfold rchk1 at h ⊢
  refine stepG_sim ho h (by simpa only [rdsI, ho] using ha) hx hf hne fun v t t2 _ _ hk u hu => ?_
  have := hk u hu
  simp only [dstI, ho] at hu
  rw [lk_putO, if_pos hu] at this ⊢
  rw [this, hd u (by simp only [dstI, ho, hu])]
def KCong (K : Fr → ES → Prop) : Prop := ∀ fr s fr2 s2, K fr s → FEq fr fr2 → Ext 0 none s s2 → K fr2 s2
theorem canon_congr {K : Fr → ES → Prop} (hK : KCong K) : ∀ pl : List (Nat × List Nat), KCong (canon P L base K pl)
  | [] => hK
  | (i, rs) :: rest => fun fr s fr2 s2 h hF hS => by
    simp only [canon] at h ⊢
    obtain ⟨o, ho⟩ := stepG_ex h
    refine stepG_sim ho h (hF.agree _) hS (free_none _ _) (by simp) fun v t t2 e1 _ hr => ?_
    have hF' := hF.putO o.dst v
    exact ⟨rchks_iff.2 fun r hr' => rchk1_sim (rchks_iff.1 hr.1 r hr') (hF'.agree _) (fun t _ => hF'.lk t) e1 (free_none _ _) (by simp), canon_congr hK rest _ _ _ _ hr.2 hF' e1⟩
structure ApartPA (L : List Oper) (j : Nat) (p : Nat × List Nat) : Prop where
  ne : p.1 ≠ j
  fwd : Apt (dstI L p.1) (rdsI L j)
  bwd : Apt (dstI L j) (rdsI L p.1)
  dne : Dne (dstI L p.1) (dstI L j)
  chk : ∀ r ∈ p.2, r ≠ j ∧ Apt (dstI L j) (rdsI L r) ∧ Dne (dstI L r) (dstI L j)
theorem pullPA {K : Fr → ES → Prop} (hK : KCong K) {j : Nat} {rs : List Nat} {fr0 : Fr} {v : EV} {oo : Option EO}
    (hv : ∀ f t (K2 : Fr → ES → Prop), Agree (rdsI L j) fr0 f → stepG P L base j K2 f t → K2 (f.putO (dstI L j) v) (t.addO (base + j) oo)) (post : List (Nat × List Nat)) :
    ∀ (pre : List (Nat × List Nat)) (fr fr2 : Fr) (s s2 : ES), canon P L base K (pre ++ (j, rs) :: post) fr s → Agree (rdsI L j) fr0 fr → FEq (fr.putO (dstI L j) v) fr2 → Ext (base + j) oo s s2 → Free (base + j) oo s →
      (∀ p ∈ pre, ApartPA L j p) → canon P L base K (pre ++ post) fr2 s2
  | [], fr, fr2, s, s2, h, ha, hF, hx, hf, _ => by
    simp only [List.nil_append, canon] at h ⊢
    refine canon_congr hK post _ _ _ _ (hv fr s _ ha h).2 hF ?_
    cases oo with
    | none => exact ext_any hx
    | some x =>
      obtain ⟨h1, h2, h3⟩ := hf rfl
      exact ⟨hx.nx, hx.gl, fun c => by rw [hx.get]; simp only [ES.addO]; rw [ES.get_add h2]⟩
  | (c, rc) :: pre, fr, fr2, s, s2, h, ha, hF, hx, hf, hp => by
    simp only [List.cons_append, canon] at h ⊢
    obtain ⟨o, ho⟩ := stepG_ex h
    have hc := hp (c, rc) (by simp)
    have hdc : o.dst = dstI L c := by simp only [dstI, ho]
    have hrd : rdsOf L o = rdsI L c := by simp only [rdsI, ho]
    refine stepG_sim ho h (hrd ▸ (hc.bwd.agree fr v).trans (hF.agree _)) hx hf (fun _ e => hc.ne (by simp only at *; omega)) fun u t t2 e1 e2 hq => ?_
    rw [hdc] at hq ⊢
    have hF2 : FEq ((fr.putO (dstI L c) u).putO (dstI L j) v) (fr2.putO (dstI L c) u) := (FEq.swap fr hc.dne u v).trans (hF.putO _ _)
    refine ⟨rchks_iff.2 fun r hr => ?_, pullPA hK hv post pre _ _ t t2 hq.2 (ha.trans (hc.fwd.agree fr u)) hF2 e1 e2 fun p hpp => hp p (by simp [hpp])⟩
    obtain ⟨h1, h2, h3⟩ := hc.chk r hr
    refine rchk1_sim (rchks_iff.1 hq.1 r hr) ((h2.agree _ v).trans (hF2.agree _)) (fun t ht => ?_) e1 e2 (fun _ e => h1 (by omega))
    rw [hF2.lk, lk_putO, if_neg (h3 t ht)]
structure ApartRE (P : Program) (L : List Oper) (j : Nat) (rs : List Nat) (p : Nat × List Nat) (rest : List (Nat × List Nat)) : Prop where
  nil : p.2 = []
  fwd : Apt (dstI L p.1) (rdsI L j)
  bwd : Apt (dstI L j) (rdsI L p.1)
  own : Apt (dstI L p.1) (rdsI L p.1)
  dne : Dne (dstI L p.1) (dstI L j)
  kind : clsAt P L p.1 = .P ∨ (clsAt P L p.1 = .R ∧ clsAt P L j = .R) ∨ (clsAt P L p.1 = .R ∧ p.1 ∈ rs ∧ p.1 ∉ rest.map (·.1))
  chk : ∀ r ∈ rs, r ∈ rest.map (·.1) ∨ r = p.1 ∨ (Apt (dstI L p.1) (rdsI L r) ∧ Dne (dstI L p.1) (dstI L r))
def ApartREs (P : Program) (L : List Oper) (j : Nat) (rs : List Nat) : List (Nat × List Nat) → Prop
  | [] => True
  | p :: rest => ApartRE P L j rs p rest ∧ ApartREs P L j rs rest
theorem val_of_R {i : Nat} (hc : clsAt P L i = .P ∨ clsAt P L i = .R) {K : Fr → ES → Prop} {fr : Fr} {s : ES} (h : stepG P L base i K fr s) : ∃ v, Val P L base i fr s v s := by
  obtain ⟨o, ho⟩ := stepG_ex h
  simp only [clsAt, ho] at hc
  obtain ⟨v, hv⟩ := stepG_PR ho hc h
  exact ⟨v, fun K2 => by rw [hv]; simp only [dstI, ho]⟩
theorem pullRE {K : Fr → ES → Prop} (hK : KCong K) {j : Nat} {rs : List Nat} (post : List (Nat × List Nat)) :
    ∀ (pre : List (Nat × List Nat)) (fr : Fr) (s : ES), canon P L base K (pre ++ (j, rs) :: post) fr s → ApartREs P L j rs pre →
      stepG P L base j (fun f t => (∀ r ∈ rs, r ∉ pre.map (·.1) → rchk1 P L base r f t) ∧ canon P L base K (pre ++ post) f t) fr s
  | [], fr, s, h, _ => by
    simp only [List.nil_append, canon] at h
    obtain ⟨o, ho⟩ := stepG_ex h
    refine stepG_sim ho h ((FEq.refl fr).agree _) (Ext.refl 0 s) (free_none _ _) (by simp) fun v t t2 e1 _ hq => ?_
    exact ⟨fun r hr _ => rchk1_sim (rchks_iff.1 hq.1 r hr) ((FEq.refl _).agree _) (fun _ _ => rfl) e1 (free_none _ _) (by simp), canon_congr hK post _ _ _ _ hq.2 (FEq.refl _) e1⟩
  | (c, rc) :: pre, fr, s, h, hp => by
    obtain ⟨hc, hp⟩ := hp
    have hnil : rc = [] := hc.nil
    subst hnil
    simp only [List.cons_append, canon] at h
    have hPR : clsAt P L c = .P ∨ clsAt P L c = .R := by rcases hc.kind with h | h | h <;> simp [h]
    obtain ⟨vc, hvc⟩ := val_of_R hPR h
    have h1 := pullRE hK post pre _ s ((hvc _).1 h).2 hp
    obtain ⟨oj, hoj⟩ := stepG_ex h1
    have hdj : oj.dst = dstI L j := by simp only [dstI, hoj]
    have hrj : rdsOf L oj = rdsI L j := by simp only [rdsI, hoj]
    -- what is looked at again
    have hchk : ∀ (v : EV) (t t2 : ES), Ext 0 none t t2 → (∀ r ∈ rs, r ∉ pre.map (·.1) → rchk1 P L base r ((fr.putO (dstI L c) vc).putO (dstI L j) v) t) →
        ∀ r ∈ rs, r ∉ ((c, ([] : List Nat)) :: pre).map (·.1) → rchk1 P L base r (fr.putO (dstI L j) v) t2 := by
      intro v t t2 e1 hq r hr hn
      simp only [List.map_cons, List.mem_cons, not_or] at hn
      rcases hc.chk r hr with h | h | ⟨h2, h3⟩
      · exact absurd h hn.2
      · exact absurd h hn.1
      · have hF := FEq.swap fr hc.dne vc v
        have hF2 : Agree (rdsI L r) ((fr.putO (dstI L c) vc).putO (dstI L j) v) (fr.putO (dstI L j) v) := (hF.agree _).trans (h2.agree _ vc).symm
        refine rchk1_sim (hq r hr hn.2) hF2 (fun u hu => ?_) e1 (free_none _ _) (by simp)
        have h4 := hF.lk u
        rw [lk_putO _ _ vc, if_neg (fun e => h3 u e hu)] at h4
        rw [← h4]
    -- behind the act, the earlier one still has its value
    have hend : ∀ (v : EV) (t : ES), Val P L base c (fr.putO (dstI L j) v) t vc t → canon P L base K (pre ++ post) ((fr.putO (dstI L c) vc).putO (dstI L j) v) t →
        canon P L base K ((c, []) :: pre ++ post) (fr.putO (dstI L j) v) t := by
      intro v t hv hq
      simp only [List.cons_append, canon]
      exact (hv _).2 ⟨trivial, canon_congr hK _ _ _ _ _ hq (FEq.swap fr hc.dne vc v) (Ext.refl 0 t)⟩
    by_cases hcR : clsAt P L c = .P
    · refine stepG_sim hoj h1 (hrj ▸ (hc.fwd.agree fr vc).symm) (Ext.refl 0 s) (free_none _ _) (by simp) fun v t t2 e1 _ hq => ?_
      rw [hdj] at hq ⊢
      refine ⟨hchk v t t2 e1 hq.1, hend v t2 ?_ (canon_congr hK _ _ _ _ _ hq.2 (FEq.refl _) e1)⟩
      obtain ⟨oc, hoc⟩ := stepG_ex h
      obtain ⟨v', oo, _, hv'⟩ := stepG_PA hoc (.inl (by simpa only [clsAt, hoc] using hcR)) h
      have hcP : cls P oc.op = .P := by simpa only [clsAt, hoc] using hcR
      -- the value is the same in every state
      have hval : Val P L base c fr t2 vc t2 := by
        intro K2
        obtain ⟨v2, hv2⟩ := stepG_PR hoc (.inl hcP) ((hv' t2 fun _ _ => True).2 ⟨fun e => by
          have := (hv' s fun _ t => t = s).1 ((hvc fun _ t => t = s).2 rfl)
          cases oo with
          | none => simp at e
          | some x =>
            have h3 : (s.add (base + c) x) = s := this.2
            have := congrArg (fun z => z.bl.length) h3
            simp [ES.add] at this, trivial⟩)
        have e2 : ∀ u, dstI L c = some u → v2 = vc := fun u hu => by
          have a1 := (hv2 fun f _ => f.lk u = v2).2 (by rw [lk_putO, if_pos (by simpa only [dstI, hoc] using hu)])
          have a2 := ((hv' t2 _).1 a1).2
          have a3 := (hvc fun f _ => f.lk u = vc).2 (by rw [lk_putO, if_pos hu])
          have a4 := ((hv' s _).1 a3).2
          rw [lk_putO, if_pos (by simpa only [dstI, hoc] using hu)] at a2 a4
          rw [← a2, ← a4]
        rw [hv2]
        have : fr.putO oc.dst v2 = fr.putO (dstI L c) vc := by
          have hd : oc.dst = dstI L c := by simp only [dstI, hoc]
          rw [hd]
          cases hx : dstI L c with
          | none => rfl
          | some u => rw [e2 u hx]
        rw [this]
      exact hval.move (hc.bwd.agree fr v)
    · rcases hc.kind with hk | ⟨hk, hkj⟩ | ⟨hk, hin, hnp⟩
      · exact absurd hk hcR
      · obtain ⟨vj, hvj⟩ := val_of_R (.inr hkj) h1
        have hq := (hvj _).1 h1
        have hvj' := hvj.move (hc.fwd.agree fr vc).symm
        exact (hvj' _).2 ⟨hchk vj s s (Ext.refl 0 s) hq.1, hend vj s (hvc.move (hc.bwd.agree fr vj)) hq.2⟩
      · refine stepG_sim hoj h1 (hrj ▸ (hc.fwd.agree fr vc).symm) (Ext.refl 0 s) (free_none _ _) (by simp) fun v t t2 e1 _ hq => ?_
        rw [hdj] at hq ⊢
        refine ⟨hchk v t t2 e1 hq.1, hend v t2 ?_ (canon_congr hK _ _ _ _ _ hq.2 (FEq.refl _) e1)⟩
        have hr := hq.1 c hin hnp
        have hF := FEq.swap fr hc.dne vc v
        have hr2 : stepG P L base c (fun f _ => ∀ u, dstI L c = some u → f.lk u = vc) (fr.putO (dstI L j) v) t2 := by
          unfold rchk1 at hr
          obtain ⟨oc, hoc⟩ := stepG_ex hr
          have hd : oc.dst = dstI L c := by simp only [dstI, hoc]
          refine stepG_sim hoc hr (by
            have : rdsOf L oc = rdsI L c := by simp only [rdsI, hoc]
            rw [this]
            exact (hF.agree _).trans (hc.own.agree _ vc).symm) e1 (free_none _ _) (by simp) fun x y y2 _ _ hk u hu => ?_
          have := hk u hu
          rw [hd, lk_putO, if_pos hu] at this ⊢
          rw [this, ← hF.lk, lk_putO, if_pos hu]
        obtain ⟨v3, hv3⟩ := val_of_R (.inr hk) hr2
        have h3 := (hv3 _).1 hr2
        intro K2
        rw [hv3]
        have : ((fr.putO (dstI L j) v).putO (dstI L c) v3) = ((fr.putO (dstI L j) v).putO (dstI L c) vc) := by
          cases hx : dstI L c with
          | none => rfl
          | some u =>
            have := h3 u hx
            rw [lk_putO, if_pos hx] at this
            rw [this]
        rw [this]
end Go.E
