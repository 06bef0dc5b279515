/-
  Own work: walks and laws of the functions that the statement reaches; the statement itself stands in the last text.
-/
import Derived.Test.YtnjbdcdjcfhooaaGreatDoorHh
import Derived.WalkKit
import Derived.LaidEql
import Derived.Stop.Asserts
import Derived.RowKitTokens
namespace Go.Proofs.YtnjbdcdjcfhooaaGreatDoor
set_option linter.all false
open Go.RowKit Go.Extern.Stop Go.Stop Go.Extern
theorem Tas.underlying27 : Tryz.prog.underlying 93 = some (.pointer 68) := by kernel_rfl
theorem Tas.underlying25 : Tryz.prog.underlying 68 = some (.pointer 95) := by kernel_rfl
theorem Tas.valueOf27 (t : Addr) (w : World) : (ReflectliteValue.unpack (.iface 93 (.pointer (some t)))).run Tryz.prog w
    = .ok (.agg #[.pointer (some ⟨7, 93, none⟩), .pointer (some ⟨w.heap.size, 0, none⟩), .int .u64 150]) (w.alloc (.cells #[.pointer (some t)] 93)) := by kernel_rfl
theorem Tas.type27 (a : Addr) (w : World) : (ReflectliteValue.methodAny (ReflectliteValue.valueError "reflectlite.Value.Type" 0) (fun t _ _ _ => ReflectliteType.toType t) #[.agg #[.pointer (some ⟨7, 93, none⟩), .pointer (some a), .int .u64 150]]).run Tryz.prog w
    = .ok (.iface 159 (.agg #[.pointer (some ⟨7, 93, none⟩)])) w := by kernel_rfl
theorem Tas.methodKind (h : Value) (w : World) : (Go.method 330 159 (.agg #[h]) "Kind").run Tryz.prog w = .ok (151, h) w := by kernel_rfl
theorem Tas.kind27 (w : World) : ((ReflectliteType.abiMethod fun t => (fun a : Nat => Value.int IntKind.u8 (a : Int)) <$> Rtype.kind t) #[.pointer (some ⟨7, 93, none⟩)]).run Tryz.prog w = .ok (.int .u8 22) w := by kernel_rfl
theorem Tas.kind25 (w : World) : ((ReflectliteType.abiMethod fun t => (fun a : Nat => Value.int IntKind.u8 (a : Int)) <$> Rtype.kind t) #[.pointer (some ⟨7, 68, none⟩)]).run Tryz.prog w = .ok (.int .u8 22) w := by kernel_rfl
theorem rlm (z : Sem Value) (f : TypeId → Addr → Nat → Nat → Sem Value) (v : Value) :
    ReflectliteValue.method z f #[v] = (do match ← ReflectliteValue.parts v with | none => z | some (t, a, fl) => f t a fl (fl % 32)) := rfl
theorem Tas.parts27 (a : Addr) (w : World) : (ReflectliteValue.parts (.agg #[.pointer (some ⟨7, 93, none⟩), .pointer (some a), .int .u64 150])).run Tryz.prog w = .ok (some (93, a, 150)) w := by kernel_rfl
theorem Tas.isNil27 (a p : Addr) (W : World) (ha : W.cell? a = some (.pointer (some p))) :
    (ReflectliteValue.method (ReflectliteValue.valueError "reflectlite.Value.IsNil" 0) ReflectliteValue.isNil #[.agg #[.pointer (some ⟨7, 93, none⟩), .pointer (some a), .int .u64 150]]).run Tryz.prog W = .ok (.bool false) W := by
  rw [rlm]
  simp only [Sem.run_bind, Tas.parts27, Result.andThen]
  simp [ReflectliteValue.isNil, loadVar, isAgg, underlying, Tas.underlying27, ha, Result.andThen]
theorem Tas.methodElem (h : Value) (w : World) : (Go.method 330 159 (.agg #[h]) "Elem").run Tryz.prog w = .ok (164, .agg #[h]) w := by kernel_rfl
theorem Tas.methodImplements (h : Value) (w : World) : (Go.method 330 159 (.agg #[h]) "Implements").run Tryz.prog w = .ok (165, .agg #[h]) w := by kernel_rfl
theorem Tas.methodAssignableTo (h : Value) (w : World) : (Go.method 330 159 (.agg #[h]) "AssignableTo").run Tryz.prog w = .ok (162, .agg #[h]) w := by kernel_rfl
theorem Tas.elem27 (w : World) : (ReflectliteType.method ReflectliteType.elem #[.agg #[.pointer (some ⟨7, 93, none⟩)]]).run Tryz.prog w = .ok (.iface 159 (.agg #[.pointer (some ⟨7, 68, none⟩)])) w := by kernel_rfl
theorem Tas.implements25 (w : World) : (ReflectliteType.relation "Implements" ReflectliteType.implements_ #[.agg #[.pointer (some ⟨7, 68, none⟩)], .iface 159 (.agg #[.pointer (some ⟨7, 26, none⟩)])]).run Tryz.prog w = .ok (.bool true) w := by kernel_rfl
theorem Tas.typeOf25 (v : Value) (w : World) : (ReflectliteType.typeOf #[.iface 68 v]).run Tryz.prog w = .ok (.iface 159 (.agg #[.pointer (some ⟨7, 68, none⟩)])) w := by kernel_rfl
theorem Tas.assignable25 (w : World) : (ReflectliteType.relation "AssignableTo" ReflectliteType.assignableTo #[.agg #[.pointer (some ⟨7, 68, none⟩)], .iface 159 (.agg #[.pointer (some ⟨7, 68, none⟩)])]).run Tryz.prog w = .ok (.bool true) w := by kernel_rfl
theorem Tas.valueOf25 (e : Addr) (w : World) : (ReflectliteValue.unpack (.iface 68 (.pointer (some e)))).run Tryz.prog w
    = .ok (.agg #[.pointer (some ⟨7, 68, none⟩), .pointer (some ⟨w.heap.size, 0, none⟩), .int .u64 150]) (w.alloc (.cells #[.pointer (some e)] 68)) := by kernel_rfl
theorem Tas.elemOf27 (w : World) : (Rtype.elem? 93).run Tryz.prog w = .ok (some 68) w := by kernel_rfl
theorem Tas.mk25 (p : Addr) (w : World) : (ReflectliteValue.mk 68 p ReflectliteValue.flagAddr).run Tryz.prog w = .ok (.agg #[.pointer (some ⟨7, 68, none⟩), .pointer (some p), .int .u64 406]) w := by kernel_rfl
theorem Tas.elemV27 (a p : Addr) (W : World) (ha : W.cell? a = some (.pointer (some p))) :
    (ReflectliteValue.method (ReflectliteValue.valueError "reflectlite.Value.Elem" 0) ReflectliteValue.elem #[.agg #[.pointer (some ⟨7, 93, none⟩), .pointer (some a), .int .u64 150]]).run Tryz.prog W
      = .ok (.agg #[.pointer (some ⟨7, 68, none⟩), .pointer (some p), .int .u64 406]) W := by
  rw [rlm]
  simp only [Sem.run_bind, Tas.parts27, Result.andThen]
  simp [ReflectliteValue.elem, loadVar, isAgg, underlying, Tas.underlying27, ha, Result.andThen, Tas.elemOf27, Tas.mk25]
theorem rls (v x : Value) : ReflectliteValue.set #[v, x] = (do
    let (some (dst, a, fl), some (src, b, _)) := (← ReflectliteValue.parts v, ← ReflectliteValue.parts x)
      | unsupported (.noEntry "extern/(internal/reflectlite.Value).Set.zeroValue")
    if fl / ReflectliteValue.flagAddr % 2 == 0 then unsupported (.noEntry "extern/(internal/reflectlite.Value).Set.unaddressable")
    let val ← loadVar src b
    if ← Rtype.directlyAssignable dst src then storeVar dst a val
    else if ← Rtype.implements dst src then
      if (← Rtype.kind src) == 20 then
        match val with
        | .nilIface => unsupported (.noEntry "extern/reflectlite: a nil value of one interface type handed on as a value of another")
        | _ => storeVar dst a val
      else storeVar dst a (.iface src val)
    else panicString ("reflectlite.Set: value of type " ++ (← Rtype.spelt src) ++ " is not assignable to type " ++ (← Rtype.spelt dst))
    pure (.tuple #[])) := rfl
theorem Tas.parts25a (a : Addr) (w : World) : (ReflectliteValue.parts (.agg #[.pointer (some ⟨7, 68, none⟩), .pointer (some a), .int .u64 406])).run Tryz.prog w = .ok (some (68, a, 406)) w := by kernel_rfl
theorem Tas.parts25 (a : Addr) (w : World) : (ReflectliteValue.parts (.agg #[.pointer (some ⟨7, 68, none⟩), .pointer (some a), .int .u64 150])).run Tryz.prog w = .ok (some (68, a, 150)) w := by kernel_rfl
theorem Tas.direct25 (w : World) : (Rtype.directlyAssignable 68 68).run Tryz.prog w = .ok true w := by kernel_rfl
theorem Tas.size25 (w : World) : (sizeOf 68).run Tryz.prog w = .ok 1 w := by kernel_rfl
theorem Tas.set25 (ta b e : Addr) (old : Value) (W : World) (hb : W.cell? b = some (.pointer (some e))) (ht : W.cell? ta = some old) (hf : W.frozen? ta = false) :
    (ReflectliteValue.set #[.agg #[.pointer (some ⟨7, 68, none⟩), .pointer (some ta), .int .u64 406], .agg #[.pointer (some ⟨7, 68, none⟩), .pointer (some b), .int .u64 150]]).run Tryz.prog W
      = .ok (.tuple #[]) (W.setCell ta (.pointer (some e))) := by
  rw [rls]
  simp only [Sem.run_bind, Tas.parts25a, Tas.parts25, Result.andThen]
  simp [ReflectliteValue.flagAddr, loadVar, isAgg, underlying, Tas.underlying25, hb, Result.andThen, Tas.direct25, storeVar, Value.cells, storeCells, Addr.add]
  rw [run_store Tryz.prog W ta _ _ (by rfl)]
  simp [ht, hf]
set_option maxHeartbeats 4000000 in
theorem as_hit (e t : Addr) (old : Value) (w : World) (hg : w.cell? ⟨0, 0, none⟩ = some (.iface 159 (.agg #[.pointer (some ⟨7, 26, none⟩)]))) (ht0 : w.cell? t = some old) (hf0 : w.frozen? t = false) :
    Calls Tryz.prog 30 #[.iface 68 (.pointer (some e)), .iface 93 (.pointer (some t))] w fun ev w' => ev = .returned (.bool true) ∧ w' = ((((w.alloc (.cells #[.pointer (some t)] 93)).alloc (.cells #[.pointer (some ⟨7, 93, none⟩), .pointer (some ⟨w.heap.size, 0, none⟩), .int .u64 150] 126)).alloc (.cells #[.pointer (some ⟨7, 93, none⟩), .pointer (some ⟨w.heap.size, 0, none⟩), .int .u64 150] 126)).alloc (.cells #[.pointer (some e)] 68)).setCell t (.pointer (some e)) := by
  have h6 := @run_callFunc_extern Tryz.prog 75 _ (fun args => ReflectliteValue.unpack (args.getD 0 (.tuple #[]))) Tryz.func75 (by kernel_rfl) (by kernel_rfl) (by kernel_rfl) (by kernel_rfl)
  have h7 := @run_callFunc_extern Tryz.prog 76 _ (ReflectliteValue.methodAny (ReflectliteValue.valueError "reflectlite.Value.Type" 0) (fun t _ _ _ => ReflectliteType.toType t)) Tryz.func76 (by kernel_rfl) (by kernel_rfl) (by kernel_rfl) (by kernel_rfl)
  have h8 := @run_callFunc_extern Tryz.prog 77 _ (ReflectliteValue.method (ReflectliteValue.valueError "reflectlite.Value.IsNil" 0) ReflectliteValue.isNil) Tryz.func77 (by kernel_rfl) (by kernel_rfl) (by kernel_rfl) (by kernel_rfl)
  have h27 := @run_callFunc_extern Tryz.prog 151 _ (ReflectliteType.abiMethod fun t => do pure (.int .u8 (← Rtype.kind t))) Tryz.func151 (by kernel_rfl) (by kernel_rfl) (by kernel_rfl) (by kernel_rfl)
  have h37 := @run_callFunc_extern Tryz.prog 164 _ (ReflectliteType.method ReflectliteType.elem) Tryz.func164 (by kernel_rfl) (by kernel_rfl) (by kernel_rfl) (by kernel_rfl)
  have h38 := @run_callFunc_extern Tryz.prog 165 _ (ReflectliteType.relation "Implements" ReflectliteType.implements_) Tryz.func165 (by kernel_rfl) (by kernel_rfl) (by kernel_rfl) (by kernel_rfl)
  have h10 := @run_callFunc_extern Tryz.prog 104 _ ReflectliteType.typeOf Tryz.func104 (by kernel_rfl) (by kernel_rfl) (by kernel_rfl) (by kernel_rfl)
  have h35 := @run_callFunc_extern Tryz.prog 162 _ (ReflectliteType.relation "AssignableTo" ReflectliteType.assignableTo) Tryz.func162 (by kernel_rfl) (by kernel_rfl) (by kernel_rfl) (by kernel_rfl)
  have h11 := @run_callFunc_extern Tryz.prog 105 _ (ReflectliteValue.method (ReflectliteValue.valueError "reflectlite.Value.Elem" 0) ReflectliteValue.elem) Tryz.func105 (by kernel_rfl) (by kernel_rfl) (by kernel_rfl) (by kernel_rfl)
  have h12 := @run_callFunc_extern Tryz.prog 106 _ ReflectliteValue.set Tryz.func106 (by kernel_rfl) (by kernel_rfl) (by kernel_rfl) (by kernel_rfl)
  have tO := Tas.typeOf25
  have mA := Tas.methodAssignableTo
  have a25 := Tas.assignable25
  have v25 := Tas.valueOf25
  have f6 := Tas.valueOf27
  have f7 := Tas.type27
  have mK := Tas.methodKind
  have mE := Tas.methodElem
  have mI := Tas.methodImplements
  have k27 := Tas.kind27
  have k25 := Tas.kind25
  have e27 := Tas.elem27
  have i25 := Tas.implements25
  have n8 := Tas.isNil27 ⟨w.heap.size, 0, none⟩ t ((w.alloc (.cells #[.pointer (some t)] 93)).alloc (.cells #[.pointer (some ⟨7, 93, none⟩), .pointer (some ⟨w.heap.size, 0, none⟩), .int .u64 150] 126)) (by simp)
  have hlt : 0 < w.heap.size := by
    rcases Nat.eq_zero_or_pos w.heap.size with h0 | h
    · simp [World.cell?, h0] at hg
    · exact h
  have hg2 : ((w.alloc (.cells #[.pointer (some t)] 93)).alloc (.cells #[.pointer (some ⟨7, 93, none⟩), .pointer (some ⟨w.heap.size, 0, none⟩), .int .u64 150] 126)).cell? ⟨0, 0, none⟩ = some (.iface 159 (.agg #[.pointer (some ⟨7, 26, none⟩)])) := by
    rw [World.cell?_alloc_lt _ _ ⟨0, 0, none⟩ (by simp), World.cell?_alloc_lt _ _ ⟨0, 0, none⟩ hlt]; exact hg
  have htl : t.block < w.heap.size := by
    rcases Nat.lt_or_ge t.block w.heap.size with h | h
    · exact h
    · simp [World.cell?, Array.getElem?_eq_none h] at ht0
  have el := Tas.elemV27 ⟨w.heap.size, 0, none⟩ t (((w.alloc (.cells #[.pointer (some t)] 93)).alloc (.cells #[.pointer (some ⟨7, 93, none⟩), .pointer (some ⟨w.heap.size, 0, none⟩), .int .u64 150] 126)).alloc (.cells #[.pointer (some ⟨7, 93, none⟩), .pointer (some ⟨w.heap.size, 0, none⟩), .int .u64 150] 126)) (by rw [World.cell?_alloc_lt _ _ ⟨w.heap.size, 0, none⟩ (by simp; omega)]; simp)
  have st := Tas.set25 t ⟨w.heap.size + 1 + 1 + 1, 0, none⟩ e old ((((w.alloc (.cells #[.pointer (some t)] 93)).alloc (.cells #[.pointer (some ⟨7, 93, none⟩), .pointer (some ⟨w.heap.size, 0, none⟩), .int .u64 150] 126)).alloc (.cells #[.pointer (some ⟨7, 93, none⟩), .pointer (some ⟨w.heap.size, 0, none⟩), .int .u64 150] 126)).alloc (.cells #[.pointer (some e)] 68))
    (by rw [World.cell?_alloc_at _ _ _ _ (by simp)]; rfl)
    (by rw [World.cell?_alloc_lt _ _ t (by simp; omega), World.cell?_alloc_lt _ _ t (by simp; omega), World.cell?_alloc_lt _ _ t (by simp; omega), World.cell?_alloc_lt _ _ t htl]; exact ht0)
    (by rw [World.frozen?_alloc_old _ _ t (by simp; omega), World.frozen?_alloc_old _ _ t (by simp; omega), World.frozen?_alloc_old _ _ t (by simp; omega), World.frozen?_alloc_old _ _ t (Nat.ne_of_lt htl)]; exact hf0)
  go_enter Tryz.func30, Tryz.ntmps30
  go_wp2
  refine wp_loop_rounds 1 ?_
  rw [rounds_succ]
  go_wp2
  go_ret
  exact ⟨rfl, rfl⟩
end Go.Proofs.YtnjbdcdjcfhooaaGreatDoor
namespace Go.Proofs.YtnjbdcdjcfhooaaGreatDoor
open Go.E
set_option linter.all false
set_option maxRecDepth 20000
set_option maxHeartbeats 8000000
def gErr (t : TypeId) : Gl := ⟨0, [Value.iface 159 (.agg #[.pointer (some ⟨7, 26, none⟩)])], t⟩
theorem as_e {tt : TypeId} {S : ES} (hG : gErr tt ∈ S.gl) {fb fo tb : Nat} {x : EV} (hget : S.get tb = some (.cells [x] 68 0 true 0)) {Q : ER → ES → Prop} (hQ : Q (.ret (.bool true)) (S.set tb (.cells [.ptr (some ⟨fb, fo⟩)] 68 0 true 0))) :
    ECalls Tryz.prog 30 [.iface 68 (.ptr (some ⟨fb, fo⟩)), .iface 93 (.ptr (some ⟨tb, 0⟩))] S Q := by
  intro ρ w args' hR hA
  rw [enters_of Tryz.func30 (by kernel_rfl) rfl args' w]
  obtain ⟨args'⟩ := args'
  simp only [VRs] at hA
  obtain ⟨a1, r1, rfl, h1, a2, r2, rfl, h2, rfl⟩ := hA
  simp only [VR] at h1 h2
  obtain ⟨y1, rfl, le, hle, rfl⟩ := h1
  obtain ⟨y2, rfl, lt, hlt, rfl⟩ := h2
  obtain ⟨⟨fr, hw⟩, _⟩ := hR.glob _ hG
  have hg : w.cell? ⟨0, 0, none⟩ = some (.iface 159 (.agg #[.pointer (some ⟨7, 26, none⟩)])) := by
    have : w.heap[0]? = some (.cells #[Value.iface 159 (.agg #[.pointer (some ⟨7, 26, none⟩)])] tt fr) := hw
    simp [World.cell?, this]
  have hb := hR.live _ _ _ hget hlt
  obtain ⟨b1, b2, b3, b4, cs, fr2, hh, hsz, b7, b8⟩ := hb
  obtain ⟨v', hv', -⟩ := b7 0 x rfl
  have ht0 : w.cell? ⟨lt.r, 0 + lt.d, none⟩ = some v' := by
    simp only [World.cell?, hh]
    simpa using hv'
  have hf0 : w.frozen? ⟨lt.r, 0 + lt.d, none⟩ = false := by
    have := b8 rfl 0 (Nat.le_refl _) (by have := b4; rw [b1] at this; simp at this; omega)
    simp only [World.frozen?, hh]
    unfold free at this
    obtain ⟨lo, hi⟩ := fr2
    simp only at this ⊢
    simp only [Bool.and_eq_false_iff, decide_eq_false_iff_not]
    omega
  refine CallsIn.mono ((callsIn_wide (n := 0)).2 (as_hit ⟨le.r, fo + le.d, none⟩ ⟨lt.r, 0 + lt.d, none⟩ v' w hg ht0 hf0)) ?_
  rintro e w' ⟨rfl, rfl⟩
  have hB : RowKit.Below w.heap.size w ((((w.alloc (.cells #[.pointer (some ⟨lt.r, 0 + lt.d, none⟩)] 93)).alloc (.cells #[.pointer (some ⟨7, 93, none⟩), .pointer (some ⟨w.heap.size, 0, none⟩), .int .u64 150] 126)).alloc (.cells #[.pointer (some ⟨7, 93, none⟩), .pointer (some ⟨w.heap.size, 0, none⟩), .int .u64 150] 126)).alloc (.cells #[.pointer (some ⟨le.r, fo + le.d, none⟩)] 68)) :=
    ((((RowKit.Below.refl _ _).alloc (by simp) _).alloc (by simp) _).alloc (by simp; omega) _).alloc (by simp; omega) _
  generalize ((((w.alloc (.cells #[.pointer (some ⟨lt.r, 0 + lt.d, none⟩)] 93)).alloc (.cells #[.pointer (some ⟨7, 93, none⟩), .pointer (some ⟨w.heap.size, 0, none⟩), .int .u64 150] 126)).alloc (.cells #[.pointer (some ⟨7, 93, none⟩), .pointer (some ⟨w.heap.size, 0, none⟩), .int .u64 150] 126)).alloc (.cells #[.pointer (some ⟨le.r, fo + le.d, none⟩)] 68)) = w1 at hB
  have hR1 := hR.below hB
  obtain ⟨s', w2, hrun, hgo, hs'⟩ := eStore_sound (P := Tryz.prog) (t := 68) T68 (x := .ptr (some ⟨tb, 0⟩)) (v := .ptr (some ⟨fb, fo⟩)) (x' := .pointer (some ⟨lt.r, 0 + lt.d, none⟩)) (v' := .pointer (some ⟨le.r, fo + le.d, none⟩)) (s := S)
    (K := fun _ s' => s' = S.set tb (.cells [.ptr (some ⟨fb, fo⟩)] 68 0 true 0)) (by simp [eStore, hget, EV.known, EV.cells, putC, -ES.get, -lkp]) hR1.rel (by rw [VR]; exact ⟨lt, hlt, rfl⟩) (by rw [VR]; exact ⟨le, hle, rfl⟩)
  have h1 : w1.cell? ⟨lt.r, 0 + lt.d, none⟩ = some v' := by
    have hlt2 : lt.r < w.heap.size := by
      rcases Nat.lt_or_ge lt.r w.heap.size with h | h
      · exact h
      · rw [Array.getElem?_eq_none h] at hh; cases hh
    have := hB.block _ hlt2
    simp only [World.cell?, this]; simpa only [World.cell?] using ht0
  have h2 : w1.frozen? ⟨lt.r, 0 + lt.d, none⟩ = false := by
    have hlt2 : lt.r < w.heap.size := by
      rcases Nat.lt_or_ge lt.r w.heap.size with h | h
      · exact h
      · rw [Array.getElem?_eq_none h] at hh; cases hh
    have := hB.block _ hlt2
    simp only [World.frozen?, this]; simpa only [World.frozen?] using hf0
  have hrun2 : (Instr.storeAt 68 (.pointer (some ⟨lt.r, 0 + lt.d, none⟩)) (.pointer (some ⟨le.r, fo + le.d, none⟩))).run Tryz.prog w1 = .ok () (w1.setCell ⟨lt.r, 0 + lt.d, none⟩ (.pointer (some ⟨le.r, fo + le.d, none⟩))) := by
    simp only [Instr.storeAt, Instr.sureAddr, storeVar, Sem.run_bind, Sem.run_pure, Result.andThen_ok, Tas.size25]
    simp [Value.cells, storeCells, Addr.add]
    rw [run_store Tryz.prog w1 _ _ _ (by rfl)]
    simp only [Nat.zero_add] at h1 h2
    simp [h1, h2]
  rw [hrun2] at hrun
  cases hrun
  subst hs'
  exact ⟨.ret (.bool true), _, ρ, ⟨.bool true, rfl, by rw [VR]⟩, hR1.trans hgo, hQ⟩
end Go.Proofs.YtnjbdcdjcfhooaaGreatDoor
namespace Go.Proofs.YtnjbdcdjcfhooaaGreatDoor
open Go.E
set_option linter.all false
set_option maxRecDepth 20000
set_option maxHeartbeats 8000000
theorem fault_at (G : List Gl) {tt : TypeId} (hG : gErr tt ∈ G) (c a : Nat) : Eff G Tryz.prog 12 [.iface 68 (.ptr (some ⟨0, 0⟩))] [(0, faultC c a)] 1 (.tuple [.int .i64 c, .int .i64 a, .bool (decide ((c : Int) ≠ 0))]) [] 1 := by
  unfold Eff
  refine ecalls_in 29 [.tmp 2, .tmp 3, .tmp 4] Tryz.func12 rfl rfl rfl (by kernel_rfl) (le_ble rfl) ?_
  repeat' (first | refine esem_seqK 32957 ?_ | refine esem_block ?_ | (refine stp ?_; simp only [go_sem]) | (refine drawQ (id := 6) mixed [(0, []), (1, []), (2, []), (3, []), (13, []), (4, []), (5, []), (6, []), (7, []), (14, []), (8, []), (9, []), (10, []), (11, []), (12, []), (15, [])] (by kernel_rfl) ?_; simp only [go_sem]) | (refine as_e hG (tb := 1) (x := .ptr none) rfl ?_; simp only [go_sem, KC]) | (simp (disch := omega) only [wE]) | (refine spl (fun h => ?_) (fun h => ?_) <;> first | (exfalso; omega) | ((try simp only [opRun, opSkip, stepRun, pickZ]); (try simp only [go_sem, h]))) | (refine and_om ?_ ?_; focus omega))
  exact done_ef2 [] (by simp) rfl (by simp [mA]) (by simp [bC])
end Go.Proofs.YtnjbdcdjcfhooaaGreatDoor
namespace Go.Proofs.YtnjbdcdjcfhooaaGreatDoor
open Go.E
set_option linter.all false
set_option maxRecDepth 20000
set_option maxHeartbeats 8000000
theorem tz64 (w : World) (h : w.cell? ⟨6, 15, none⟩ = some (.int .u8 4)) : Calls Tryz.prog 136 #[.int .u64 16] w fun e w' => e = .returned (.int .i64 4) ∧ w' = w := by
  have h2 : w.cell? ⟨6, (IntKind.u64.wrap (Go.bits BinOp.and IntKind.u64 16 (IntKind.u64.wrap (-16)) * 285870213051353865) / 288230376151711744).toNat, none⟩ = some (.int .u8 4) := by
    rw [show (IntKind.u64.wrap (Go.bits BinOp.and IntKind.u64 16 (IntKind.u64.wrap (-16)) * 285870213051353865) / 288230376151711744).toNat = 15 from by decide]
    exact h
  go_enter Tryz.func136, Tryz.ntmps136
  go_wp2
  go_ret
  exact ⟨rfl, rfl⟩
def gTz (l : List Value) (t : TypeId) : Gl := ⟨6, l, t⟩
theorem tz64_c (G : List Gl) (v : List Value) (t : TypeId) (hv : v[15]? = some (.int .u8 4)) (hG : gTz v t ∈ G) : E.Pure G Tryz.prog 136 [.int .u64 16] (.int .i64 4) := by
  unfold E.Pure
  refine ecalls_below (v' := .int .i64 4) (enters_of Tryz.func136 (by kernel_rfl) rfl) (fun ρ => by rw [VR]) (fun ρ w args' hR hA => ?_) ⟨rfl, rfl⟩
  obtain ⟨x', e, hx⟩ := one_of hA
  obtain ⟨la⟩ := args'
  simp only at e
  subst e
  rw [VR] at hx; subst hx
  obtain ⟨⟨fr, hw⟩, _⟩ := hR.glob _ hG
  refine (tz64 w ?_).mono ?_
  · have : w.heap[6]? = some (.cells v.toArray t fr) := hw
    simp only [World.cell?, this]
    simpa using hv
  · rintro e w' ⟨rfl, rfl⟩; exact ⟨rfl, RowKit.Below.refl _ _⟩
theorem tz_c (G : List Gl) (v : List Value) (t : TypeId) (hv : v[15]? = some (.int .u8 4)) (hG : gTz v t ∈ G) : E.Pure G Tryz.prog 132 [.int .u64 16] (.int .i64 4) := by
  refine pure_hid fun V hV => ?_
  refine ecalls_in 8 [.tmp 2] Tryz.func132 rfl rfl rfl (by kernel_rfl) (le_ble rfl) ?_
  repeat' (first | refine esem_seqK 5 ?_ | refine esem_block ?_ | (refine stp ?_; simp only [go_sem]) | (refine Pure.at (tz64_c G v t hv hG) (by simp) (by simp) rfl ?_; (try simp only [go_sem])) | (simp (disch := omega) only [wE]) | (refine spl (fun h => ?_) (fun h => ?_) <;> first | (exfalso; omega) | ((try simp only [opRun, opSkip, stepRun, pickZ]); (try simp only [go_sem, h]))) | (refine and_om ?_ ?_; focus omega))
  all_goals (refine done_zero (by simp [EV.bel, allBelow]) ?_; rw [hV])
theorem and64 {a : Int} (h0 : 0 ≤ a) (h1 : a ≤ 18446744073709551615) : andI .u64 a 15 = a % 16 := andI_mask 4 h0 (by simp [IntKind.max, IntKind.signed, IntKind.bits]; omega) (by decide) (by decide)
theorem shr64 (a : Int) : shrI .u64 a 4 = a / 16 := by rw [shrI_div (by decide)]; rfl
theorem pow2_c (G : List Gl) : E.Pure G Tryz.prog 131 [.int .i64 16] (.bool true) := by
  refine pure_hid fun V hV => ?_
  have e : andI .i64 16 15 = 0 := by decide
  refine ecalls_in 8 [.tmp 2] Tryz.func131 rfl rfl rfl (by kernel_rfl) (le_ble rfl) ?_
  repeat' (first | refine esem_seqK 5 ?_ | refine esem_block ?_ | (refine stp ?_; simp only [go_sem, e]) | (simp (disch := omega) only [wE]) | (refine spl (fun h => ?_) (fun h => ?_) <;> first | (exfalso; omega) | ((try simp only [opRun, opSkip, stepRun, pickZ]); (try simp only [go_sem, e, h]))) | (refine and_om ?_ ?_; focus omega))
  all_goals (refine done_zero (by simp [EV.bel, allBelow]) ?_; rw [hV])
theorem bits133_c (G : List Gl) (v : List Value) (t : TypeId) (hv : v[15]? = some (.int .u8 4)) (hG : gTz v t ∈ G) : E.Pure G Tryz.prog 123 [.slice none 0 0, .int .u64 133, .int .i64 16, .bool false, .bool false] (.tuple [.slice none 0 0, .str [56, 53]]) := by
  refine pure_hid fun V hV => ?_
  refine ecalls_in 102 [.tmp 10, .tmp 11] Tryz.func123 rfl rfl rfl (by kernel_rfl) (le_ble rfl) ?_
  repeat' (first | refine esem_seqK 20426010943356750102455122975 ?_ | refine esem_block ?_ | (refine stp ?_; simp only [go_sem]) | (refine Pure.at (pow2_c G) (by simp) (by simp) rfl ?_; (try simp only [go_sem])) | (refine Pure.at (tz_c G v t hv hG) (by simp) (by simp) rfl ?_; (try simp only [go_sem])) | (simp (disch := omega) only [and64, shr64, go_sem]) | (refine esem_loopN 20426010943356750102455122975 6 ?_; simp only [go_sem]) | (simp (disch := omega) only [wE]) | (refine spl (fun h => ?_) (fun h => ?_) <;> first | (exfalso; omega) | ((try simp only [opRun, opSkip, stepRun, pickZ]); (try simp only [go_sem, h]))) | (refine and_om ?_ ?_; focus omega))
  all_goals (refine done_zero (by simp [EV.bel, allBelow]) ?_; rw [hV])
theorem ifmt133_c (G : List Gl) (v : List Value) (t : TypeId) (hv : v[15]? = some (.int .u8 4)) (hG : gTz v t ∈ G) : E.Pure G Tryz.prog 110 [.int .i64 133, .int .i64 16] (.str [56, 53]) := by
  refine pure_hid fun V hV => ?_
  refine ecalls_in 54 [.tmp 4] Tryz.func110 rfl rfl rfl (by kernel_rfl) (le_ble rfl) ?_
  repeat' (first | refine esem_seqK 17188391667 ?_ | refine esem_block ?_ | (refine stp ?_; simp only [go_sem]) | (refine Pure.at (bits133_c G v t hv hG) (by simp) (by simp) rfl ?_; (try simp only [go_sem])) | (simp (disch := omega) only [wE]) | (refine spl (fun h => ?_) (fun h => ?_) <;> first | (exfalso; omega) | ((try simp only [opRun, opSkip, stepRun, pickZ]); (try simp only [go_sem, h]))) | (refine and_om ?_ ?_; focus omega))
  all_goals (refine done_zero (by simp [EV.bel, allBelow]) ?_; rw [hV])
theorem fmt133_c (G : List Gl) (v : List Value) (t : TypeId) (hv : v[15]? = some (.int .u8 4)) (hG : gTz v t ∈ G) : E.Pure G Tryz.prog 93 [.int .i64 133, .int .i64 16] (.str [56, 53]) := by
  refine pure_hid fun V hV => ?_
  refine ecalls_in 8 [.tmp 4] Tryz.func93 rfl rfl rfl (by kernel_rfl) (le_ble rfl) ?_
  repeat' (first | refine esem_seqK 19 ?_ | refine esem_block ?_ | (refine stp ?_; simp only [go_sem]) | (refine Pure.at (ifmt133_c G v t hv hG) (by simp) (by simp) rfl ?_; (try simp only [go_sem])) | (simp (disch := omega) only [wE]) | (refine spl (fun h => ?_) (fun h => ?_) <;> first | (exfalso; omega) | ((try simp only [opRun, opSkip, stepRun, pickZ]); (try simp only [go_sem, h]))) | (refine and_om ?_ ?_; focus omega))
  all_goals (refine done_zero (by simp [EV.bel, allBelow]) ?_; rw [hV])
theorem bits8232_c (G : List Gl) (v : List Value) (t : TypeId) (hv : v[15]? = some (.int .u8 4)) (hG : gTz v t ∈ G) : E.Pure G Tryz.prog 123 [.slice none 0 0, .int .u64 8232, .int .i64 16, .bool false, .bool false] (.tuple [.slice none 0 0, .str [50, 48, 50, 56]]) := by
  refine pure_hid fun V hV => ?_
  refine ecalls_in 102 [.tmp 10, .tmp 11] Tryz.func123 rfl rfl rfl (by kernel_rfl) (le_ble rfl) ?_
  repeat' (first | refine esem_seqK 20426010943356750102455122975 ?_ | refine esem_block ?_ | (refine stp ?_; simp only [go_sem]) | (refine Pure.at (pow2_c G) (by simp) (by simp) rfl ?_; (try simp only [go_sem])) | (refine Pure.at (tz_c G v t hv hG) (by simp) (by simp) rfl ?_; (try simp only [go_sem])) | (simp (disch := omega) only [and64, shr64, go_sem]) | (refine esem_loopN 20426010943356750102455122975 6 ?_; simp only [go_sem]) | (simp (disch := omega) only [wE]) | (refine spl (fun h => ?_) (fun h => ?_) <;> first | (exfalso; omega) | ((try simp only [opRun, opSkip, stepRun, pickZ]); (try simp only [go_sem, h]))) | (refine and_om ?_ ?_; focus omega))
  all_goals (refine done_zero (by simp [EV.bel, allBelow]) ?_; rw [hV])
theorem ifmt8232_c (G : List Gl) (v : List Value) (t : TypeId) (hv : v[15]? = some (.int .u8 4)) (hG : gTz v t ∈ G) : E.Pure G Tryz.prog 110 [.int .i64 8232, .int .i64 16] (.str [50, 48, 50, 56]) := by
  refine pure_hid fun V hV => ?_
  refine ecalls_in 54 [.tmp 4] Tryz.func110 rfl rfl rfl (by kernel_rfl) (le_ble rfl) ?_
  repeat' (first | refine esem_seqK 17188391667 ?_ | refine esem_block ?_ | (refine stp ?_; simp only [go_sem]) | (refine Pure.at (bits8232_c G v t hv hG) (by simp) (by simp) rfl ?_; (try simp only [go_sem])) | (simp (disch := omega) only [wE]) | (refine spl (fun h => ?_) (fun h => ?_) <;> first | (exfalso; omega) | ((try simp only [opRun, opSkip, stepRun, pickZ]); (try simp only [go_sem, h]))) | (refine and_om ?_ ?_; focus omega))
  all_goals (refine done_zero (by simp [EV.bel, allBelow]) ?_; rw [hV])
theorem fmt8232_c (G : List Gl) (v : List Value) (t : TypeId) (hv : v[15]? = some (.int .u8 4)) (hG : gTz v t ∈ G) : E.Pure G Tryz.prog 93 [.int .i64 8232, .int .i64 16] (.str [50, 48, 50, 56]) := by
  refine pure_hid fun V hV => ?_
  refine ecalls_in 8 [.tmp 4] Tryz.func93 rfl rfl rfl (by kernel_rfl) (le_ble rfl) ?_
  repeat' (first | refine esem_seqK 19 ?_ | refine esem_block ?_ | (refine stp ?_; simp only [go_sem]) | (refine Pure.at (ifmt8232_c G v t hv hG) (by simp) (by simp) rfl ?_; (try simp only [go_sem])) | (simp (disch := omega) only [wE]) | (refine spl (fun h => ?_) (fun h => ?_) <;> first | (exfalso; omega) | ((try simp only [opRun, opSkip, stepRun, pickZ]); (try simp only [go_sem, h]))) | (refine and_om ?_ ?_; focus omega))
  all_goals (refine done_zero (by simp [EV.bel, allBelow]) ?_; rw [hV])
theorem bits8233_c (G : List Gl) (v : List Value) (t : TypeId) (hv : v[15]? = some (.int .u8 4)) (hG : gTz v t ∈ G) : E.Pure G Tryz.prog 123 [.slice none 0 0, .int .u64 8233, .int .i64 16, .bool false, .bool false] (.tuple [.slice none 0 0, .str [50, 48, 50, 57]]) := by
  refine pure_hid fun V hV => ?_
  refine ecalls_in 102 [.tmp 10, .tmp 11] Tryz.func123 rfl rfl rfl (by kernel_rfl) (le_ble rfl) ?_
  repeat' (first | refine esem_seqK 20426010943356750102455122975 ?_ | refine esem_block ?_ | (refine stp ?_; simp only [go_sem]) | (refine Pure.at (pow2_c G) (by simp) (by simp) rfl ?_; (try simp only [go_sem])) | (refine Pure.at (tz_c G v t hv hG) (by simp) (by simp) rfl ?_; (try simp only [go_sem])) | (simp (disch := omega) only [and64, shr64, go_sem]) | (refine esem_loopN 20426010943356750102455122975 6 ?_; simp only [go_sem]) | (simp (disch := omega) only [wE]) | (refine spl (fun h => ?_) (fun h => ?_) <;> first | (exfalso; omega) | ((try simp only [opRun, opSkip, stepRun, pickZ]); (try simp only [go_sem, h]))) | (refine and_om ?_ ?_; focus omega))
  all_goals (refine done_zero (by simp [EV.bel, allBelow]) ?_; rw [hV])
theorem ifmt8233_c (G : List Gl) (v : List Value) (t : TypeId) (hv : v[15]? = some (.int .u8 4)) (hG : gTz v t ∈ G) : E.Pure G Tryz.prog 110 [.int .i64 8233, .int .i64 16] (.str [50, 48, 50, 57]) := by
  refine pure_hid fun V hV => ?_
  refine ecalls_in 54 [.tmp 4] Tryz.func110 rfl rfl rfl (by kernel_rfl) (le_ble rfl) ?_
  repeat' (first | refine esem_seqK 17188391667 ?_ | refine esem_block ?_ | (refine stp ?_; simp only [go_sem]) | (refine Pure.at (bits8233_c G v t hv hG) (by simp) (by simp) rfl ?_; (try simp only [go_sem])) | (simp (disch := omega) only [wE]) | (refine spl (fun h => ?_) (fun h => ?_) <;> first | (exfalso; omega) | ((try simp only [opRun, opSkip, stepRun, pickZ]); (try simp only [go_sem, h]))) | (refine and_om ?_ ?_; focus omega))
  all_goals (refine done_zero (by simp [EV.bel, allBelow]) ?_; rw [hV])
theorem fmt8233_c (G : List Gl) (v : List Value) (t : TypeId) (hv : v[15]? = some (.int .u8 4)) (hG : gTz v t ∈ G) : E.Pure G Tryz.prog 93 [.int .i64 8233, .int .i64 16] (.str [50, 48, 50, 57]) := by
  refine pure_hid fun V hV => ?_
  refine ecalls_in 8 [.tmp 4] Tryz.func93 rfl rfl rfl (by kernel_rfl) (le_ble rfl) ?_
  repeat' (first | refine esem_seqK 19 ?_ | refine esem_block ?_ | (refine stp ?_; simp only [go_sem]) | (refine Pure.at (ifmt8233_c G v t hv hG) (by simp) (by simp) rfl ?_; (try simp only [go_sem])) | (simp (disch := omega) only [wE]) | (refine spl (fun h => ?_) (fun h => ?_) <;> first | (exfalso; omega) | ((try simp only [opRun, opSkip, stepRun, pickZ]); (try simp only [go_sem, h]))) | (refine and_om ?_ ?_; focus omega))
  all_goals (refine done_zero (by simp [EV.bel, allBelow]) ?_; rw [hV])
def hexS (r : Nat) : List UInt8 := if r = 133 then [56, 53] else if r = 8232 then [50, 48, 50, 56] else [50, 48, 50, 57]
theorem fmt_c (G : List Gl) (v : List Value) (t : TypeId) (hv : v[15]? = some (.int .u8 4)) (hG : gTz v t ∈ G) (r : Nat) (hr : r = 133 ∨ r = 8232 ∨ r = 8233) : E.Pure G Tryz.prog 93 [.int .i64 r, .int .i64 16] (.str (hexS r)) := by
  rcases hr with rfl | rfl | rfl
  · exact fmt133_c G v t hv hG
  · exact fmt8232_c G v t hv hG
  · exact fmt8233_c G v t hv hG
end Go.Proofs.YtnjbdcdjcfhooaaGreatDoor
