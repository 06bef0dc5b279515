/-
  Own work: a part of the proof that the last text closes.
-/
import Derived.Test.YtncphnpndkjkaaaGreatDoorHpd
import Derived.Test.YtncphnpndkjkaaaGreatDoorHt
namespace Go.Proofs.YtncphnpndkjkaaaGreatDoor
open Go.E
set_option linter.all false
set_option maxRecDepth 100000
set_option maxHeartbeats 16000000
theorem yZH:∀ (l:List Ck),noFitC l→253*(l.length / 2)≤zVM l
 | [],_=>Nat.zero_le _
 | [x],_=>by show 253*(1 / 2)≤_;omega
 | x::y::l,h=>by
   have h1:noFitC l:=by
    cases l with
    | nil=>trivial
    | cons z l=>exact h.2.2
   have ih:=yZH l h1;have h2:=h.1;have e1:=yYP x (y::l);have e2:=yYP y l;simp only[List.length_cons];omega
theorem yTN {p:Gp} {s:Gs}:∀ (l:List TP),Chain p s 16 l→16*(l.length / 2)≤(l.flatMap (·.2)).length
 | [],_=>Nat.zero_le _
 | [x],_=>by show 16*(1 / 2)≤_;omega
 | (b,cs)::(b2,cs2)::l,h=>by
   have ih:=yTN l h.2.2.2.2;have h2:248 / 16<cs.length+cs2.length:=h.2.1;simp only[List.length_cons,List.flatMap_cons,List.length_append];omega
structure OneOK (p:Gp) (s:Gs) (ps:List Ck) (tb:List TP):Prop where
 tx:TxOK p s ps tb
 ok:GsOK p s
 over:s.over=false
 low:ovl s.put 64 8=zU 8
 own:∀ b∈s.taken,b∈tb.map (·.1)++zZN ps
 len:zVM ps≤4000
theorem OneOK.few {p:Gp} {s:Gs} {ps:List Ck} {tb:List TP} (h:OneOK p s ps tb):s.taken.length≤34:=by
 have h1:=zRX h.ok.nd h.own;have h2:=yZH ps h.tx.fit;have h3:=yTN tb h.tx.chain
 have h4:=h.len;rw[h.tx.cells,List.length_map] at h3
 rw[List.length_append,List.length_map,show (zZN ps).length=ps.length by simp[zZN]] at h1
 omega
theorem EdOK.one {p:Gp} {s s':Gs} {T:List UInt8} {ps ps':List Ck} {tb tb':List TP} (h:OneOK p s ps tb) (hat:72≤p.at_) (k:EdOK p s (tb.map (·.1)++zZN ps) T s' ps' tb') (hl:T.length≤4000):OneOK p s' ps' tb' where
 tx:=k.tx
 ok:=k.ok
 over:=k.over.trans h.over
 low:=(yWP fun i hi=>k.low _ (by omega)).trans h.low
 own b hb:=by
  rcases (k.taken b).1 hb with q | q
  ·exact absurd (h.own b q.1) q.2
  ·exact q
 len:=by rw[← zQD,k.flat];exact hl
variable {p:Gp} (B:List (Nat × EO)) {t:Nat}
end Go.Proofs.YtncphnpndkjkaaaGreatDoor
