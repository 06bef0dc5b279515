/-
  Own work: a part of the proof that the last text closes.
-/
import Derived.Test.YtncphnpndkjkaaaGreatDoorHs
namespace Go.Proofs.YtncphnpndkjkaaaGreatDoor
open Go.E
set_option linter.all false
set_option maxRecDepth 100000
set_option maxHeartbeats 16000000
structure Ed where
 at_:Int
 n:Int
 w:List UInt8
def edE (e:Ed):List EV:=[.int .i64 e.at_,.int .i64 e.n,.str e.w]
def xWR (l:List Ed):List EV:=l.flatMap edE
def Ed.ok (e:Ed):Prop:=(-9223372036854775808≤e.at_∧e.at_≤9223372036854775807)∧-9223372036854775808≤e.n∧e.n≤9223372036854775807
theorem yRD (l:List Ed):(xWR l).length=l.length*3:=by
 induction l with
 | nil=>rfl
 | cons x l ih=>unfold xWR at ih ⊢;rw[List.flatMap_cons,List.length_append,ih];simp[edE];omega
theorem yHP {l:List Ed} {i:Nat} {x:Ed} (h:l[i]? = some x):((xWR l).drop (i*3)).take 3=edE x∧i*3+3≤(xWR l).length:=by
 have hl:=(List.getElem?_eq_some_iff.1 h).1;refine ⟨?_,by rw[yRD];omega⟩;have e:l=l.take i++x::l.drop (i+1):=by
  conv=>lhs;rw[← List.take_append_drop i l,List.drop_eq_getElem_cons hl]
  rw[(List.getElem?_eq_some_iff.1 h).2]
 have hlen:(xWR (l.take i)).length=i*3:=by rw[yRD,List.length_take];omega
 conv=>lhs;rw[e]
 unfold xWR at hlen ⊢
 rw[List.flatMap_append,List.drop_left' hlen,List.flatMap_cons];exact List.take_left' rfl
theorem edsE_below (l:List Ed) (k:Nat):zQX k (xWR l):=zSP fun _ _=>⟨trivial,trivial,trivial,trivial⟩
def SlV (A:List EO) (v:EV) (l:List Ed):Prop:=(v=.slice none 0 0∧l=[])∨∃ b ty,v=.slice (some ⟨b,0⟩) l.length l.length∧A[b]? = some (.cells (xWR l) ty 3 false 0)
def SlG (B:List (Nat × EO)) (t:Nat) (v:EV) (l:List Ed):Prop:=(v=.slice none 0 0∧l=[])∨∃ b ty,v=.slice (some ⟨b,0⟩) l.length l.length∧AtB B t b (.cells (xWR l) ty 3 false 0)
theorem SlG.f {B:List (Nat × EO)} {t:Nat} {v:EV} {l:List Ed} (h:SlG B t v l):(∀ k,v.bel (t+k)=True)∧v.bel t=True∧(∀ k q,v.ren (nam (t+k) q)=v)∧∀ (e a b:Nat) (z:List EV) (s:ES) (K:EV→Prop),xZQ ⟨.slice e,a,b,z⟩ v s K=K (.int .i64 l.length):=by
 rcases h with ⟨rfl,rfl⟩ | ⟨b,ty,rfl,h⟩
 ·exact ⟨fun _=>by simp[EV.bel],by simp[EV.bel],fun _ _=>rfl,fun _ _ _ _ _ _=>rfl⟩
 ·have:=h.lt;refine ⟨fun k=>by simp[EV.bel];omega,by simp[EV.bel];omega,fun k q=>?_,fun _ _ _ _ _ _=>rfl⟩;simp only[EV.ren,nam];rw[if_pos (by omega)]
structure Tw where
 i:Nat
 s:Gs
 p0:List Ck
 b0:List TP
 p1:List Ck
 b1:List TP
structure TwOK (p:Gp) (z:Tw):Prop where
 lt:z.i≤20
 x0:TxOK p z.s z.p0 z.b0
 x1:TxOK p z.s z.p1 z.b1
 ok:GsOK p z.s
 over:z.s.over=false
 low:ovl z.s.put 64 8=zU 8
 dj:∀ b∈z.b0.map (·.1)++zZN z.p0,b ∉ z.b1.map (·.1)++zZN z.p1
 n0:zVM z.p0≤300*z.i
 n1:zVM z.p1≤300*z.i
end Go.Proofs.YtncphnpndkjkaaaGreatDoor
