/-
  Own work: walks and laws of the functions that the statement reaches; the statement itself stands in the last text.
-/
import Derived.Test.YtgajmgkhlkghjaaGreatDoorHt
import Derived.Test.YtgajmgkhlkghjaaGreatDoorFl
namespace Go.Proofs.YtgajmgkhlkghjaaGreatDoor
open Go.E Go.ChangeShapes Go.WideShapes Go.ChangeAt Go.RowKit
set_option linter.all false
set_option maxRecDepth 100000
set_option maxHeartbeats 16000000
theorem two_core (G:List Gl) (hG:Tabs G) {one other:List Ed} (h1:∀ e∈one,e.ok) (h2:∀ e∈other,e.ok) (room:Int) (hr1:-9223372036854775808≤room) (hr2:room≤9223372036854775807) {W:World} (hg:∀ x∈G,GlOK W x)
  (A:List EO) (Ls:List E.Loc) (hl:Ls.length=A.length) (hb:∀ (j:Nat) (o:EO) (L:E.Loc),A[j]? = some o→Ls[j]? = some L→o.wr=false∧∀ ρ,BR ρ W L o) (hA:∀ o∈A,o.bel 0) (hA0:∀ o∈A,tyE o=0) (w1 w2:EV) (hv1:SlV A w1 one) (hv2:SlV A w2 other) (v1 v2:Value)
  (q1:∀ ρ:Env,(∀ (j:Nat) (L:E.Loc),Ls[j]? = some L→ρ j=some L)→VR ρ w1 v1) (q2:∀ ρ:Env,(∀ (j:Nat) (L:E.Loc),Ls[j]? = some L→ρ j=some L)→VR ρ w2 v2) :
  Calls Tryz.prog 3 #[v1,v2,.int .i64 room] W fun e w'=>e=.returned (.bool true)∧Below W.heap.size W w':=by
 let ρ:Env:=fun j=>Ls[j]?
 let f:Nat→EO:=fun j=>A.getD j lineZ
 have hlk:∀ j,lkp (tabL f 0 A.length) j=A[j]?:=fun j=>by
  rw[lkp_tab]
  by_cases h:j<A.length
  ·rw[if_pos ⟨by omega,by omega⟩]
   show some (A.getD j lineZ)=_
   rw[List.getD_eq_getElem?_getD,List.getElem?_eq_getElem h];rfl
  ·rw[if_neg (by omega),List.getElem?_eq_none (by omega)]
 have hB0:Bg A.length (tabL f 0 A.length):=⟨below_tab _ _ _ _ (by omega) fun i hi=>by
  show (A.getD i lineZ).bel _
  rw[List.getD_eq_getElem?_getD,List.getElem?_eq_getElem hi]
  exact EO.bel_mono (Nat.zero_le _) _ (hA _ (List.getElem_mem hi)),keys_tab _ _ _⟩
 have hall:∀ j o,(⟨tabL f 0 A.length,A.length,G⟩:ES).get j=some o→o.wr=false∧∀ L,ρ j=some L→BR ρ W L o:=by
  intro j o hj
  have h:=(ES.get_lt hj).2
  rw[hlk] at h
  have hjl:=(List.getElem?_eq_some_iff.1 h).1
  obtain ⟨L,hL⟩:∃ L,Ls[j]? = some L:=⟨Ls[j],List.getElem?_eq_getElem _⟩
  obtain ⟨e1,e2⟩:=hb j o L h hL
  refine ⟨e1,fun L' hL'=>?_⟩
  obtain rfl:L=L':=Option.some.inj (hL.symm.trans hL')
  exact e2 ρ
 have hdom:∀ j o,(⟨tabL f 0 A.length,A.length,G⟩:ES).get j=some o→∃ l,ρ j=some l:=fun j o hj=>by
  have h:=(ES.get_lt hj).2
  rw[hlk] at h
  have hjl:=(List.getElem?_eq_some_iff.1 h).1
  exact ⟨Ls[j],List.getElem?_eq_getElem (by omega)⟩
 have hR:Rel ρ ⟨tabL f 0 A.length,A.length,G⟩ W:=⟨⟨fun j o L hj hL=>(hall j o hj).2 L hL,fun j hj=>by
   have h3:A.length≤j:=hj
   exact List.getElem?_eq_none (by omega),fun j j' o o' L L' hj hj' _ _ _ hw=>(by rw[(hall j o hj).1] at hw;cases hw),hdom⟩,
  fun x hx=>⟨hg x hx,fun ⟨j,o,L,hj,_,hw,_⟩=>by rw[(hall j o hj).1] at hw;cases hw⟩⟩
 have hA:VRs ρ [w1,w2,.int .i64 room] (#[v1,v2,.int .i64 room]:Array Value).toList:=
  VRs.cons (q1 ρ fun _ _ h=>h) (VRs.cons (q2 ρ fun _ _ h=>h) (VRs.cons (by rw[VR]) VRs.nil))
 refine (ECalls.toCallsS (two_law G hG one other h1 h2 room hr1 hr2 A ‹_› hA0 w1 w2 hv1 hv2 _ hB0 (fun j o h=>(hlk j).trans h)) Tryz.func3 rfl (by kernel_rfl) hA W hR (fun j o hj=>(hall j o hj).1)).mono ?_
 rintro e w' ⟨x,s',ρ',hr,hbel,rfl,rfl⟩
 obtain ⟨v',rfl,hv⟩:=hr
 rw[VR] at hv
 exact ⟨by rw[hv],hbel⟩
theorem two_calls (G:List Gl) (hG:Tabs G) {one other:List Ed} (h1:∀ e∈one,e.ok) (h2:∀ e∈other,e.ok) (room:Int) (hr1:-9223372036854775808≤room) (hr2:room≤9223372036854775807) {W:World} (hg:∀ x∈G,GlOK W x) (v1 v2:Value)
  (s1:SlIn W v1 3 one.length (edsE one)) (s2:SlIn W v2 3 other.length (edsE other)) :
  Calls Tryz.prog 3 #[v1,v2,.int .i64 room] W fun e w'=>e=.returned (.bool true)∧Below W.heap.size W w':=by
 have nil_vr:∀ ρ:Env,VR ρ (.slice none 0 0) (.slice none 0 0):=fun ρ=>by rw[VR];exact ⟨rfl,rfl,rfl⟩
 have bel:∀ (l:List Ed) (ty:Nat),(EO.cells (edsE l) ty 3 false 0).bel 0:=fun l ty=>edsE_below l 0
 rcases s1 with ⟨rfl,n1,c1⟩ | ⟨L1,t1,b1,r1⟩<;>rcases s2 with ⟨rfl,n2,c2⟩ | ⟨L2,t2,b2,r2⟩
 ·exact two_core G hG h1 h2 room hr1 hr2 hg [] [] rfl (fun j o L h=>by simp at h) (fun o h=>by cases h) (fun o h=>by cases h) (.slice none 0 0) (.slice none 0 0) (.inl ⟨rfl,List.length_eq_zero_iff.1 n1⟩) (.inl ⟨rfl,List.length_eq_zero_iff.1 n2⟩) _ _ (fun ρ _=>nil_vr ρ) (fun ρ _=>nil_vr ρ)
 ·exact two_core G hG h1 h2 room hr1 hr2 hg [.cells (edsE other) t2 3 false 0] [L2] rfl (fun j o L h h'=>by
    match j with
    | 0=>simp at h h';subst h h';exact ⟨rfl,b2⟩) (fun o h=>by simp at h;subst h;exact bel _ _) (fun o h=>by simp at h;subst h;rfl) (.slice none 0 0) (.slice (some ⟨0,0⟩) other.length other.length) (.inl ⟨rfl,List.length_eq_zero_iff.1 n1⟩) (.inr ⟨0,t2,rfl,rfl⟩) _ _ (fun ρ _=>nil_vr ρ) (fun ρ h=>r2 ρ 0 (h 0 L2 rfl))
 ·exact two_core G hG h1 h2 room hr1 hr2 hg [.cells (edsE one) t1 3 false 0] [L1] rfl (fun j o L h h'=>by
    match j with
    | 0=>simp at h h';subst h h';exact ⟨rfl,b1⟩) (fun o h=>by simp at h;subst h;exact bel _ _) (fun o h=>by simp at h;subst h;rfl) (.slice (some ⟨0,0⟩) one.length one.length) (.slice none 0 0) (.inr ⟨0,t1,rfl,rfl⟩) (.inl ⟨rfl,List.length_eq_zero_iff.1 n2⟩) _ _ (fun ρ h=>r1 ρ 0 (h 0 L1 rfl)) (fun ρ _=>nil_vr ρ)
 ·exact two_core G hG h1 h2 room hr1 hr2 hg [.cells (edsE one) t1 3 false 0,.cells (edsE other) t2 3 false 0] [L1,L2] rfl (fun j o L h h'=>by
    match j with
    | 0=>simp at h h';subst h h';exact ⟨rfl,b1⟩
    | 1=>simp at h h';subst h h';exact ⟨rfl,b2⟩) (fun o h=>by simp at h;rcases h with rfl | rfl<;>exact bel _ _) (fun o h=>by simp at h;rcases h with rfl | rfl<;>rfl) (.slice (some ⟨0,0⟩) one.length one.length) (.slice (some ⟨1,0⟩) other.length other.length) (.inr ⟨0,t1,rfl,rfl⟩) (.inr ⟨1,t2,rfl,rfl⟩) _ _ (fun ρ h=>r1 ρ 0 (h 0 L1 rfl)) (fun ρ h=>r2 ρ 1 (h 1 L2 rfl))
end Go.Proofs.YtgajmgkhlkghjaaGreatDoor
