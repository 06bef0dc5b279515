/-
  Own work: a part of the proof that the last text closes.
-/
import Derived.Test.YtncphnpndkjkaaaGreatDoorHui
import Derived.Test.YtncphnpndkjkaaaGreatDoorFl
namespace Go.Proofs.YtncphnpndkjkaaaGreatDoor
open Go.E Go.ChangeShapes Go.WideShapes Go.ChangeAt Go.RowKit
set_option linter.all false
set_option maxRecDepth 100000
set_option maxHeartbeats 16000000
theorem yGQ (G:List Gl) (hG:Tabs G) {eds:List Ed} (h1:∀ e∈eds,e.ok) {W:World} (hg:∀ x∈G,GlOK W x)
  (A:List EO) (Ls:List E.Loc) (hl:Ls.length=A.length) (hb:∀ (j:Nat) (o:EO) (L:E.Loc),A[j]? = some o→Ls[j]? = some L→o.wr=false∧∀ ρ,BR ρ W L o) (hA:∀ o∈A,o.bel 0) (hA0:∀ o∈A,tyE o=0) (w1:EV) (hv1:SlV A w1 eds) (v1:Value)
  (q1:∀ ρ:Env,(∀ (j:Nat) (L:E.Loc),Ls[j]? = some L→ρ j=some L)→VR ρ w1 v1) :
  Calls Tryz.prog 3 #[v1] W fun e w'=>e=.returned (.bool true)∧Below W.heap.size W w':=by
 let ρ:Env:=fun j=>Ls[j]?
 let f:Nat→EO:=fun j=>A.getD j lineZ
 have hlk:∀ j,lkp (tabL f 0 A.length) j=A[j]?:=fun j=>by
  rw[yQJ]
  by_cases h:j<A.length
  ·rw[if_pos ⟨by omega,by omega⟩];show some (A.getD j lineZ)=_;rw[List.getD_eq_getElem?_getD,List.getElem?_eq_getElem h];rfl
  ·rw[if_neg (by omega),List.getElem?_eq_none (by omega)]
 have hB0:Bg A.length (tabL f 0 A.length):=⟨yTD _ _ _ _ (by omega) fun i hi=>by
  show (A.getD i lineZ).bel _;rw[List.getD_eq_getElem?_getD,List.getElem?_eq_getElem hi];exact EO.bel_mono (Nat.zero_le _) _ (hA _ (List.getElem_mem hi)),yNM _ _ _⟩
 have hall:∀ j o,(⟨tabL f 0 A.length,A.length,G⟩:ES).get j=some o→o.wr=false∧∀ L,ρ j=some L→BR ρ W L o:=by
  intro j o hj;have h:=(ES.get_lt hj).2;rw[hlk] at h
  have hjl:=(List.getElem?_eq_some_iff.1 h).1;obtain ⟨L,hL⟩:∃ L,Ls[j]? = some L:=⟨Ls[j],List.getElem?_eq_getElem _⟩;obtain ⟨e1,e2⟩:=hb j o L h hL;refine ⟨e1,fun L' hL'=>?_⟩;obtain rfl:L=L':=Option.some.inj (hL.symm.trans hL');exact e2 ρ
 have hdom:∀ j o,(⟨tabL f 0 A.length,A.length,G⟩:ES).get j=some o→∃ l,ρ j=some l:=fun j o hj=>by
  have h:=(ES.get_lt hj).2;rw[hlk] at h
  have hjl:=(List.getElem?_eq_some_iff.1 h).1;exact ⟨Ls[j],List.getElem?_eq_getElem (by omega)⟩
 have hR:Rel ρ ⟨tabL f 0 A.length,A.length,G⟩ W:=⟨⟨fun j o L hj hL=>(hall j o hj).2 L hL,fun j hj=>by
   have h3:A.length≤j:=hj;exact List.getElem?_eq_none (by omega),fun j j' o o' L L' hj hj' _ _ _ hw=>(by rw[(hall j o hj).1] at hw;cases hw),hdom⟩,
  fun x hx=>⟨hg x hx,fun ⟨j,o,L,hj,_,hw,_⟩=>by rw[(hall j o hj).1] at hw;cases hw⟩⟩
 have hA2:VRs ρ [w1] (#[v1]:Array Value).toList:=
  VRs.cons (q1 ρ fun _ _ h=>h) VRs.nil
 refine (ECalls.toCallsS (whole_law G hG eds h1 A hA hA0 w1 hv1 _ hB0 (fun j o h=>(hlk j).trans h)) Tryz.func3 rfl (by kernel_rfl) hA2 W hR (fun j o hj=>(hall j o hj).1)).mono ?_
 rintro e w' ⟨x,s',ρ',hr,hbel,rfl,rfl⟩
 obtain ⟨v',rfl,hv⟩:=hr;rw[VR] at hv
 exact ⟨by rw[hv],hbel⟩
theorem xZK (G:List Gl) (hG:Tabs G) {eds:List Ed} (h1:∀ e∈eds,e.ok) {W:World} (hg:∀ x∈G,GlOK W x) (v1:Value)
  (s1:SlIn W v1 3 eds.length (xWR eds)) :
  Calls Tryz.prog 3 #[v1] W fun e w'=>e=.returned (.bool true)∧Below W.heap.size W w':=by
 rcases s1 with ⟨rfl,n1,c1⟩ | ⟨L1,t1,b1,r1⟩
 ·exact yGQ G hG h1 hg [] [] rfl (fun j o L h=>by simp at h) (fun o h=>by cases h) (fun o h=>by cases h) (.slice none 0 0) (.inl ⟨rfl,List.length_eq_zero_iff.1 n1⟩) _ (fun ρ _=>by rw[VR];exact ⟨rfl,rfl,rfl⟩)
 ·exact yGQ G hG h1 hg [.cells (xWR eds) t1 3 false 0] [L1] rfl (fun j o L h h'=>by
    match j with
    | 0=>simp at h h';subst h h';exact ⟨rfl,b1⟩) (fun o h=>by simp at h;subst h;exact edsE_below _ 0) (fun o h=>by simp at h;subst h;rfl) (.slice (some ⟨0,0⟩) eds.length eds.length) (.inr ⟨0,t1,rfl,rfl⟩) _ (fun ρ h=>r1 ρ 0 (h 0 L1 rfl))
end Go.Proofs.YtncphnpndkjkaaaGreatDoor
