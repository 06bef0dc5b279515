/-
  Own work: a part of the proof that the last text closes.
-/
import Derived.Test.YtgajmgkhlkghjaaGreatDoorHta
import Derived.Test.YtgajmgkhlkghjaaGreatDoorFl
namespace Go.Proofs.YtgajmgkhlkghjaaGreatDoor
open Go.E Go.ChangeShapes Go.WideShapes Go.ChangeAt Go.RowKit
set_option linter.all false
set_option maxRecDepth 100000
set_option maxHeartbeats 16000000
theorem names_calls (G:List Gl) (hG:Tabs G) {W:World} (hg:∀ x∈G,GlOK W x) :
  Calls Tryz.prog 4 #[] W fun e w'=>e=.returned (.bool true)∧Below W.heap.size W w':=by
 have h0:∀ (j:Nat) (o:EO),¬ (ES.zero G).get j=some o:=fun j o hj=>Nat.not_lt_zero j (ES.get_lt hj).1
 let ρ:Env:=fun _=>none
 have hR:Rel ρ (ES.zero G) W:=⟨⟨fun j o L hj _=>(h0 j o hj).elim,fun j _=>rfl,fun j j' o o' L L' hj _ _ _ _ _=>(h0 j o hj).elim,fun j o hj=>(h0 j o hj).elim⟩,
  fun x hx=>⟨hg x hx,fun ⟨j,o,L,hj,_⟩=>h0 j o hj⟩⟩
 have hA:VRs ρ [] (#[]:Array Value).toList:=VRs.nil;refine (ECalls.toCallsS (names_law G hG) Tryz.func4 rfl (by kernel_rfl) hA W hR (fun j o hj=>(h0 j o hj).elim)).mono ?_
 rintro e w' ⟨x,s',ρ',hr,hbel,rfl,rfl⟩
 obtain ⟨v',rfl,hv⟩:=hr;rw[VR] at hv
 exact ⟨by rw[hv],hbel⟩
end Go.Proofs.YtgajmgkhlkghjaaGreatDoor
