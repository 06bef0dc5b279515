/-
  Own work: a part of the proof that the last text closes.
-/
import Derived.Test.YtncphnpndkjkaaaGreatDoorHpc
import Derived.Test.YtncphnpndkjkaaaGreatDoorHpb
namespace Go.Proofs.YtncphnpndkjkaaaGreatDoor
open Go.E
set_option linter.all false
set_option maxRecDepth 100000
set_option maxHeartbeats 16000000
variable {p:Gp} (B:List (Nat × EO)) {t:Nat}
theorem cdeleteD_c (G:List Gl) (s:Gs) [Big t] [hS0:StL p B t] (hp:p.ok) (ho:s.over=false) (hs:GsOK p s) (hr:ovl s.put 64 8=zU 8) (ps:List Ck) (tb:List TP) (hx:TxOK p s ps tb) (a b:Nat) (hab:a≤b) (hb:b≤zVM ps) :
  EffR G Tryz.prog 56 [.ptr (some ⟨0,0⟩),.int .u32 (zWQ tb),.int .i64 a,.int .i64 b] (gnd p s B) t (fun v bl nx=>∃ s',bl=gnd p s' B∧nx=t∧∃ ps' tb',v=.tuple [.int .u32 (zWQ tb'),.int .i64 0]∧EdOK p s (tb.map (·.1)++zZN ps) ((zQP ps).take a++(zQP ps).drop b) s' ps' tb'):=by
 have hl:=zRX hs.nd (m:=List.range p.n) fun b hb=>List.mem_range.2 (hs.lt b hb)
 rw[List.length_range] at hl
 have h:=EffR.drop2 (R:=fun v s'=>EdQ p s (tb.map (·.1)++zZN ps) ((zQP ps).take a++(zQP ps).drop b) 0 v s') B (cdelete_c B G s hp ho hs hr ps tb hx a b hab hb) (fun v s' h=>by
  rcases h with ⟨_,_,rfl,-⟩ | ⟨rfl,-⟩<;>simp[EV.bel,zQX])
 refine EffR.mono h ?_
 rintro v bl nx ⟨s',rfl,rfl,hq⟩
 refine ⟨s',rfl,rfl,?_⟩
 rcases hq with hq | ⟨-,hq⟩
 ·exact hq
 ·omega
end Go.Proofs.YtncphnpndkjkaaaGreatDoor
