/-
  Own work: a part of the proof that the last text closes.
-/
import Derived.Test.YtncphnpndkjkaaaGreatDoorHuj
import Derived.Test.YtncphnpndkjkaaaGreatDoorCards
import Derived.Test.YtncphnpndkjkaaaGreatDoorTie
import Derived.Lib.LaidU8
import Derived.OpenShut
import Derived.ProofKit
import Derived.Lay
import Derived.LaidHandle
import Derived.LaidLaws
import Derived.LaidMore
import Derived.SevenTiedAt
import Derived.Stop.Joined
namespace Go.Proofs.YtncphnpndkjkaaaGreatDoor
open Go.E Go.ChangeShapes Go.WideShapes Go.ChangeAt Go.RowKit
set_option linter.all false
set_option maxRecDepth 100000
set_option maxHeartbeats 16000000
abbrev laidL:List (String × DataW Unit):=Rows.bodyWholeRow.laid
theorem glv {W:World} {name:String} {g:Nat} {cs:Array Value} (hg:Tryz.prog.globalNamed name=some g) (h:W.var? Tryz.prog name=some cs):∃ t,GlOK W ⟨g,cs.toList,t⟩:=by
 unfold World.var? at h
 rw[hg] at h
 simp only[Option.bind_some] at h
 split at h
 ·rename_i cs' t fr he
  cases h
  exact ⟨t,fr,he⟩
 ·cases h
theorem gl_tab {W:World} {name:String} {k:IntKind} {zs:List Int} {g:Nat} {t e:TypeId} {n:Nat} (h:Lib.VarReads Tryz.prog W name (Lib.tabData k zs)) (hg:Tryz.prog.globalNamed name=some g) (hty:(Tryz.prog.globals[g]?).map (·.type)=some t)
  (ht:Tryz.prog.underlying t=some (.array n e)) (he:Tryz.prog.underlying e=some (.int k)) (hce:Tryz.prog.cellsOf e=1) (hct:Tryz.prog.cellsOf t=n):∃ t,GlOK W ⟨g,zs.map fun z=>Value.int k z,t⟩:=by
 obtain ⟨g',t',cs,fuel,p,hg',ht',hvar,hd⟩:=h;obtain rfl:=Option.some.inj (hg.symm.trans hg');obtain rfl:=Option.some.inj (hty.symm.trans ht');have:=glv hg hvar
 rwa [Lib.cells_of_tab ht he hce hct hd] at this
theorem handL:laidL.filter (fun x=>x.2.handleName?.isSome)=[]:=by kernel_rfl
theorem xRQ {W:World} (h:laidMetH Tryz.prog laidL W):laidMet Tryz.prog [("unicode/utf8.acceptRanges",Rows.laid_unicode_utf8_acceptRanges),("unicode/utf8.first",Rows.laid_unicode_utf8_first)] W:=by
 unfold laidMetH at h
 rw[handL] at h
 exact h
theorem yYF {W:World} (h:laidMetH Tryz.prog laidL W):Lib.VarReads Tryz.prog W "unicode/utf8.first" Lib.firstData:=by
 have h1:=xRQ h;have:=Lib.laidMet.reads h1 (n := "unicode/utf8.first") (d:=Rows.laid_unicode_utf8_first) (by simp)
 rwa [show (Rows.laid_unicode_utf8_first:DataW Unit)=Lib.firstData from by kernel_rfl] at this
theorem gl_first {W:World} (h:laidMetH Tryz.prog laidL W):∃ t,GlOK W (xQD t):=by
 have:=gl_tab (g:=0) (t:=322) (e:=5) (n:=256) (zs:=Lib.firstTab) (k:=.u8) (yYF h) (by kernel_rfl) (by kernel_rfl) (by kernel_rfl) (by kernel_rfl) (by kernel_rfl) (by kernel_rfl);obtain ⟨t,ht⟩:=this;refine ⟨t,?_⟩;have e:(Lib.firstTab.map fun z=>Value.int .u8 z)=(List.range 256).map fun c=>Value.int .u8 (Lib.firstT c):=by simp[Lib.firstTab,List.map_map]
 rw[e] at ht
 exact ht
theorem gl_acc {W:World} (h:laidMetH Tryz.prog laidL W):∃ t,GlOK W (gAcc t):=by
 have h1:=xRQ h;have h2:Lib.VarReads Tryz.prog W "unicode/utf8.acceptRanges" Lib.acceptData:=by
  have:=Lib.laidMet.reads h1 (n := "unicode/utf8.acceptRanges") (d:=Rows.laid_unicode_utf8_acceptRanges) (by simp)
  rwa [show (Rows.laid_unicode_utf8_acceptRanges:DataW Unit)=Lib.acceptData from by kernel_rfl] at this
 have hT:Lib.Utf8Tabs 0 1 W:=utf8Tabs_of_reads Tryz.lays260 ⟨by kernel_rfl,by kernel_rfl,by kernel_rfl,by kernel_rfl,by kernel_rfl,by kernel_rfl,by kernel_rfl⟩ (yYF h) h2;obtain ⟨g,t,cs,fuel,p,hg,hty,hvar,hd⟩:=h2;obtain rfl:=Option.some.inj ((show Tryz.prog.globalNamed "unicode/utf8.acceptRanges" = some 1 by kernel_rfl).symm.trans hg);obtain rfl:=Option.some.inj ((show (Tryz.prog.globals[1]?).map (·.type)=some 325 by kernel_rfl).symm.trans hty);obtain ⟨xs,m,-,-,hl,-⟩:=DataW.trod_array (show Tryz.prog.underlying 325=some (.array 16 324) by kernel_rfl) hd;rw[show Tryz.prog.cellsOf 325=32 by kernel_rfl] at hl
 obtain ⟨ty,hG⟩:=glv hg hvar;refine ⟨ty,?_⟩;have e:cs.toList=(List.range 32).map fun c=>if c % 2=0 then Value.int .u8 (Lib.accLo (c / 2)) else Value.int .u8 (Lib.accHi (c / 2)):=by
  apply List.ext_getElem?
  intro j
  by_cases hj:j<32
  ·have hc:cs.toList[j]? = W.cell? ⟨1,j,none⟩:=by rw[World.var?_cell hg hvar j,← Array.getElem?_toList]
   rw[hc,List.getElem?_map,List.getElem?_range hj,Option.map_some];have:=hT.2 (j / 2) (by omega)
   by_cases hp:j % 2=0
   ·rw[if_pos hp,← this.1,show 2*(j / 2)=j by omega]
   ·rw[if_neg hp,← this.2,show 2*(j / 2)+1=j by omega]
  ·rw[List.getElem?_eq_none (by omega),List.getElem?_eq_none (by simp;omega)]
 rw[e] at hG
 exact hG
theorem xQN {W:World} (h:laidMetH Tryz.prog laidL W):∃ t u,∀ x∈[xQD t,gAcc u],GlOK W x:=by
 obtain ⟨t,h2⟩:=gl_first h;obtain ⟨u,h3⟩:=gl_acc h;refine ⟨t,u,fun x hx=>?_⟩;simp only[List.mem_cons,List.not_mem_nil,or_false] at hx
 rcases hx with rfl | rfl<;>assumption
end Go.Proofs.YtncphnpndkjkaaaGreatDoor
