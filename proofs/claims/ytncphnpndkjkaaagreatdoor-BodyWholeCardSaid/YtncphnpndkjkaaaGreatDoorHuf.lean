/-
  Own work: a part of the proof that the last text closes.
-/
import Derived.Test.YtncphnpndkjkaaaGreatDoorHuc
import Derived.Test.YtncphnpndkjkaaaGreatDoorHue
namespace Go.Proofs.YtncphnpndkjkaaaGreatDoor
open Go.E
set_option linter.all false
set_option maxRecDepth 100000
set_option maxHeartbeats 16000000
theorem tallyEq (s:List UInt8):EqS Tryz.prog .neq 81 (zZY s) (zZY s) false:=by
 have:=(zFN (xs:=zVX s) (ys:=zVX s) flat44 und44 ⟨rfl,rfl,rfl,trivial⟩).2
 simpa only[zZY,zVX,eqE,eqE.eqL,decide_true,Bool.and_true,Bool.true_and,Bool.not_true] using this
theorem flatSpot:flatT Tryz.prog 95=some [0,0]:=by kernel_rfl
theorem undSpot:Tryz.prog.underlying 95=some (.struct (Tryz.prog.fieldsOf 95)):=by kernel_rfl
theorem spotEq (l c:Int):EqS Tryz.prog .neq 95 (.agg [.int .i64 l,.int .i64 c]) (.agg [.int .i64 l,.int .i64 c]) false:=by
 have:=(zFN (xs:=[.int .i64 l,.int .i64 c]) (ys:=[.int .i64 l,.int .i64 c]) flatSpot undSpot ⟨rfl,rfl,trivial⟩).2
 simpa only[eqE,eqE.eqL,decide_true,Bool.and_true,Bool.true_and,Bool.not_true] using this
section
variable {p:Gp} (B:List (Nat × EO)) {t:Nat}
variable (G:List Gl) (hG:Tabs G) (s:Gs) [Big t] [hS0:StL p B t] (hp:p.ok) (ps:List Ck) (tb:List TP) (h1:OneOK p s ps tb) {x b:Nat} (hx:AtB B t x (zHG (zWQ tb))) (hb:AtB B t b (yVD x))
include hG hp h1 hx hb
theorem bWhere_c (n:Nat) (hn:n≤(tlG (zQP ps) 0).1) (l c:Int) (hwh:E.Pure G Tryz.prog 36 [.str (zQP ps),.int .i64 (itU (zQP ps) n)] (.tuple [.agg [.int .i64 l,.int .i64 c],.int .i64 0])) :
  EffW G Tryz.prog 35 [.ptr (some ⟨b,0⟩),.int .i64 n] t [] (gnd p s B) 0 (.tuple [.agg [.int .i64 l,.int .i64 c],.int .i64 0]) [] (gnd p s B) 0:=by
 have hxt:=hx.lt;have hbt:=hb.lt;have hX:=hx.f (p:=p);have hBd:=hb.f (p:=p);have hat:=bAt_c B G hG s hp ps tb h1 hx hb n hn;have hwo:=bwhole_c B G hG s hp ps tb h1 hx;refine EffW.enter fun Q hQ=>?_
 simp only[gnd,List.nil_append,Nat.add_zero];refine zQV 36 [.cell 4 95,.tmp 5] Tryz.func35 ?_
 repeat' (first|refine zQQ 268501491 ?_|(refine stp ?_;simp only[go_sem,hBd])|(refine EffW.at (hat ) [] rfl (by first|(simp[zQR hxt,hbt,zQR hbt];done)|fail) ?_;(try simp only[go_sem]))|(refine EffW.at (hwo ) [] rfl (by first|(simp[hxt,zQR hxt,zQR hbt];done)|fail) ?_;(try simp only[go_sem]))|(refine Pure.at (hwh) (by simp) (by simp) rfl ?_;(try simp only[go_sem]))|fail)
 (refine zQN hQ [] ?_ ?_ ?_<;>(simp))
theorem told_c:EffW G Tryz.prog 14 [.ptr (some ⟨b,0⟩),.str (zQP ps)] t [] (gnd p s B) 0 (.bool true) [] (gnd p s B) 0:=by
 have hxt:=hx.lt;have hbt:=hb.lt;have hX:=hx.f (p:=p);have hBd:=hb.f (p:=p);have hlen:=h1.len;have hfl:=zQD ps;have hcl:=yTG (zQP ps);have hbk:∀ j,b<t+j:=fun j=>by omega
 have hbn:∀ j,(t+j≤b)=False:=fun j=>eq_false (by omega)
 have hcnt:=(zKV (zQP ps)).2;have hcn:=xJS G (zQP ps) (by omega);have hta:=xTP B G hG s hp ps tb h1 hx hb;have hof:=tof_c G (zQP ps) (by omega);have heq:=tallyEq (zQP ps);unfold zZY at hta hof heq
 refine EffW.enter fun Q hQ=>?_
 simp only[gnd,List.nil_append,Nat.add_zero];refine zQV 147 [.tmp 4] Tryz.func14 ?_
 repeat' (first|refine zQQ 11150372952341497953553989515627191909482483 ?_|refine zQW ?_|(refine stp ?_;simp only[go_sem])|(refine Pure.at (hcn) (by simp) (by simp) rfl ?_;(try simp only[go_sem]))|(refine EffW.at (hta ) [] rfl (by first|(simp[zQR hxt,hbt,zQR hbt];done)|fail) ?_;(try simp only[go_sem]))|(refine Pure.at (hof) (by simp) (by simp) rfl ?_;(try simp only[go_sem]))|(refine ⟨heq,?_⟩)|fail)
 refine zQM (fun i:Nat=>[(0,.ptr (some ⟨b,0⟩)),(1,.str (zQP ps)),(5,.int .i64 (tlG (zQP ps) 0).1),(6,.int .i64 i)]) (fun i:Nat=>stB (zXG p s) B) (fun i:Nat=>t) (fun i:Nat=>i≤(tlG (zQP ps) 0).1+1) (fun i:Nat=>(tlG (zQP ps) 0).1+1 - i) (0) ?_ ?_ ?_ ?_ ?_
 ·intro i hi;exact ⟨by simp[zWP,hbt],(show blBelow t (stB _ B) from Bg.below (t:=t)),Nat.le_refl _⟩
 ·exact Nat.zero_le _
 ·simp only[go_sem,zQS]
 ·show zWG _ (stB (zXG p s) B);simp only[go_sem]
 ·intro i hi;simp only at hi ⊢
  rcases Nat.lt_or_ge (tlG (zQP ps) 0).1 i with hic | hic
  ·have g0:((i:Int)≤((tlG (zQP ps) 0).1:Int))=False:=eq_false (by omega)
   repeat' (first|refine zQQ 11150372952341497953553989515627191909482483 ?_|refine zQW ?_|(refine stp ?_;simp only[go_sem,g0])|fail)
   refine zQM (fun a:Nat=>[(0,.ptr (some ⟨b,0⟩)),(1,.str (zQP ps)),(17,.int .i64 a)]) (fun a:Nat=>stB (zXG p s) B) (fun a:Nat=>t) (fun a:Nat=>a≤(zQP ps).length+1) (fun a:Nat=>(zQP ps).length+1 - a) (0) ?_ ?_ ?_ ?_ ?_
   ·intro a ha;exact ⟨by simp[zWP,hbt],(show blBelow t (stB _ B) from Bg.below (t:=t)),Nat.le_refl _⟩
   ·exact Nat.zero_le _
   ·simp only[go_sem,zQS]
    try rfl
   ·show zWG _ (stB (zXG p s) B);simp only[go_sem]
   ·intro a ha;simp only at ha ⊢
    rcases Nat.lt_or_ge (zQP ps).length a with hac | hac
    ·have g1:((a:Int)≤((zQP ps).length:Int))=False:=eq_false (by omega);have hlr:=lrunes_c B G hG s hp ps tb h1 hx hb
     repeat' (first|refine zQQ 11150372952341497953553989515627191909482483 ?_|(refine stp ?_;simp only[go_sem,g1])|(refine EffW.at (hlr ) [] rfl (by first|(simp[zQR hxt,hbt,zQR hbt];done)|fail) ?_;(try simp only[go_sem]))|fail)
     (refine zQN hQ [] ?_ ?_ ?_<;>(simp))
    ·have g1:((a:Int)≤((zQP ps).length:Int))=True:=eq_true (by omega);obtain ⟨n,hn⟩:=hasU (zQP ps) a hac;have ho1:=bOf_c B G hG s hp ps tb h1 hx hb a n hac hn;have ho2:=uof_c G (zQP ps) (by omega) a n hac hn
     repeat' (first|refine zQQ 11150372952341497953553989515627191909482483 ?_|refine zQW ?_|(refine stp ?_;simp only[go_sem,g1])|(refine EffW.at (ho1 ) [] rfl (by first|(simp[zQR hxt,hbt,zQR hbt];done)|fail) ?_;(try simp only[go_sem]))|(refine Pure.at (ho2) (by simp) (by simp) rfl ?_;(try simp only[go_sem]))|(simp (disch:=omega) only[zQK])|fail)
     (refine ⟨(a+1),t,[],?_,?_,rfl,rfl,?_,⟨?_,rfl,?_,?_,?_,?_,?_⟩⟩;rotate_left;(focus (simp only[];omega));(focus (simp[go_sem,zQS,hbt]));(focus (omega));(focus simp);(focus (simp));(focus (simp only[];omega));(focus (simp));(focus (simp));(try simp only[]))
     omega
  ·have g0:((i:Int)≤((tlG (zQP ps) 0).1:Int))=True:=eq_true (by omega);obtain ⟨l,c,hwh⟩:=where_c hG (zQP ps) (by omega) (itU (zQP ps) i) (zGD _ _);have hat:=bAt_c B G hG s hp ps tb h1 hx hb i hic;have hua:=uat_c G (zQP ps) (by omega) i (by omega);rw[yJF hic,atE] at hua
   have hbw:=bWhere_c B G hG s hp ps tb h1 hx hb i hic l c hwh;have ht1:=ySQ B G hG s hp ps tb h1 hx hb 0 i (Nat.zero_le _) hic;rw[show itU (zQP ps) 0=0 from rfl,List.drop_zero,Nat.sub_zero,show ((0:Nat):Int)=0 from rfl] at ht1
   have ht2:=ySQ B G hG s hp ps tb h1 hx hb i (tlG (zQP ps) 0).1 hic (Nat.le_refl _);rw[hcnt,List.take_of_length_le (l:=(zQP ps).drop _) (by rw[List.length_drop];exact Nat.le_refl _)] at ht2
   have hile:=zGD (zQP ps) i;have hsp:=spotEq l c
   repeat' (first|(refine zZF 14 ?_)|refine zQQ 11150372952341497953553989515627191909482483 ?_|refine zQW ?_|(refine stp ?_;simp only[go_sem,g0])|(refine EffW.at (hat ) [] rfl (by first|(simp[zQR hxt,hbt,zQR hbt];done)|fail) ?_;(try simp only[go_sem]))|(refine Pure.at (hua) (by simp) (by simp) rfl ?_;(try simp only[go_sem]))|(refine EffW.at (hbw ) [] rfl (by first|(simp[zQR hxt,hbt,zQR hbt];done)|fail) ?_;(try simp only[go_sem]))|(refine Pure.at (hwh) (by simp) (by simp) rfl ?_;(try simp only[go_sem]))|(refine EffW.at (ht1 ) [] rfl (by first|(simp[zQR hxt,hbt,zQR hbt];done)|fail) ?_;(try simp only[go_sem]))|(refine ⟨hsp,?_⟩)|fail)
   refine ⟨?_⟩
   repeat' (first|refine zQQ 11150372952341497953553989515627191909482483 ?_|(refine stp ?_;simp only[go_sem])|(refine EffW.at (ht2 ) [] rfl (by first|(simp[zQR hxt,hbt,zQR hbt];done)|fail) ?_;(try simp only[go_sem]))|(simp (disch:=omega) only[zQK])|(refine zQT ?_ ?_;focus omega))
   (refine ⟨(i+1),t,[],?_,?_,rfl,rfl,?_,⟨?_,rfl,?_,?_,?_,?_,?_⟩⟩;rotate_left;(focus (simp only[];omega));(focus (simp[go_sem,zQS,hbt]));(focus (omega));(focus simp);(focus (simp));(focus (simp only[];omega));(focus (simp));(focus (simp));(try simp only[]))
   omega
end
end Go.Proofs.YtncphnpndkjkaaaGreatDoor
