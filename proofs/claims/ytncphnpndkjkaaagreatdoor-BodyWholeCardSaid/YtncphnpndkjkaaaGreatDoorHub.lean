/-
  Own work: a part of the proof that the last text closes.
-/
import Derived.Test.YtncphnpndkjkaaaGreatDoorHua
import Derived.Test.YtncphnpndkjkaaaGreatDoorHta
namespace Go.Proofs.YtncphnpndkjkaaaGreatDoor
open Go.E
set_option linter.all false
set_option maxRecDepth 100000
set_option maxHeartbeats 16000000
section
abbrev zHG (r:Nat):EO:=.cells [.ptr (some ⟨0,0⟩),.int .u32 r] 85 0 true 0
abbrev yVD (x:Nat):EO:=.cells [.ptr (some ⟨x,0⟩)] 87 0 true 0
theorem cnt_le (s:List UInt8):∀ n,n≤(tlG s 0).1→n≤itU s n
 | 0,_=>Nat.zero_le _
 | n+1,h=>by
   have h1:=cnt_le s n (by omega);have h2:=yRZ ((zKV s).1 n (by omega));omega
theorem yTG (s:List UInt8):(tlG s 0).1≤s.length:=by
 have h1:=cnt_le s (tlG s 0).1 (Nat.le_refl _);have h2:=zGD s (tlG s 0).1;omega
theorem yJF {s:List UInt8} {n:Nat} (h:n≤(tlG s 0).1):xPS s 0 n=some (itU s n):=by
 have:=nth_it s n 0 (by omega)
 rwa [Nat.zero_add] at this
section
variable {p:Gp} (B:List (Nat × EO)) {t:Nat}
variable (G:List Gl) (hG:Tabs G) (s:Gs) [Big t] [hS0:StL p B t] (hp:p.ok) (ps:List Ck) (tb:List TP) (h:OneOK p s ps tb) {x b:Nat} (hx:AtB B t x (zHG (zWQ tb))) (hb:AtB B t b (yVD x))
include hG hp h hx hb
omit hb in
theorem yFK:EffW G Tryz.prog 28 [.ptr (some ⟨x,0⟩)] t [] (gnd p s B) 0 (.tuple [zZY (zQP ps),.int .i64 0]) [] (gnd p s B) 0:=by
 have hta:=ctally_c B G hG s hp h.over h.low ps tb h.tx;have hxt:=hx.lt;have hX:=hx.f (p:=p);unfold zZY at hta
 refine EffW.enter fun Q hQ=>?_
 simp only[gnd,List.nil_append,Nat.add_zero];refine zQV 15 [.cell 2 81,.tmp 3] Tryz.func28 ?_;unfold zZY at hQ
 repeat' (first|refine zQQ 13 ?_|(refine stp ?_;simp only[go_sem])|(refine zWV (id:=1) mixed [(0,[]),(1,[]),(2,[]),(4,[]),(5,[]),(6,[]),(3,[]),(7,[]),(8,[]),(9,[]),(10,[]),(11,[]),(12,[])] (by kernel_rfl) ?_;simp only[go_sem,hX])|(refine EffW.at (hta ) [] rfl (by (simp;done)) ?_;(try simp only[go_sem]))|fail)
 (refine zQN hQ [] ?_ ?_ ?_<;>(simp))
omit hG hb in
theorem yFJ (i j:Nat) (hab:i≤j) (hj:j≤(zQP ps).length):EffW G Tryz.prog 32 [.ptr (some ⟨x,0⟩),.int .i64 i,.int .i64 j] t [] (gnd p s B) 0 (.tuple [.str (((zQP ps).drop i).take (j - i)),.int .i64 0]) [] (gnd p s B) 0:=by
 have hrd:=cread_c B G s hp h.over h.low ps tb h.tx i j hab (by rw[← zQD];exact hj);have hxt:=hx.lt;have hX:=hx.f (p:=p);refine EffW.enter fun Q hQ=>?_
 simp only[gnd,List.nil_append,Nat.add_zero];refine zQV 21 [.tmp 6,.tmp 7] Tryz.func32 ?_
 repeat' (first|refine zQQ 199 ?_|(refine stp ?_;simp only[go_sem])|(refine zWV (id:=1) mixed [(0,[]),(1,[]),(2,[]),(4,[]),(5,[]),(6,[]),(8,[]),(9,[]),(3,[]),(7,[]),(10,[]),(11,[]),(12,[]),(13,[]),(14,[])] (by kernel_rfl) ?_;simp only[go_sem,hX])|(refine EffW.at (hrd ) [] rfl (by (simp;done)) ?_;(try simp only[go_sem]))|fail)
 (refine zQN hQ [] ?_ ?_ ?_<;>(simp))
omit hG hp h in
theorem bmade_c:EffW G Tryz.prog 54 [.ptr (some ⟨b,0⟩)] t [] (gnd p s B) 0 (.bool true) [] (gnd p s B) 0:=by
 have hxt:=hx.lt;have hbt:=hb.lt;have hX:=hx.f (p:=p);have hBd:=hb.f (p:=p);refine EffW.enter fun Q hQ=>?_
 simp only[gnd,List.nil_append,Nat.add_zero];refine zQV 12 [.tmp 2] Tryz.func54 ?_
 repeat' (first|refine zQQ 5 ?_|(refine stp ?_;simp only[go_sem,hBd])|fail)
 (refine zQN hQ [] ?_ ?_ ?_<;>(simp))
theorem yQB:EffW G Tryz.prog 29 [.ptr (some ⟨b,0⟩)] t [] (gnd p s B) 0 (.tuple [zZY (zQP ps),.int .i64 0]) [] (gnd p s B) 0:=by
 have hma:=bmade_c (p:=p) B G s tb hx hb;have hta:=yFK B G hG s hp ps tb h hx;have hxt:=hx.lt;have hbt:=hb.lt;have hX:=hx.f (p:=p);have hBd:=hb.f (p:=p);unfold zZY at hta
 refine EffW.enter fun Q hQ=>?_
 simp only[gnd,List.nil_append,Nat.add_zero];refine zQV 15 [.cell 2 81,.tmp 3] Tryz.func29 ?_;unfold zZY at hQ
 repeat' (first|refine zQQ 77 ?_|(refine stp ?_;simp only[go_sem,hBd])|(refine EffW.at (hma ) [] rfl (by first|(simp[zQR hxt,hbt,zQR hbt];done)|fail) ?_;(try simp only[go_sem]))|(refine EffW.at (hta ) [] rfl (by first|(simp[hxt,zQR hxt,zQR hbt];done)|fail) ?_;(try simp only[go_sem]))|fail)
 (refine zQN hQ [] ?_ ?_ ?_<;>(simp))
theorem xTP:EffW G Tryz.prog 27 [.ptr (some ⟨b,0⟩)] t [] (gnd p s B) 0 (zZY (zQP ps)) [] (gnd p s B) 0:=by
 have hop:=yQB B G hG s hp ps tb h hx hb;have hxt:=hx.lt;have hbt:=hb.lt;have hX:=hx.f (p:=p);have hBd:=hb.f (p:=p);unfold zZY at hop
 refine EffW.enter fun Q hQ=>?_
 simp only[gnd,List.nil_append,Nat.add_zero];refine zQV 14 [.cell 2 81] Tryz.func27 ?_;unfold zZY at hQ
 repeat' (first|refine zQQ 2077 ?_|(refine stp ?_;simp only[go_sem])|(refine EffW.at (hop ) [] rfl (by first|(simp[zQR hxt,hbt,zQR hbt];done)|fail) ?_;(try simp only[go_sem]))|fail)
 (refine zQN hQ [] ?_ ?_ ?_<;>(simp))
omit hG in
theorem xTY (m n:Nat) (hmn:m≤n) (hn:n≤(tlG (zQP ps) 0).1):EffW G Tryz.prog 30 [.ptr (some ⟨b,0⟩),.int .i64 m,.int .i64 n] t [] (gnd p s B) 0 (.tuple [.int .i64 (itU (zQP ps) m),.int .i64 (itU (zQP ps) n),.int .i64 0]) [] (gnd p s B) 0:=by
 have hlen:=h.len;have hcl:=yTG (zQP ps);rw[zQD] at hcl
 have ha1:=cat_c B G s hp h.over h.low ps tb h.tx m (by omega);have ha2:=cat_c B G s hp h.over h.low ps tb h.tx n (by omega);rw[yJF (by omega),atE] at ha1 ha2
 have hxt:=hx.lt;have hbt:=hb.lt;have hX:=hx.f (p:=p);have hBd:=hb.f (p:=p);refine EffW.enter fun Q hQ=>?_
 simp only[gnd,List.nil_append,Nat.add_zero];refine zQV 59 [.tmp 6,.tmp 7,.tmp 8] Tryz.func30 ?_
 repeat' (first|(refine zZF 6 ?_)|refine zQQ 34359758791 ?_|(refine stp ?_;simp only[go_sem])|(refine zWV (id:=3) mixed [(0,[]),(1,[]),(2,[]),(7,[]),(8,[]),(9,[]),(14,[]),(3,[]),(4,[]),(5,[]),(6,[]),(10,[]),(11,[]),(12,[]),(13,[]),(15,[]),(16,[]),(17,[]),(18,[]),(19,[]),(20,[])] (by kernel_rfl) ?_;simp only[go_sem,hX,hBd])|(refine EffW.at (ha1 ) [] rfl (by (simp;done)) ?_;(try simp only[go_sem]))|(refine spl (fun h=>?_) (fun h=>?_)<;>first|omega|try simp only[go_sem,h])|fail)
 refine ⟨?_⟩
 repeat' (first|refine zQQ 34359758791 ?_|(refine stp ?_;simp only[go_sem])|(refine zWV (id:=6) mixed [(0,[]),(1,[]),(2,[]),(7,[]),(8,[]),(9,[]),(14,[]),(3,[]),(4,[]),(5,[]),(6,[]),(10,[]),(11,[]),(12,[]),(13,[]),(15,[]),(16,[]),(17,[]),(18,[]),(19,[]),(20,[])] (by kernel_rfl) ?_;simp only[go_sem,hX,hBd])|(refine EffW.at (ha2 ) [] rfl (by (simp;done)) ?_;(try simp only[go_sem]))|fail)
 (refine zQN hQ [] ?_ ?_ ?_<;>(simp))
theorem ySQ (m n:Nat) (hmn:m≤n) (hn:n≤(tlG (zQP ps) 0).1):EffW G Tryz.prog 13 [.ptr (some ⟨b,0⟩),.int .i64 m,.int .i64 n] t [] (gnd p s B) 0 (.tuple [.str (((zQP ps).drop (itU (zQP ps) m)).take (itU (zQP ps) n - itU (zQP ps) m)),.int .i64 0]) [] (gnd p s B) 0:=by
 have hop:=yQB B G hG s hp ps tb h hx hb;have hpi:=xTY B G s hp ps tb h hx hb m n hmn hn;have hrd:=yFJ B G s hp ps tb h hx (itU (zQP ps) m) (itU (zQP ps) n) (zTP _ hmn) (zGD _ _);have hxt:=hx.lt;have hbt:=hb.lt;have hX:=hx.f (p:=p);have hBd:=hb.f (p:=p);unfold zZY at hop
 refine EffW.enter fun Q hQ=>?_
 simp only[gnd,List.nil_append,Nat.add_zero];refine zQV 41 [.tmp 6,.tmp 7] Tryz.func13 ?_
 repeat' (first|refine zQQ 1074273991 ?_|(refine stp ?_;simp only[go_sem,hBd])|(refine EffW.at (hop ) [] rfl (by first|(simp[zQR hxt,hbt,zQR hbt];done)|fail) ?_;(try simp only[go_sem]))|(refine EffW.at (hpi ) [] rfl (by first|(simp[zQR hxt,hbt,zQR hbt];done)|fail) ?_;(try simp only[go_sem]))|(refine EffW.at (hrd ) [] rfl (by first|(simp[hxt,zQR hxt,zQR hbt];done)|fail) ?_;(try simp only[go_sem]))|fail)
 (refine zQN hQ [] ?_ ?_ ?_<;>(simp))
theorem bAt_c (n:Nat) (hn:n≤(tlG (zQP ps) 0).1):EffW G Tryz.prog 26 [.ptr (some ⟨b,0⟩),.int .i64 n] t [] (gnd p s B) 0 (.tuple [.int .i64 (itU (zQP ps) n),.int .i64 0]) [] (gnd p s B) 0:=by
 have hlen:=h.len;have hcl:=yTG (zQP ps);rw[zQD] at hcl
 have ha2:=cat_c B G s hp h.over h.low ps tb h.tx n (by omega);rw[yJF hn,atE] at ha2
 have hop:=yQB B G hG s hp ps tb h hx hb;have hxt:=hx.lt;have hbt:=hb.lt;have hX:=hx.f (p:=p);have hBd:=hb.f (p:=p);unfold zZY at hop
 refine EffW.enter fun Q hQ=>?_
 simp only[gnd,List.nil_append,Nat.add_zero];refine zQV 34 [.tmp 4,.tmp 5] Tryz.func26 ?_
 repeat' (first|refine zQQ 16563 ?_|(refine stp ?_;simp only[go_sem])|(refine zWV (id:=4) mixed [(0,[]),(1,[]),(2,[]),(7,[]),(8,[]),(9,[]),(14,[]),(3,[]),(4,[]),(5,[]),(6,[]),(10,[]),(11,[]),(12,[]),(13,[]),(15,[]),(16,[]),(17,[]),(18,[]),(19,[])] (by kernel_rfl) ?_;simp only[go_sem,hX,hBd])|(refine EffW.at (hop ) [] rfl (by first|(simp[zQR hxt,hbt,zQR hbt];done)|fail) ?_;(try simp only[go_sem]))|(refine EffW.at (ha2 ) [] rfl (by (simp;done)) ?_;(try simp only[go_sem]))|fail)
 (refine zQN hQ [] ?_ ?_ ?_<;>(simp))
theorem bOf_c (a n:Nat) (ha:a≤(zQP ps).length) (hn:HasU (zQP ps) a n):EffW G Tryz.prog 37 [.ptr (some ⟨b,0⟩),.int .i64 a] t [] (gnd p s B) 0 (.tuple [.int .i64 n,.int .i64 0]) [] (gnd p s B) 0:=by
 have hof:=cof_c B G hG s hp h.over h.low ps tb h.tx a (by rw[← zQD];exact ha);rw[of_same hn] at hof
 have hop:=yQB B G hG s hp ps tb h hx hb;have hxt:=hx.lt;have hbt:=hb.lt;have hX:=hx.f (p:=p);have hBd:=hb.f (p:=p);unfold zZY at hop
 refine EffW.enter fun Q hQ=>?_
 simp only[gnd,List.nil_append,Nat.add_zero];refine zQV 34 [.tmp 4,.tmp 5] Tryz.func37 ?_
 repeat' (first|refine zQQ 16563 ?_|(refine stp ?_;simp only[go_sem])|(refine zWV (id:=4) mixed [(0,[]),(1,[]),(2,[]),(7,[]),(8,[]),(9,[]),(14,[]),(3,[]),(4,[]),(5,[]),(6,[]),(10,[]),(11,[]),(12,[]),(13,[]),(15,[]),(16,[]),(17,[]),(18,[]),(19,[])] (by kernel_rfl) ?_;simp only[go_sem,hX,hBd])|(refine EffW.at (hop ) [] rfl (by first|(simp[zQR hxt,hbt,zQR hbt];done)|fail) ?_;(try simp only[go_sem]))|(refine EffW.at (hof ) [] rfl (by (simp;done)) ?_;(try simp only[go_sem]))|fail)
 (refine zQN hQ [] ?_ ?_ ?_<;>(simp))
omit hb in
theorem bwhole_c:EffW G Tryz.prog 61 [.ptr (some ⟨x,0⟩)] t [] (gnd p s B) 0 (.tuple [.str (zQP ps),.int .i64 0]) [] (gnd p s B) 0:=by
 have hta:=yFK B G hG s hp ps tb h hx;have hrd:=yFJ B G s hp ps tb h hx 0 (zQP ps).length (Nat.zero_le _) (Nat.le_refl _);rw[List.drop_zero,Nat.sub_zero,List.take_of_length_le (Nat.le_refl _),show ((0:Nat):Int)=0 from rfl] at hrd
 have hxt:=hx.lt;have hX:=hx.f (p:=p);unfold zZY at hta
 refine EffW.enter fun Q hQ=>?_
 simp only[gnd,List.nil_append,Nat.add_zero];refine zQV 20 [.tmp 2,.tmp 3] Tryz.func61 ?_
 repeat' (first|refine zQQ 4157 ?_|(refine stp ?_;simp only[go_sem])|(refine EffW.at (hta ) [] rfl (by first|(simp[hxt,zQR hxt];done)|fail) ?_;(try simp only[go_sem]))|(refine EffW.at (hrd ) [] rfl (by first|(simp[hxt,zQR hxt];done)|fail) ?_;(try simp only[go_sem]))|fail)
 (refine zQN hQ [] ?_ ?_ ?_<;>(simp))
end
end
section
theorem OneOK.few2 {p:Gp} {s:Gs} {ps:List Ck} {tb:List TP} (h:OneOK p s ps tb) (hl:zVM ps≤252):s.taken.length≤2:=by
 have h1:=zRX h.ok.nd h.own;have h2:=yZH ps h.tx.fit;have h3:=yTN tb h.tx.chain
 rw[h.tx.cells,List.length_map] at h3
 rw[List.length_append,List.length_map,show (zZN ps).length=ps.length by simp[zZN]] at h1
 omega
def stT (B:List (Nat × EO)) (x r:Nat):List (Nat × EO):=setL B x (zHG r)
section
variable {p:Gp} (B:List (Nat × EO)) {t x r:Nat}
theorem zRG [h:StL p B t] (hr:AtB B t x (zHG r)) (r':Nat):StL p (stT B x r') t where
 bg:=⟨zRB (o:=zHG r') (by simp[EO.bel,zQX,EV.bel];have:=h.big;omega) h.bg.below,zTT h.bg.keys⟩
 big:=h.big
 has i hi:=by
  unfold stT;rw[zWF]
  split
  ·rename_i e;have:=hr.hi;omega
  ·exact h.has i hi
 line i hi:=by
  unfold stT;rw[zWF,if_neg,h.line i hi]
  rintro e
  have h1:=h.line i hi;rw[← e,hr.lk] at h1
  simp at h1
 top:=h.top
theorem yDQ (hr:AtB B t x (zHG r)) (r':Nat):AtB (stT B x r') t x (zHG r'):=⟨hr.hi,hr.lt,by unfold stT;rw[zWF,if_pos rfl,hr.lk];rfl⟩
theorem yFD {j:Nat} {o:EO} (hj:AtB B t j o) (hne:j ≠ x) (r':Nat):AtB (stT B x r') t j o:=⟨hj.hi,hj.lt,by unfold stT;rw[zWF,if_neg (fun e=>hne e.symm)];exact hj.lk⟩
theorem yZK (r' r2:Nat):stT (stT B x r') x r2=stT B x r2:=yWX B
theorem xYY (hr:AtB B t x (zHG r)):stT B x r=B:=yWZ hr.lk
theorem body_ne {b:Nat} (hb:AtB B t b (yVD x)) (hx:AtB B t x (zHG r)):b ≠ x:=fun e=>by
 have:=hb.lk;rw[e,hx.lk] at this
 simp at this
end
theorem long_c (G:List Gl) (a o w:Nat) (ha:a≤1048576) (ho:o≤a) (ho2:o≤4096) (hw:w≤4096) (h:a - o+w≤1048576):E.Pure G Tryz.prog 31 [.int .i64 a,.int .i64 o,.int .i64 w] (.bool false):=by
 refine zXP fun V hV=>?_
 refine zQV 21 [.tmp 6] Tryz.func31 ?_
 repeat' (first|refine zQQ 71 ?_|(refine stp ?_;simp only[go_sem])|(simp (disch:=omega) only[zQK])|(refine spl (fun h=>?_) (fun h=>?_)<;>first|omega|((try simp only[zZQ]);(try simp only[go_sem,h])))|fail)
 rw[decide_eq_false (by omega)]
 (refine zQH (by simp[EV.bel]) ?_;rw[hV])
section
variable {p:Gp} (B:List (Nat × EO)) {t:Nat}
theorem brep_c (G:List Gl) (s:Gs) [Big t] [hS0:StL p B t] (hp:p.ok) (ps:List Ck) (tb:List TP) (h1:OneOK p s ps tb) {x:Nat} (hx:AtB B t x (zHG (zWQ tb))) (X o w Y:List UInt8) (hT:zQP ps=X++o++Y) (hw:X.length+w.length+Y.length≤4000) (hroom:60≤p.n∧w.length≤800∨8≤p.n∧X.length+Y.length≤252∧w.length≤252) :
  EffR G Tryz.prog 33 [.ptr (some ⟨x,0⟩),.agg [.int .i64 X.length,.str o,.str w]] (gnd p s B) t (fun v bl nx=>v=.int .i64 0∧nx=t∧∃ s' ps' tb',bl=gnd p s' (stT B x (zWQ tb'))∧zQP ps'=X++w++Y∧OneOK p s' ps' tb'):=by
 have hxt:=hx.lt;have hX:=hx.f (p:=p);have hxh:=hx.hi;have hat0:=hp.at0;have hbig:=hp.big;have hlen:=h1.len;have hfl:=zQD ps;rw[hT,List.length_append,List.length_append] at hfl
 refine EffR.enter fun Q hQ=>?_
 refine zQV 72 [.tmp 4] Tryz.func33 ?_
 by_cases how:o=w
 ·subst how
  repeat' (first|refine zQQ 73787258319570870779 ?_|(refine stp ?_;simp only[go_sem])|fail)
  refine zKY hQ (B':=gnd p s B) (by omega) (by simp[EV.bel]) ⟨rfl,rfl,s,ps,tb,by rw[xYY B hx],hT,h1⟩
 ·have hnw:(o=w)=False:=eq_false how
  rcases Nat.eq_zero_or_pos o.length with ho | ho
  ·obtain rfl:o=[]:=List.eq_nil_of_length_eq_zero ho;have hw0:0<w.length:=List.length_pos_iff.2 fun e=>how e.symm
   rw[List.append_nil] at hT
   have hf1:zVM ps=X.length+Y.length:=by simp only[List.length_nil] at hfl;omega
   have hfew:=h1.few;have hfew2:=h1.few2;have hI:=yHH B G s hp (h1).over (h1).ok (h1).low ps tb (h1).tx X.length w (by rw[hf1];omega) (by rw[hf1];omega)
   repeat' (first|refine zQQ 73787258319570870779 ?_|(refine stp ?_;simp only[go_sem,hnw])|(refine zWV (id:=9) mixed [(0,[]),(1,[]),(2,[]),(4,[]),(5,[]),(6,[]),(8,[]),(10,[]),(3,[]),(7,[]),(9,[]),(11,[]),(12,[]),(13,[]),(14,[]),(15,[]),(16,[]),(17,[])] (by kernel_rfl) ?_;simp only[go_sem,hX])|(refine EffR.atW hI ?_ ?_ ?_)|(simp only[go_sem])|(refine spl (fun h=>?_) (fun h=>?_)<;>first|omega|try simp only[go_sem,h])|fail)
   ·simp[zQX,EV.bel]
   ·rintro v B' n ⟨s',rfl,rfl,hq,-⟩
    exact ⟨rfl,by rcases hq with ⟨_,_,rfl,-⟩ | ⟨rfl,-⟩<;>simp[EV.bel,zQX],inferInstance⟩
   ·rintro v B' ⟨s2,rfl,hq,-⟩ - hB2
    haveI:=hB2
    rcases hq with ⟨ps2,tb2,rfl,hE2⟩ | ⟨-,hq⟩
    ·rw[hT,List.take_left' rfl,List.drop_left' rfl] at hE2
     have h3:=hE2.one h1 (by omega) (by simp only[List.length_append];omega);have hf2:=hE2.flat
     repeat' (first|refine zQQ 73787258319570870779 ?_|(refine stp ?_;simp only[go_sem,hX,zYF _ hxh])|fail)
     rw[show setL B x (.cells [.ptr (some ⟨0,0⟩),.int .u32 (zWQ tb2)] 85 0 true 0)=stT B x (zWQ tb2) from rfl];haveI:=zRG (p:=p) B hx (zWQ tb2);refine zKY hQ (B':=gnd p s2 (stT B x (zWQ tb2))) (by omega) (by simp[EV.bel]) ⟨rfl,rfl,s2,ps2,tb2,rfl,hf2,h3⟩
    ·exfalso;omega
  ·have hD:=cdeleteD_c B G s hp h1.over h1.ok h1.low ps tb h1.tx X.length (X.length+o.length) (by omega) (by omega)
   repeat' (first|refine zQQ 73787258319570870779 ?_|(refine stp ?_;simp only[go_sem,hnw])|(refine zWV (id:=4) mixed [(0,[]),(1,[]),(2,[]),(4,[]),(5,[]),(6,[]),(8,[]),(10,[]),(12,[]),(3,[]),(7,[]),(9,[]),(11,[]),(13,[]),(14,[]),(15,[]),(16,[]),(17,[]),(18,[]),(19,[]),(20,[]),(21,[])] (by kernel_rfl) ?_;simp only[go_sem,hX,← Int.natCast_add])|(refine EffR.atW hD ?_ ?_ ?_)|(simp only[go_sem])|(simp (disch:=omega) only[zQK])|(refine spl (fun h=>?_) (fun h=>?_)<;>first|omega|try simp only[go_sem,h])|fail)
   ·simp[zQX,EV.bel]
   ·rintro v B' n ⟨s',rfl,rfl,ps',tb',rfl,-⟩
    exact ⟨rfl,by simp[EV.bel,zQX],inferInstance⟩
   ·rintro v B' ⟨s1,rfl,ps1,tb1,rfl,hE1⟩ - hB1
    haveI:=hB1;have hX1:(X++o++Y).take X.length=X:=by rw[List.append_assoc,List.take_left' rfl]
    have hX2:(X++o++Y).drop (X.length+o.length)=Y:=by rw[List.drop_left' (by rw[List.length_append])]
    rw[hT,hX1,hX2] at hE1
    have h2:=hE1.one h1 (by omega) (by rw[List.length_append];omega);have hf:=hE1.flat
    have hf1:zVM ps1=X.length+Y.length:=by rw[← zQD,hf,List.length_append]
    have hfew:=h2.few;have hfew2:=h2.few2;haveI hS1:=zRG (p:=p) B hx (zWQ tb1);have hx1:=yDQ B hx (zWQ tb1);have hXX:=hx1.f (p:=p);have hxx2:∀ r',stT (stT B x (zWQ tb1)) x r'=stT B x r':=fun r'=>yZK B _ r'
    rcases Nat.eq_zero_or_pos w.length with hw0 | hw0
    ·obtain rfl:w=[]:=List.eq_nil_of_length_eq_zero hw0
     repeat' (first|refine zQQ 73787258319570870779 ?_|(refine stp ?_;simp only[go_sem,hX,zYF _ hxh])|fail)
     rw[show setL B x (.cells [.ptr (some ⟨0,0⟩),.int .u32 (zWQ tb1)] 85 0 true 0)=stT B x (zWQ tb1) from rfl];refine zKY hQ (B':=gnd p s1 (stT B x (zWQ tb1))) (by omega) (by simp[EV.bel]) ⟨rfl,rfl,s1,ps1,tb1,rfl,by rw[hf,List.append_nil],h2⟩
    ·repeat' (first|(refine zZF 8 ?_)|refine zQQ 73787258319570870779 ?_|(refine stp ?_;simp only[go_sem,hX,zYF _ hxh])|fail)
     refine ⟨?_⟩;rw[show setL B x (.cells [.ptr (some ⟨0,0⟩),.int .u32 (zWQ tb1)] 85 0 true 0)=stT B x (zWQ tb1) from rfl];have hI:=yHH (stT B x (zWQ tb1)) G s1 hp (h2).over (h2).ok (h2).low ps1 tb1 (h2).tx X.length w (by rw[hf1];omega) (by rw[hf1];omega)
     repeat' (first|refine zQQ 73787258319570870779 ?_|(refine stp ?_;simp only[go_sem])|(refine zWV (id:=9) mixed [(0,[]),(1,[]),(2,[]),(4,[]),(5,[]),(6,[]),(8,[]),(10,[]),(3,[]),(7,[]),(9,[]),(11,[]),(12,[]),(13,[]),(14,[]),(15,[]),(16,[]),(17,[])] (by kernel_rfl) ?_;simp only[go_sem,hXX])|(refine EffR.atW hI ?_ ?_ ?_)|(simp only[go_sem])|(refine spl (fun h=>?_) (fun h=>?_)<;>first|omega|try simp only[go_sem,h])|fail)
     ·simp[zQX,EV.bel]
     ·rintro v B' n ⟨s',rfl,rfl,hq,-⟩
      exact ⟨rfl,by rcases hq with ⟨_,_,rfl,-⟩ | ⟨rfl,-⟩<;>simp[EV.bel,zQX],inferInstance⟩
     ·rintro v B' ⟨s2,rfl,hq,-⟩ - hB2
      haveI:=hB2
      rcases hq with ⟨ps2,tb2,rfl,hE2⟩ | ⟨-,hq⟩
      ·rw[hf,List.take_left' rfl,List.drop_left' rfl] at hE2
       have h3:=hE2.one h2 (by omega) (by simp only[List.length_append];omega);have hf2:=hE2.flat
       repeat' (first|refine zQQ 73787258319570870779 ?_|(refine stp ?_;simp only[go_sem,hXX,zYF _ hxh])|fail)
       rw[show setL (stT B x (zWQ tb1)) x (.cells [.ptr (some ⟨0,0⟩),.int .u32 (zWQ tb2)] 85 0 true 0)=stT B x (zWQ tb2) from hxx2 _];haveI:=zRG (p:=p) B hx (zWQ tb2);refine zKY hQ (B':=gnd p s2 (stT B x (zWQ tb2))) (by omega) (by simp[EV.bel]) ⟨rfl,rfl,s2,ps2,tb2,rfl,hf2,h3⟩
      ·exfalso;omega
end
end
section
section
variable {p:Gp} (B:List (Nat × EO)) {t:Nat}
theorem bOpen_c (G:List Gl) (hG:Tabs G) (s:Gs) [Big t] [hS0:StL p B t] (hp:p.ok) (ps:List Ck) (tb:List TP) (h1:OneOK p s ps tb) :
  EffR G Tryz.prog 6 [.ptr (some ⟨0,0⟩),.int .u32 (zWQ tb)] (gnd p s B) t (fun v bl nx=>∃ B' x b,v=.tuple [.ptr (some ⟨b,0⟩),.int .i64 0]∧bl=gnd p s B'∧StL p B' nx∧Ext B t B' nx∧AtB B' nx x (zHG (zWQ tb))∧AtB B' nx b (yVD x)):=by
 have hT11:11≤t:=hS0.big;refine EffR.enter fun Q hQ=>?_
 refine zQV 27 [.tmp 4,.tmp 5] Tryz.func6 ?_
 repeat' (first|refine zQQ 16777587 ?_|(refine stp ?_;simp only[go_sem])|fail)
 have hab:=StL.above (p:=p) (B:=B) (t:=t) (t':=t+2) (X:=[(t+1,yVD t),(t,zHG (zWQ tb))]) (by omega) (by simp[zXT]) (by simp[zWN,lkp]) (by simp);simp only[List.cons_append,List.nil_append] at hab
 have e:stB (zXG p s) ((t+1,yVD t)::(t,zHG (zWQ tb))::B)=(t+1,yVD t)::(t,zHG (zWQ tb))::stB (zXG p s) B:=by rw[zXK,if_neg (by omega),zXK,if_neg (by omega)]
 obtain ⟨T1,hT1⟩:∃ T,T=t+2:=⟨_,rfl⟩;rw[← hT1] at hab
 rw[← e,← hT1];have hx:AtB ((t+1,yVD t)::(t,zHG (zWQ tb))::B) T1 t (zHG (zWQ tb)):=⟨by omega,by omega,by simp[lkp]⟩;have hb:AtB ((t+1,yVD t)::(t,zHG (zWQ tb))::B) T1 (t+1) (yVD t):=⟨by omega,by omega,by simp[lkp]⟩;generalize (t+1,yVD t)::(t,zHG (zWQ tb))::B=B0 at hab hx hb ⊢
 obtain ⟨hS,he⟩:=hab;haveI:=hS;haveI:Big T1:=⟨hS.big⟩;have hta:=yFK (p:=p) B0 G hG s hp ps tb h1 hx;have hxt:=hx.lt;have hbt:=hb.lt;have hX:=hx.f (p:=p);have hBd:=hb.f (p:=p);unfold zZY at hta
 repeat' (first|refine zQQ 16777587 ?_|(refine stp ?_;simp only[go_sem])|(refine EffW.at (hta ) [] rfl (by first|(simp[hxt,zQR hxt,zQR hbt];done)|fail) ?_;(try simp only[go_sem]))|fail)
 have hab2:=StL.above (p:=p) (B:=B0) (t:=T1) (t':=T1+1) (X:=[(T1,.cells (zVX (zQP ps)) 81 0 true 0)]) (by omega) (by simp[zXT]) (by simp[zWN,lkp]) (by simp);simp only[List.cons_append,List.nil_append,zVX] at hab2
 rw[← yBR];obtain ⟨hS2,he2⟩:=hab2;haveI:=hS2;haveI:Big (T1+1):=⟨hS2.big⟩;exact zWX hQ (by omega) (Bg.below (t:=T1+1)) (by simp[EV.bel,zQX];omega) ⟨_,t,t+1,rfl,rfl,hS2,he.trans he2,hx.mono he2,hb.mono he2⟩
variable (G:List Gl) (hG:Tabs G) (s:Gs) [Big t] [hS0:StL p B t] (hp:p.ok) (ps:List Ck) (tb:List TP) (h1:OneOK p s ps tb) {x b:Nat} (hx:AtB B t x (zHG (zWQ tb))) (hb:AtB B t b (yVD x))
include hG hp h1 hx hb
theorem bEdit_c (m n:Nat) (hmn:m≤n) (hn:n≤(tlG (zQP ps) 0).1) (w:List UInt8) (hd:itU (zQP ps) n - itU (zQP ps) m≤4096) (hw:(zQP ps).length - (itU (zQP ps) n - itU (zQP ps) m)+w.length≤4000) (hroom:60≤p.n∧w.length≤800∨8≤p.n∧(zQP ps).length≤252∧w.length≤252) :
  EffR G Tryz.prog 11 [.ptr (some ⟨b,0⟩),.int .i64 m,.int .i64 n,.str w] (gnd p s B) t (fun v bl nx=>v=.tuple [.agg [.int .i64 (itU (zQP ps) m),.str (((zQP ps).drop (itU (zQP ps) m)).take (itU (zQP ps) n - itU (zQP ps) m)),.str w],.int .i64 0]∧nx=t∧∃ s' ps' tb',bl=gnd p s' (stT B x (zWQ tb'))∧zQP ps'=(zQP ps).take (itU (zQP ps) m)++w++(zQP ps).drop (itU (zQP ps) n)∧OneOK p s' ps' tb'):=by
 have hxt:=hx.lt;have hbt:=hb.lt;have hX:=hx.f (p:=p);have hBd:=hb.f (p:=p);have hlen:=h1.len;have hfl:=zQD ps;have hop:=yQB B G hG s hp ps tb h1 hx hb;have hpi:=xTY B G s hp ps tb h1 hx hb m n hmn hn;have hij:=zTP (zQP ps) hmn;have hj:=zGD (zQP ps) n;have hrd:=yFJ B G s hp ps tb h1 hx (itU (zQP ps) m) (itU (zQP ps) n) hij hj;generalize itU (zQP ps) m=i at *
 generalize itU (zQP ps) n=j at *
 have hlo:=long_c G (zQP ps).length (j - i) w.length (by omega) (by omega) (by omega) (by omega) (by omega);rw[show ((j - i:Nat):Int)=(j:Int) - (i:Int) by omega] at hlo
 have hto:(zQP ps).take i++((zQP ps).drop i).take (j - i)++(zQP ps).drop j=zQP ps:=by
  conv=>rhs;rw[← List.take_append_drop i (zQP ps),← List.take_append_drop (j - i) ((zQP ps).drop i)]
  rw[List.drop_drop,List.append_assoc,show i+(j - i)=j by omega]
 have hl1:((zQP ps).take i).length=i:=by rw[List.length_take];omega
 have hl2:((zQP ps).drop j).length=(zQP ps).length - j:=List.length_drop ..;have hrp:=brep_c (p:=p) B G s hp ps tb h1 hx ((zQP ps).take i) (((zQP ps).drop i).take (j - i)) w ((zQP ps).drop j) hto.symm (by omega) (by omega);rw[hl1] at hrp
 unfold zZY at hop
 refine EffR.enter fun Q hQ=>?_
 refine zQV 76 [.cell 8 48,.tmp 9] Tryz.func11 ?_
 repeat' (first|refine zQQ 4722654748464537272079 ?_|(refine stp ?_;simp only[go_sem,hBd])|(refine zWV (id:=13) mixed [(0,[]),(1,[]),(2,[]),(3,[]),(4,[]),(5,[]),(6,[])] (by kernel_rfl) ?_;simp only[go_sem,hBd])|(refine EffW.at (hop ) [] rfl (by first|(simp[zQR hxt,hbt,zQR hbt];done)|fail) ?_;(try simp only[go_sem]))|(refine EffW.at (hpi ) [] rfl (by first|(simp[zQR hxt,hbt,zQR hbt];done)|fail) ?_;(try simp only[go_sem]))|(refine Pure.at (hlo) (by simp) (by simp) rfl ?_;(try simp only[go_sem]))|(refine EffW.at (hrd ) [] rfl (by first|(simp[hxt,zQR hxt,zQR hbt];done)|fail) ?_;(try simp only[go_sem]))|(refine EffR.atW hrp ?_ ?_ ?_)|(simp only[go_sem])|(simp (disch:=omega) only[zQK])|fail)
 ·simp[zQX,EV.bel,hxt]
 ·rintro v B' n ⟨rfl,rfl,s',ps',tb',rfl,-⟩
  haveI:=zRG (p:=p) B hx (zWQ tb');exact ⟨rfl,by simp[EV.bel],inferInstance⟩
 ·rintro v B' ⟨rfl,s',ps',tb',rfl,hf,hO⟩ - hB1
  haveI:=hB1
  repeat' (first|refine zQQ 4722654748464537272079 ?_|(refine stp ?_;simp only[go_sem])|fail)
  exact zKY hQ (B':=gnd p s' (stT B x (zWQ tb'))) (by omega) (by simp[EV.bel,zQX]) ⟨rfl,rfl,s',ps',tb',rfl,hf,hO⟩
theorem xTR (X o w Y:List UInt8) (hT:zQP ps=X++o++Y) (ho:o.length≤4000) (hw:X.length+w.length+Y.length≤4000) (hroom:60≤p.n∧w.length≤800∨8≤p.n∧X.length+Y.length≤252∧w.length≤252) :
  EffR G Tryz.prog 12 [.ptr (some ⟨b,0⟩),.agg [.int .i64 X.length,.str o,.str w]] (gnd p s B) t (fun v bl nx=>v=.int .i64 0∧nx=t∧∃ s' ps' tb',bl=gnd p s' (stT B x (zWQ tb'))∧zQP ps'=X++w++Y∧OneOK p s' ps' tb'):=by
 have hxt:=hx.lt;have hbt:=hb.lt;have hX:=hx.f (p:=p);have hBd:=hb.f (p:=p);have hlen:=h1.len;have hfl:=zQD ps;have hop:=yQB B G hG s hp ps tb h1 hx hb;have hll:(zQP ps).length=X.length+o.length+Y.length:=by rw[hT];simp;omega
 have hrd:=yFJ B G s hp ps tb h1 hx X.length (X.length+o.length) (by omega) (by omega);have e1:((zQP ps).drop X.length).take (X.length+o.length - X.length)=o:=by
  rw[hT,List.append_assoc,List.drop_left' rfl,Nat.add_sub_cancel_left,List.take_left' rfl]
 rw[e1] at hrd
 have hlo:=long_c G (zQP ps).length o.length w.length (by omega) (by omega) (by omega) (by omega) (by omega);have hrp:=brep_c (p:=p) B G s hp ps tb h1 hx X o w Y hT hw hroom;unfold zZY at hop
 refine EffR.enter fun Q hQ=>?_
 refine zQV 75 [.tmp 4] Tryz.func12 ?_
 repeat' (first|refine zQQ 295742380398885224699 ?_|(refine stp ?_;simp only[go_sem])|(refine zWV (id:=6) mixed [(0,[]),(1,[]),(2,[]),(4,[]),(6,[]),(8,[]),(3,[]),(5,[]),(7,[]),(9,[]),(10,[]),(11,[]),(12,[]),(13,[]),(14,[]),(15,[]),(16,[]),(17,[])] (by kernel_rfl) ?_;simp only[go_sem,hBd,← Int.natCast_add])|(refine zWV (id:=13) mixed [(0,[]),(1,[]),(2,[]),(3,[]),(4,[]),(5,[]),(6,[])] (by kernel_rfl) ?_;simp only[go_sem,hBd])|(refine EffW.at (hop ) [] rfl (by first|(simp[zQR hxt,hbt,zQR hbt];done)|fail) ?_;(try simp only[go_sem]))|(refine Pure.at (hlo) (by simp) (by simp) rfl ?_;(try simp only[go_sem]))|(refine EffW.at (hrd ) [] rfl (by first|(simp[hxt,zQR hxt,zQR hbt];done)|fail) ?_;(try simp only[go_sem]))|(refine EffR.atW hrp ?_ ?_ ?_)|(simp only[go_sem])|(simp (disch:=omega) only[zQK])|(refine spl (fun h=>?_) (fun h=>?_)<;>first|omega|((try simp only[zZQ]);(try simp only[go_sem,h])))|fail)
 ·simp[zQX,EV.bel,hxt]
 ·rintro v B' n ⟨rfl,rfl,s',ps',tb',rfl,-⟩
  haveI:=zRG (p:=p) B hx (zWQ tb');exact ⟨rfl,by simp[EV.bel],inferInstance⟩
 ·rintro v B' ⟨rfl,s',ps',tb',rfl,hf,hO⟩ - hB1
  haveI:=hB1
  repeat' (first|(refine stp ?_;simp only[go_sem])|fail)
  exact zKY hQ (B':=gnd p s' (stT B x (zWQ tb'))) (by omega) (by simp[EV.bel]) ⟨rfl,rfl,s',ps',tb',rfl,hf,hO⟩
end
end
end Go.Proofs.YtncphnpndkjkaaaGreatDoor
