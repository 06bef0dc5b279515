/-
  Own work: a part of the proof that the last text closes.
-/
import Derived.Test.YtncphnpndkjkaaaGreatDoorHub
import Derived.Test.YtncphnpndkjkaaaGreatDoorHud
namespace Go.Proofs.YtncphnpndkjkaaaGreatDoor
open Go.E
set_option linter.all false
set_option maxRecDepth 100000
set_option maxHeartbeats 16000000
theorem eqS_fnNil {P:Program} {t:TypeId} {a b c} (hu:P.underlying t=some (.func a b c)) (f:Fn) (xs ys:List EV):EqS P .eql t (.fn f xs ys) .nilFn false:=by
 intro ρ x' y' ox oy w hx hy;simp only[VR] at hx hy
 obtain ⟨as',bs',rfl,-,-⟩:=hx;subst hy;have he':∀ n,(Op.equalIn (n+1) t (.func f as' bs') .nilFunc).run P w=.ok false w:=by
  intro n;simp only[Op.equalIn,Sem.run_bind,run_underlying hu,Result.andThen_ok];simp
 have he:(Op.equal t (.func f as' bs') .nilFunc).run P w=.ok false w:=he' 9999;simp[eqGuard,binOp,he]
theorem back_dec {s:List UInt8} {j:Nat} (hj:j<(tlG s 0).1):zZX ((s.take (itU s (j+1))).drop (itU s j))=zZX (s.drop (itU s j)):=by
 have hl:=(zKV s).1 j hj;have hlt:=yRZ hl;have hle:=zGD s (j+1);have htl:(s.take (itU s (j+1))).length=itU s (j+1):=by rw[List.length_take];omega
 have hst:=zZB hl;have e:=yMH (a:=s.take (itU s (j+1))) (b:=s.drop (itU s (j+1))) (pos:=itU s j) (by omega) (by rw[List.take_append_drop,htl];omega);rw[List.take_append_drop] at e
 exact e.symm
theorem uAll_c (G:List Gl) (s:List UInt8):Eff G Tryz.prog 90 [.str s] [] 0 (.fn (.func 126) [] [.ptr (some ⟨0,0⟩)]) [(0,.cells [.str s] 9 0 true 0)] 1:=by
 unfold Eff;refine zQV 4 [.tmp 2] Tryz.func90 ?_
 repeat' (first|refine zQQ 7 ?_|(refine stp ?_;simp only[go_sem])|fail)
 exact zWW [0] (by simp) (by simp) (by simp) (by simp) (by simp) (by simp) rfl (by simp) (by simp)
theorem uBack_c (G:List Gl) (s:List UInt8):Eff G Tryz.prog 92 [.str s] [] 0 (.fn (.func 127) [] [.ptr (some ⟨0,0⟩)]) [(0,.cells [.str s] 9 0 true 0)] 1:=by
 unfold Eff;refine zQV 4 [.tmp 2] Tryz.func92 ?_
 repeat' (first|refine zQQ 7 ?_|(refine stp ?_;simp only[go_sem])|fail)
 exact zWW [0] (by simp) (by simp) (by simp) (by simp) (by simp) (by simp) rfl (by simp) (by simp)
section
variable {p:Gp} (B:List (Nat × EO)) {t:Nat}
theorem bRunes_c (G:List Gl) (s:Gs) [Big t] [hS0:StL p B t] (b:Nat) (hbt:b<t) (n:Nat) :
  EffW G Tryz.prog 65 [.ptr (some ⟨b,0⟩),.int .i64 n] t [] (gnd p s B) 0 (.fn (.func 89) [] [.ptr (some ⟨t,0⟩),.ptr (some ⟨t+1,0⟩)]) [(t+1,.cells [.int .i64 n] 3 0 true 0),(t,.cells [.ptr (some ⟨b,0⟩)] 27 0 true 0)] (gnd p s B) 2:=by
 have hbk:∀ k,b<t+k:=fun k=>by omega
 refine EffW.enter fun Q hQ=>?_
 simp only[gnd,List.nil_append,Nat.add_zero];refine zQV 6 [.tmp 4] Tryz.func65 ?_
 repeat' (first|refine zQQ 31 ?_|(refine stp ?_;simp only[go_sem])|fail)
 refine zQN hQ [t,t+1] ?_ ?_ ?_<;>(simp[hbt,hbk])
theorem bBack_c (G:List Gl) (s:Gs) [Big t] [hS0:StL p B t] (b:Nat) (hbt:b<t) (n:Nat) :
  EffW G Tryz.prog 66 [.ptr (some ⟨b,0⟩),.int .i64 n] t [] (gnd p s B) 0 (.fn (.func 91) [] [.ptr (some ⟨t,0⟩),.ptr (some ⟨t+1,0⟩)]) [(t+1,.cells [.int .i64 n] 3 0 true 0),(t,.cells [.ptr (some ⟨b,0⟩)] 27 0 true 0)] (gnd p s B) 2:=by
 have hbk:∀ k,b<t+k:=fun k=>by omega
 refine EffW.enter fun Q hQ=>?_
 simp only[gnd,List.nil_append,Nat.add_zero];refine zQV 6 [.tmp 4] Tryz.func66 ?_
 repeat' (first|refine zQQ 31 ?_|(refine stp ?_;simp only[go_sem])|fail)
 refine zQN hQ [t,t+1] ?_ ?_ ?_<;>(simp[hbt,hbk])
variable (G:List Gl) (hG:Tabs G) (s:Gs) [Big t] [hS0:StL p B t] (hp:p.ok) (ps:List Ck) (tb:List TP) (h1:OneOK p s ps tb) {x b:Nat} (hx:AtB B t x (zHG (zWQ tb))) (hb:AtB B t b (yVD x))
include hG hp h1 hx hb
theorem lrunes_c:EffW G Tryz.prog 39 [.ptr (some ⟨b,0⟩),.str (zQP ps)] t [] (gnd p s B) 0 (.bool true) [] (gnd p s B) 0:=by
 have hxt:=hx.lt;have hbt:=hb.lt;have hX:=hx.f (p:=p);have hBd:=hb.f (p:=p);have hlen:=h1.len;have hfl:=zQD ps;have hop:=yQB B G hG s hp ps tb h1 hx hb;have htx:=ySQ B G hG s hp ps tb h1 hx hb 0 (tlG (zQP ps) 0).1 (Nat.zero_le _) (Nat.le_refl _);have hcnt:=(zKV (zQP ps)).2;rw[show itU (zQP ps) 0=0 from rfl,hcnt,List.drop_zero,Nat.sub_zero,List.take_of_length_le (Nat.le_refl _),show ((0:Nat):Int)=0 from rfl] at htx
 have hru:=runes_c G (zQP ps) (by omega);have hbr:=bRunes_c (p:=p) B G s b hbt 0;have hbb:=bBack_c (p:=p) B G s b hbt (tlG (zQP ps) 0).1;rw[show ((0:Nat):Int)=0 from rfl] at hbr
 have hrb:∀ n k,zQX k (rnC (zQP ps) n)=True:=fun n k=>eq_true (yYM _ n k)
 have hrr:=rnC_ren (zQP ps);have hund:=Tryz.underlying163;unfold zZY at hop
 refine EffW.enter fun Q hQ=>?_
 simp only[gnd,List.nil_append,Nat.add_zero];refine zQV 75 [.cell 4 4] Tryz.func39 ?_
 repeat' (first|refine zQQ 4722434107233806589939 ?_|refine zQW ?_|(refine stp ?_;simp only[go_sem])|(refine zWV (id:=2) mixed [(0,[]),(2,[]),(3,[]),(4,[]),(1,[3,4]),(5,[]),(6,[]),(7,[])] (by kernel_rfl) ?_;simp only[go_sem])|(refine Eff.atR (hru ) rfl [] rfl (by first|(simp[hrb];done)|fail) rfl ?_;(try simp only[go_sem,hrr]))|(refine EffW.at (hbr ) [] rfl (by simp[hbt,zQR hbt];omega) ?_;(try simp only[go_sem,zQR hbt]))|(refine EffW.at (hbb ) [] rfl (by simp[hbt,zQR hbt];omega) ?_;(try simp only[go_sem,zQR hbt]))|(refine ⟨eqS_fnNil hund _ _ _,?_⟩)|fail)
 refine zJQ [(4,.ptr (some ⟨t,0⟩)),(5,.ptr (some ⟨t+2,0⟩)),(8,.ptr (some ⟨t+15,0⟩))] 89 [] [.ptr (some ⟨t+11,0⟩),.ptr (some ⟨t+12,0⟩)] (by simp only[go_sem]) Tryz.func89 rfl rfl (by simp only[go_sem,zQS]) ?_;intro cd hcd D;simp only[go_sem,List.nil_append,List.cons_append];obtain ⟨tl,htm⟩:∃ l,l=tlM 75 [(4,.ptr (some ⟨t,0⟩)),(5,.ptr (some ⟨t+2,0⟩)),(8,.ptr (some ⟨t+15,0⟩))]:=⟨_,rfl⟩;have htlb:zQX (t+16) tl:=by rw[htm];exact zDH (by simp[zWP])
 have htlk:∀ k,16≤k→zQX (t+k) tl=True:=fun k hk=>eq_true (zQJ (by omega) _ htlb)
 have htlr:∀ q,zZG (nam (t+25) q) tl=tl:=fun q=>zWB (k:=t+16) (i:=9) htlb
 rw[← htm];have hmx:max (0:Int) 0=0:=rfl;have hc4:(tlG (zQP ps) 0).1≤4000:=by have:=yTG (zQP ps);omega
 have hbk:∀ j,b<t+j:=fun j=>by omega
 have hbn:∀ j,(t+j≤b)=False:=fun j=>eq_false (by omega)
 refine zQV 47 [] Tryz.func89 ?_
 by_cases hz:(tlG (zQP ps) 0).1=0
 ·have f0:(((tlG (zQP ps) 0).1:Int)≤0)=True:=eq_true (by omega)
  repeat' (first|refine zQQ 18571455365887 ?_|(refine stp ?_;simp only[go_sem,f0,hmx])|(refine EffW.at (hop ) [] rfl (by first|(simp[hbt,zQR hbt];done)|fail) ?_;(try simp only[go_sem]))|fail)
  refine zZZ ?_ ?_ ?_ ⟨.ready,none,?_,by simp,?_⟩
  ·simp[htlk,hrb,hbk]
  ·simp only[];omega
  ·simp[EV.bel,zQX]
  ·simp only[go_sem]
  ·simp only[zGG,go_sem];have f1:(((tlG (zQP ps) 0).1:Int)=0):=by omega
   repeat' (first|refine zQQ 4722434107233806589939 ?_|refine zQW ?_|(refine stp ?_;simp only[go_sem,f1])|fail)
   refine zJQ [(4,.ptr (some ⟨t,0⟩)),(5,.ptr (some ⟨t+2,0⟩)),(8,.ptr (some ⟨t+15,0⟩))] 91 [] [.ptr (some ⟨t+13,0⟩),.ptr (some ⟨t+14,0⟩)] (by simp only[go_sem]) Tryz.func91 rfl rfl (by simp only[go_sem,zQS]) ?_;intro cd3 hcd3 D3;simp only[go_sem,List.nil_append,List.cons_append];rw[← htm];have hmn:min (0:Int) 0=0:=rfl;refine zQV 44 [] Tryz.func91 ?_
   repeat' (first|refine zQQ 8920663851775 ?_|(refine stp ?_;simp only[go_sem,hmn])|(refine EffW.at (hop ) [] rfl (by first|(simp[hbt,zQR hbt];done)|fail) ?_;(try simp only[go_sem,f1]))|fail)
   refine zZZ ?_ ?_ ?_ ⟨.ready,none,?_,by simp,?_⟩
   ·simp[htlk,hrb,hbk]
   ·simp only[];omega
   ·simp[EV.bel,zQX]
   ·simp only[go_sem]
   ·simp only[zGG,go_sem]
    repeat' (first|refine zQQ 4722434107233806589939 ?_|(refine stp ?_;simp only[go_sem])|fail)
    refine ⟨t+20,D3,rfl,by simp only[go_sem],?_⟩;simp only[go_sem];refine ⟨t+16,D,rfl,by simp only[go_sem],?_⟩;simp only[go_sem]
    (refine zQN hQ [] ?_ ?_ ?_<;>(simp))
 ·have f0:(((tlG (zQP ps) 0).1:Int)≤0)=False:=eq_false (by omega);have hua:=uAll_c G (zQP ps)
  repeat' (first|refine zQQ 18571455365887 ?_|refine zQW ?_|(refine stp ?_;simp only[go_sem,f0,hmx])|(refine EffW.at (hop ) [] rfl (by first|(simp[hbt,zQR hbt];done)|fail) ?_;(try simp only[go_sem]))|(refine EffW.at (htx ) [] rfl (by first|(simp[hbt,zQR hbt];done)|fail) ?_;(try simp only[go_sem]))|(refine Eff.atR (hua ) rfl [] rfl (by first|(simp;done)|fail) rfl ?_;(try simp only[go_sem]))|fail)
  refine zJQ [(3,.ptr (some ⟨t+18,0⟩)),(7,.ptr (some ⟨t+20,0⟩))] 126 [] [.ptr (some ⟨t+21,0⟩)] (by simp only[go_sem]) Tryz.func126 rfl rfl (by simp only[go_sem,zQS]) ?_;intro cd2 hcd2 D2;simp only[go_sem,List.nil_append,List.cons_append];obtain ⟨tl2,htm2⟩:∃ l,l=tlM 47 [(3,.ptr (some ⟨t+18,0⟩)),(7,.ptr (some ⟨t+20,0⟩))]:=⟨_,rfl⟩;have htlb2:zQX (t+21) tl2:=by rw[htm2];exact zDH (by simp[zWP])
  have htlk2:∀ k,21≤k→zQX (t+k) tl2=True:=fun k hk=>eq_true (zQJ (by omega) _ htlb2)
  have htlr2:∀ q,zZG (nam (t+25) q) tl2=tl2:=fun q=>zWB (k:=t+21) (i:=4) htlb2
  rw[← htm2];refine zQV 16 [] Tryz.func126 ?_
  repeat' (first|refine zQQ 33243 ?_|refine zQW ?_|(refine stp ?_;simp only[go_sem])|(refine zKT ?_;simp only[go_sem])|fail)
  refine zQM (fun k:Nat=>[(0,.fn (.yield (D2+1)) [] []),(1,.ptr (some ⟨t+21,0⟩)),(6,.ptr (some ⟨t+24,0⟩))]) (fun k:Nat=>(t+24,.sIter (zQP ps) (itU (zQP ps) k))::(t+23,.rng (D2+1) tl2 .ready none cd2)::(t+22,.raw D2 (.deferred (some [])))::(t+21,.cells [.str (zQP ps)] 9 0 true 0)::(t+20,.cells [.int .i64 k] 3 0 true 0)::(t+18,.cells [.fn (.yield (D+1)) [] []] 203 0 true 0)::(t+17,.rng (D+1) tl .ready none cd)::(t+16,.raw D (.deferred (some [])))::(t+15,.cells [.int .i64 k] 3 0 true 0)::(t+14,.cells [.int .i64 (tlG (zQP ps) 0).1] 3 0 true 0)::(t+13,.cells [.ptr (some ⟨b,0⟩)] 27 0 true 0)::(t+2,.cells [.slice (some ⟨t+1,0⟩) (tlG (zQP ps) 0).1 (zQP ps).length] 160 0 true 0)::(t+1,.cells (rnC (zQP ps) (tlG (zQP ps) 0).1) 21 0 true 0)::(t,.cells [.bool false] 4 0 true 0)::stB (zXG p s) B) (fun k:Nat=>t+25) (fun k:Nat=>k≤(tlG (zQP ps) 0).1) (fun k:Nat=>(tlG (zQP ps) 0).1 - k) (0) ?_ ?_ ?_ ?_ ?_
  ·intro k hk;refine ⟨by simp[zWP],?_,by omega⟩;simp[htlk,htlk2,hrb,show b<t+25 by omega]
  ·exact Nat.zero_le _
  ·simp only[go_sem,zQS]
  ·simp only[go_sem,zWG];rfl
  intro k hk;simp only at hk ⊢
  rcases Nat.lt_or_ge k (tlG (zQP ps) 0).1 with hkc | hkc
  ·have hl2:=(zKV (zQP ps)).1 k hkc;have hst:=zZB hl2;have hrg:=rnC_get (zQP ps) (tlG (zQP ps) 0).1 k hkc;have g1:(((tlG (zQP ps) 0).1:Int)≤(k:Int))=False:=eq_false (by omega);generalize hd:zZX ((zQP ps).drop (itU (zQP ps) k))=d at *
   obtain ⟨r,w⟩:=d;simp only at hst hrg
   repeat' (first|refine zQQ 33243 ?_|refine zQW ?_|(refine stp ?_;simp only[go_sem])|(refine zXQ ?_;simp only[go_sem,hd])|(refine spl (fun h=>?_) (fun h=>?_)<;>first|omega|((try simp only[zRM]);(try simp only[go_sem,h])))|fail)
   refine zWD (t+23) 47 [(3,.ptr (some ⟨t+18,0⟩)),(7,.ptr (some ⟨t+20,0⟩))] cd2 (by simp only[go_sem,← htm2]) hcd2 rfl rfl rfl rfl rfl ?_;rw[← htm2];simp only[go_sem,putArgs]
   repeat' (first|refine zQQ 18571455365887 ?_|refine zQW ?_|(refine stp ?_;simp only[go_sem])|(simp only[zPD,go_sem])|fail)
   refine zWD (t+17) 75 [(4,.ptr (some ⟨t,0⟩)),(5,.ptr (some ⟨t+2,0⟩)),(8,.ptr (some ⟨t+15,0⟩))] cd (by simp only[go_sem,← htm]) hcd rfl rfl rfl rfl rfl ?_;rw[← htm];simp only[go_sem,putArgs]
   repeat' (first|(refine zGJ ?_)|refine zQQ 4722434107233806589939 ?_|refine zQW ?_|(refine stp ?_;simp only[go_sem,g1,hrg])|(simp only[zPD,go_sem])|(simp (disch:=omega) only[zQK])|(refine zQT ?_ ?_;focus omega))
   simp only[zKZ,go_sem]
   repeat' (first|(refine stp ?_;simp only[go_sem])|(simp (disch:=omega) only[zQK])|fail)
   simp only[zKZ,go_sem]
   repeat' (first|(refine stp ?_;simp only[go_sem])|fail)
   have hwk:IntKind.i64.wrap ((k:Int)+1)=(k:Int)+1:=zQK (by omega) (by omega)
   (refine ⟨(k+1),t+25,[],?_,?_,rfl,rfl,?_,⟨?_,rfl,?_,?_,?_,?_,?_⟩⟩;rotate_left;(focus (simp only[];omega));(focus (simp only[go_sem,zQS]));(focus (omega));(focus simp);(focus (simp));(focus (simp only[];omega));(focus (simp[htlk,htlk2,hrb];omega));(focus (simp[htlr,htlr2,hst,hrr,hbn]));(try simp only[]))
   exact hkc
  ·obtain rfl:k=(tlG (zQP ps) 0).1:=by omega
   rw[hcnt]
   repeat' (first|refine zQQ 33243 ?_|(refine stp ?_;simp only[go_sem])|(refine zXQ ?_;simp only[go_sem])|fail)
   refine zZZ ?_ ?_ ?_ ⟨.ready,none,?_,by simp,?_⟩
   ·simp[htlk,htlk2,hrb,show ∀ j,b<t+j from fun j=>by omega]
   ·simp only[];omega
   ·simp[EV.bel,zQX]
   ·simp only[go_sem]
   ·simp only[zGG,go_sem]
    repeat' (skip)
    refine ⟨t+22,D2,rfl,by simp only[go_sem],?_⟩;simp only[go_sem];refine zZZ ?_ ?_ ?_ ⟨.ready,none,?_,by simp,?_⟩
    ·simp[htlk,hrb,hbk]
    ·simp only[];omega
    ·simp[EV.bel,zQX]
    ·simp only[go_sem]
    ·simp only[zGG,go_sem]
     repeat' (first|refine zQQ 4722434107233806589939 ?_|refine zQW ?_|(refine stp ?_;simp only[go_sem])|fail)
     refine zJQ [(4,.ptr (some ⟨t,0⟩)),(5,.ptr (some ⟨t+2,0⟩)),(8,.ptr (some ⟨t+15,0⟩))] 91 [] [.ptr (some ⟨t+13,0⟩),.ptr (some ⟨t+14,0⟩)] (by simp only[go_sem]) Tryz.func91 rfl rfl (by simp only[go_sem,zQS]) ?_;clear hcd hcd2 htlb2 htlk2 htlr2 htm2;intro cd3 hcd3 D3;simp only[go_sem,List.nil_append,List.cons_append];rw[← htm];have f1:(((tlG (zQP ps) 0).1:Int)<1)=False:=eq_false (by omega);have hua:=uBack_c G (zQP ps);refine zQV 44 [] Tryz.func91 ?_
     repeat' (first|refine zQQ 8920663851775 ?_|refine zQW ?_|(refine stp ?_;simp only[go_sem,f1,Int.min_self])|(refine EffW.at (hop ) [] rfl (by first|(simp[hbt,zQR hbt];done)|fail) ?_;(try simp only[go_sem]))|(refine EffW.at (htx ) [] rfl (by first|(simp[hbt,zQR hbt];done)|fail) ?_;(try simp only[go_sem]))|(refine Eff.atR (hua ) rfl [] rfl (by first|(simp;done)|fail) rfl ?_;(try simp only[go_sem]))|fail)
     refine zJQ [(3,.ptr (some ⟨t+27,0⟩)),(6,.ptr (some ⟨t+29,0⟩))] 127 [] [.ptr (some ⟨t+30,0⟩)] (by simp only[go_sem]) Tryz.func127 rfl rfl (by simp only[go_sem,zQS]) ?_;intro cd4 hcd4 D4;simp only[go_sem,List.nil_append,List.cons_append];obtain ⟨tl4,htm4⟩:∃ l,l=tlM 44 [(3,.ptr (some ⟨t+27,0⟩)),(6,.ptr (some ⟨t+29,0⟩))]:=⟨_,rfl⟩;have htlb4:zQX (t+30) tl4:=by rw[htm4];exact zDH (by simp[zWP])
     have htlk4:∀ k,30≤k→zQX (t+k) tl4=True:=fun k hk=>eq_true (zQJ (by omega) _ htlb4)
     have htlr4:∀ q,zZG (nam (t+33) q) tl4=tl4:=fun q=>zWB (k:=t+30) (i:=3) htlb4
     have htlr3:∀ q,zZG (nam (t+33) q) tl=tl:=fun q=>zWB (k:=t+16) (i:=17) htlb
     rw[← htm4];have hst0:(zQP ps).take (itU (zQP ps) (tlG (zQP ps) 0).1)=zQP ps:=by rw[hcnt];exact List.take_of_length_le (Nat.le_refl _)
     refine zQV 28 [] Tryz.func127 ?_
     repeat' (first|refine zQQ 134218299 ?_|refine zQW ?_|(refine stp ?_;simp only[go_sem])|fail)
     refine zQM (fun k:Nat=>[(3,.str ((zQP ps).take (itU (zQP ps) k))),(0,.fn (.yield (D4+1)) [] []),(1,.ptr (some ⟨t+30,0⟩))]) (fun k:Nat=>(t+32,.rng (D4+1) tl4 .ready none cd4)::(t+31,.raw D4 (.deferred (some [])))::(t+29,.cells [.int .i64 k] 3 0 true 0)::(t+27,.cells [.fn (.yield (D3+1)) [] []] 203 0 true 0)::(t+26,.rng (D3+1) tl .ready none cd3)::(t+25,.raw D3 (.deferred (some [])))::(t+16,.raw D (.deferred (some [])))::(t+15,.cells [.int .i64 k] 3 0 true 0)::(t+2,.cells [.slice (some ⟨t+1,0⟩) (tlG (zQP ps) 0).1 (zQP ps).length] 160 0 true 0)::(t+1,.cells (rnC (zQP ps) (tlG (zQP ps) 0).1) 21 0 true 0)::(t,.cells [.bool false] 4 0 true 0)::stB (zXG p s) B) (fun k:Nat=>t+33) (fun k:Nat=>k≤(tlG (zQP ps) 0).1) (fun k:Nat=>k) ((tlG (zQP ps) 0).1) ?_ ?_ ?_ ?_ ?_
     ·intro k hk;refine ⟨by simp[zWP],?_,by omega⟩;simp[htlk,htlk4,hrb]
     ·exact Nat.le_refl _
     ·simp only[go_sem,zQS,hst0]
     ·simp only[go_sem,zWG]
     intro k hk2;simp only at hk2 ⊢
     rcases k with _ | j
     ·have h0:(zQP ps).take (itU (zQP ps) 0)=[]:=rfl;rw[h0,show ((0:Nat):Int)=0 from rfl]
      repeat' (first|refine zQQ 134218299 ?_|(refine stp ?_;simp only[go_sem])|fail)
      refine zZZ ?_ ?_ ?_ ⟨.ready,none,?_,by simp,?_⟩
      ·simp[htlk,htlk4,hrb]
      ·simp only[];omega
      ·simp[EV.bel,zQX]
      ·simp only[go_sem]
      ·simp only[zGG,go_sem]
       repeat' (skip)
       refine ⟨t+31,D4,rfl,by simp only[go_sem],?_⟩;simp only[go_sem];refine zZZ ?_ ?_ ?_ ⟨.ready,none,?_,by simp,?_⟩
       ·simp[htlk,hrb]
       ·simp only[];omega
       ·simp[EV.bel,zQX]
       ·simp only[go_sem]
       ·simp only[zGG,go_sem]
        repeat' (first|refine zQQ 4722434107233806589939 ?_|(refine stp ?_;simp only[go_sem])|fail)
        refine ⟨t+25,D3,rfl,by simp only[go_sem],?_⟩;simp only[go_sem];refine ⟨t+16,D,rfl,by simp only[go_sem],?_⟩;simp only[go_sem]
        (refine zQN hQ [] ?_ ?_ ?_<;>(simp))
     ·have hjc:j<(tlG (zQP ps) 0).1:=by omega
      have hl2:=(zKV (zQP ps)).1 j hjc;have hst:=zZB hl2;have hle2:=zGD (zQP ps) (j+1);have hlt2:=yRZ hl2;have htl2:((zQP ps).take (itU (zQP ps) (j+1))).length=itU (zQP ps) (j+1):=by rw[List.length_take];omega
      have hrg:=rnC_get (zQP ps) (tlG (zQP ps) 0).1 j hjc;have hb1:=yRX (s:=zQP ps) (n:=j+1) (by omega) j (by omega);have hb2:=yRX (s:=zQP ps) (n:=j+1) (by omega) (j+1) (Nat.le_refl _);have hla:=last_c hG ((zQP ps).take (itU (zQP ps) (j+1))) (by omega) j (by rw[hb1,htl2];exact hlt2) (by rw[hb2,htl2]);rw[hb1,back_dec hjc] at hla
      generalize zHF (((zQP ps).take (itU (zQP ps) (j+1))).drop (itU (zQP ps) j))=rr at hla
      generalize hd:zZX ((zQP ps).drop (itU (zQP ps) j))=d at *
      obtain ⟨r,w⟩:=d;simp only at hst hrg hla
      have g1:((zQP ps).take (itU (zQP ps) (j+1))=[])=False:=eq_false fun e=>by rw[e] at htl2;simp at htl2;omega
      have e1:((itU (zQP ps) (j+1):Int) - (w:Int)).toNat=itU (zQP ps) j:=by omega
      have e2:((zQP ps).take (itU (zQP ps) (j+1))).take (itU (zQP ps) j)=(zQP ps).take (itU (zQP ps) j):=by rw[List.take_take,Nat.min_eq_left (by omega)]
      have e3:((zQP ps).take (itU (zQP ps) j)).length=itU (zQP ps) j:=by rw[List.length_take];omega
      have e4:((j+1:Nat):Int) - 1=(j:Int):=by omega
      have g2:((j:Int)<0)=False:=eq_false (by omega)
      repeat' (first|refine zQQ 134218299 ?_|refine zQW ?_|(refine stp ?_;simp only[go_sem,g1,htl2,e3])|(refine Pure.at (hla) (by simp) (by simp) rfl ?_;(try simp only[go_sem]))|(simp only[go_sem,e1,e2])|(simp (disch:=omega) only[zQK])|(refine zQT ?_ ?_;focus omega))
      refine zWD (t+32) 44 [(3,.ptr (some ⟨t+27,0⟩)),(6,.ptr (some ⟨t+29,0⟩))] cd4 (by simp only[go_sem,← htm4]) hcd4 rfl rfl rfl rfl rfl ?_;rw[← htm4];simp only[go_sem,putArgs]
      repeat' (first|refine zQQ 8920663851775 ?_|refine zQW ?_|(refine stp ?_;simp only[go_sem,e4])|(simp only[zPD,go_sem])|(simp (disch:=omega) only[zQK])|fail)
      refine zWD (t+26) 75 [(4,.ptr (some ⟨t,0⟩)),(5,.ptr (some ⟨t+2,0⟩)),(8,.ptr (some ⟨t+15,0⟩))] cd3 (by simp only[go_sem,← htm]) hcd3 rfl rfl rfl rfl rfl ?_;rw[← htm];simp only[go_sem,putArgs]
      repeat' (first|(refine zGJ ?_)|refine zQQ 4722434107233806589939 ?_|refine zQW ?_|(refine stp ?_;simp only[go_sem,e4])|(simp only[zPD,go_sem])|(simp only[go_sem,g2,hrg])|(simp (disch:=omega) only[zQK])|(refine zQT ?_ ?_;focus omega))
      simp only[zKZ,go_sem]
      repeat' (first|(refine stp ?_;simp only[go_sem])|fail)
      simp only[zKZ,go_sem]
      repeat' (first|(refine stp ?_;simp only[go_sem])|fail)
      (refine ⟨j,t+33,[],?_,?_,rfl,rfl,?_,⟨?_,rfl,?_,?_,?_,?_,?_⟩⟩;rotate_left;(focus (simp only[];omega));(focus (simp only[go_sem,zQS]));(focus (omega));(focus simp);(focus (simp));(focus (simp only[];omega));(focus (simp[htlk,htlk4,hrb]));(focus (simp[htlr3,htlr4,hrr]));(try simp only[]))
      omega
end
end Go.Proofs.YtncphnpndkjkaaaGreatDoor
