/-
  Own work: a part of the proof that the last text closes.
-/
import Derived.Test.YtgajmgkhlkghjaaGreatDoorHr
import Derived.Test.YtgajmgkhlkghjaaGreatDoorFk
namespace Go.Proofs.YtgajmgkhlkghjaaGreatDoor
open Go.E
set_option linter.all false
set_option maxRecDepth 100000
set_option maxHeartbeats 16000000
def sA:List UInt8:=zU 126++[226,130,172]++zU 124
theorem fillG_congr {p:Gp}:∀ (l:List PL) (s s':Gs),s.taken=s'.taken→s.least=s'.least→(fillG p s l).2=(fillG p s' l).2
 | [],_,_,_,_=>rfl
 | y::l,s,s',h1,h2=>by
   simp only[fillG];have e:takeS p s=takeS p s':=by unfold takeS;rw[h1,h2]
   split
   ·rw[e]
    cases hq:takeS p s' with
    | none=>rfl
    | some b=>
      have ih:=fillG_congr (p:=p) l (tookS s b) (tookS s' b) (by simp only[tookS,h1]) rfl;simp only[ih]
   ·have ih:=fillG_congr (p:=p) l s s' h1 h2;simp only[ih]
theorem cutA:cutG sA (-1)=[⟨sA.take 127,127,-1⟩,⟨sA.drop 127,126,-1⟩]:=by rfl
theorem lenA1:(sA.take 127).length=127:=by decide +kernel
theorem lenA2:(sA.drop 127).length=126:=by decide +kernel
theorem settA:settC 0 (cutG sA (-1))=cutG sA (-1):=by
 rw[cutA,settC_more (x:=⟨sA.take 127,127,-1⟩) (y:=⟨sA.drop 127,126,-1⟩) rfl rfl (by simp only[lenA1,lenA2];omega)];exact settC_end (by simp)
def chkA:Bool:=match fillCk (pZ 8) sZ [⟨sA.take 127,127,-1⟩,⟨sA.drop 127,126,-1⟩] with
 | (s1,some l2)=>(match (fillG (pZ 8) ⟨[],s1.taken,s1.least,false⟩ (settleG (248 / 16) [] (planI (248 / 16) [] 0 (cellsC l2)))).2 with
   | some l3=>decide (refOf (l3.map tpOf)=3) && decide (l2.map (fun x=>x.T.length)=[127,126])
   | none=>false)
 | _=>false
theorem chkA_ok:chkA=true:=by rfl
theorem atA:nthG sA 0 127=some 129:=by decide +kernel
theorem ofA:(tlG (sA.take (firstG sA 128)) 0).1=126:=by decide +kernel
theorem tlA:(tlG sA 0).1=251:=by decide +kernel
theorem ed0A {v:EV} {s':Gs} (h:Ed0 (pZ 8) sZ (cutG sA (-1)) v s'):∃ ps tb,v=.tuple [.int .u32 3,.int .i64 0]∧refOf tb=3∧EdOK (pZ 8) sZ [] sA s' ps tb∧ps.map (fun x=>x.T.length)=[127,126]:=by
 have hc:=chkA_ok;unfold chkA at hc
 unfold Ed0 at h
 rw[settA,cutA] at h
 have hf:=(cutG_ok sA (by decide) (by decide)).2.1;rw[cutA] at hf
 split at h
 ·rename_i e;rw[e] at hc;simp at hc
 ·rename_i s1 l2 e
  rw[e] at hc
  obtain ⟨s2,⟨q1,q2⟩,h⟩:=h;simp only at hc
  have hg:=fillG_congr (p:=pZ 8) (settleG (248 / 16) [] (planI (248 / 16) [] 0 (cellsC l2))) s2 ⟨[],s1.taken,s1.least,false⟩ q1 q2
  split at h
  ·rename_i e2
   rw[← hg,e2] at hc
   simp at hc
  ·rename_i s3 l3 e2
   rw[← hg,e2] at hc
   simp only[Bool.and_eq_true,decide_eq_true_eq] at hc
   obtain ⟨c1,c2⟩:=hc;rw[c1,hf] at h
   exact ⟨l2,l3.map tpOf,h.1,c1,h.2,c2⟩
theorem eqInts_c {B:List (Nat × EO)} {t r:Nat} (G:List Gl) [hB:Bg t B] (h:AtG B t r (.cells [.int .i64 127,.int .i64 126] 3 1 true 0)) :
  EffW G Tryz.prog 30 [.slice (some ⟨r,0⟩) 2 2,.slice (some ⟨t,0⟩) 2 2] t [(t,.cells [.int .i64 127,.int .i64 126] 3 0 true 0)] B 1 (.bool true) [(t,.cells [.int .i64 127,.int .i64 126] 3 0 true 0)] B 1:=by
 have hH:=AtG.f h;refine EffW.enter fun Q hQ=>?_
 simp only[List.nil_append,List.cons_append];refine zQV 26 [.tmp 4] Tryz.func30 ?_
 repeat' (first|refine zQQ 33571891 ?_|refine zQW ?_|(refine stp ?_;simp only[go_sem])|(refine drawQ (id:=6) mixed [(0,[]),(1,[]),(2,[]),(4,[]),(5,[]),(6,[]),(3,[]),(7,[]),(8,[])] (by kernel_rfl) ?_;simp only[go_sem,hH])|(refine esem_loopN 33571891 3 ?_;simp only[go_sem])|fail)
 (refine done_W2 hQ [] ?_ ?_ ?_<;>(simp))
theorem EdOK.hr {nb:Nat} {was:List Nat} {T:List UInt8} {s':Gs} {ps:List Ck} {tb:List TP} (h:EdOK (pZ nb) sZ was T s' ps tb):ovl s'.put 64 8=zU 8:=
 (ovl_same fun k hk=>h.low _ (by show 64+k<16512;omega)).trans rfl
theorem awake_c (G:List Gl) (hG:Tabs G):E.Pure G Tryz.prog 7 [] (.bool true):=by
 unfold E.Pure;haveI:Bg 0 []:=⟨trivial,trivial⟩;refine ecalls_flat 98 [.tmp 0] Tryz.func7 rfl rfl rfl (by kernel_rfl) (le_ble rfl) trivial ?_
 repeat' (first|refine zQQ 2129917 ?_|(refine stp ?_;simp only[go_sem])|(refine EffR.at (plain_c [] G 8 (by omega) (by omega)) ?_)|(simp only[go_sem])|fail)
 rintro v B1 nx ⟨d,a,lns,lg,pl,hp,lv,pu,rfl,hB1,hK,hw,hta,hln⟩
 haveI:=hB1
 repeat' (first|(refine esem_ground (nb:=8) [] (fun _ h=>absurd h List.not_mem_nil) hw hB1 (by simp) (Nat.zero_le _) (fun _ _=>Nat.zero_le _) [(2,.ptr (some ⟨0,0⟩)),(3,.bool true)] (by simp only[go_sem,zWQ,renF,EV.ren,and_true];rfl) (by simp[frBel,EV.bel]) ?_)|refine zQQ 2129917 ?_|(refine stp ?_;simp only[go_sem])|fail)
 have hS:StL (pZ 8) (bcL 290 []) 301:=bcL_StL (nb:=8) (A:=[]) (fun _ h=>absurd h List.not_mem_nil);generalize bcL 290 []=B0 at hS ⊢
 generalize (301:Nat)=t at hS ⊢
 haveI:=hS;haveI:Big t:=⟨hS.big⟩;have hp:=pZ_ok (nb:=8) (by omega);have hbn:=Bg.below (t:=t) (B:=gnd (pZ 8) sZ B0);refine esem_then [(2,.ptr (some ⟨0,0⟩)),(4,.str sA)] (gnd (pZ 8) sZ B0) t ⟨by simp[frBel,EV.bel],hbn,Nat.zero_le _⟩ ?_ ?_
 ·repeat' (first|(refine drawT (id:=4) mixed 7 [0,1,2,3,4,5,6] (by kernel_rfl) ?_;simp only[go_sem])|(refine tree_step (rem:=[0,1,2,3,4,5,6]) [(0,[1,2,3,4,5,6]),(3,[0,1,2,4,5,6])] (by kernel_rfl) ⟨?_,?_,trivial⟩;simp only[go_sem])|(refine tree_step (rem:=[1,2,3,4,5,6]) [(1,[2,3,4,5,6]),(3,[1,2,4,5,6])] (by kernel_rfl) ⟨?_,?_,trivial⟩;simp only[go_sem])|(refine tree_step (rem:=[0,1,2,4,5,6]) [(0,[1,2,4,5,6]),(4,[0,1,2,5,6])] (by kernel_rfl) ⟨?_,?_,trivial⟩;simp only[go_sem])|(refine tree_step (rem:=[2,3,4,5,6]) [(2,[3,4,5,6]),(3,[2,4,5,6])] (by kernel_rfl) ⟨?_,?_,trivial⟩;simp only[go_sem])|(refine tree_step (rem:=[1,2,4,5,6]) [(1,[2,4,5,6]),(4,[1,2,5,6])] (by kernel_rfl) ⟨?_,?_,trivial⟩;simp only[go_sem])|(refine tree_step (rem:=[0,1,2,5,6]) [(0,[1,2,5,6])] (by kernel_rfl) ⟨?_,trivial⟩;simp only[go_sem])|(refine tree_step (rem:=[3,4,5,6]) [(3,[4,5,6])] (by kernel_rfl) ⟨?_,trivial⟩;simp only[go_sem])|(refine tree_step (rem:=[2,4,5,6]) [(2,[4,5,6]),(4,[2,5,6])] (by kernel_rfl) ⟨?_,?_,trivial⟩;simp only[go_sem])|(refine tree_step (rem:=[1,2,5,6]) [(1,[2,5,6])] (by kernel_rfl) ⟨?_,trivial⟩;simp only[go_sem])|(refine tree_step (rem:=[4,5,6]) [(4,[5,6])] (by kernel_rfl) ⟨?_,trivial⟩;simp only[go_sem])|(refine tree_step (rem:=[2,5,6]) [(2,[5,6])] (by kernel_rfl) ⟨?_,trivial⟩;simp only[go_sem])|(refine tree_step (rem:=[5,6]) [(5,[6])] (by kernel_rfl) ⟨?_,trivial⟩;simp only[go_sem])|(refine tree_step (rem:=[6]) [(6,[])] (by kernel_rfl) ⟨?_,trivial⟩;simp only[go_sem])|(refine tree_done ?_;simp only[go_sem,Kept1,zWQ])|(simp only[go_sem])|fail)
  all_goals rfl
 have hs:GsOK (pZ 8) sZ:=⟨List.nodup_nil,by simp[sZ],by simp[sZ],by simp[sZ]⟩;have hI:EffR G Tryz.prog 10 [.ptr (some ⟨0,0⟩),.int .u32 0,.int .i64 0,.str sA] (gnd (pZ 8) sZ B0) t _:=cinsertD_c B0 G sZ hp rfl hs rfl [] [] (TxOK.nil _) 0 sA (Nat.zero_le _) (by decide)
 repeat' (first|refine zQQ 2129917 ?_|(refine stp ?_;simp only[go_sem])|(refine EffR.at hI ?_)|(simp only[go_sem])|fail)
 rintro v bl nx ⟨s',rfl,rfl,-,hd⟩
 obtain ⟨ps,tb,rfl,hrf,hed,hsz⟩:=ed0A (hd (by decide));have hx:=hed.tx;have hfl:=hed.flat
 have ho:s'.over=false:=hed.over;have hr:=hed.hr;have hSz:=csizes_c B0 G s' hp ho hr ps tb hx;rw[hrf] at hSz
 repeat' (first|refine zQQ 2129917 ?_|(refine stp ?_;simp only[go_sem])|(refine EffR.at hSz ?_)|(simp only[go_sem])|fail)
 rintro v bl nx ⟨B2,v1,rfl,rfl,hS1,he1,hrow⟩
 haveI:=hS1;haveI:Big nx:=⟨hS1.big⟩;have hpl:ps.length=2:=by have:=congrArg List.length hsz;simpa using this
 have hse:szE ps=[.int .i64 127,.int .i64 126]:=by
  have:szE ps=([127,126]:List Nat).map fun (n:Nat)=>EV.int .i64 n:=by rw[← hsz,List.map_map];rfl
  rw[this];rfl
 rw[hpl,hse] at hrow
 obtain ⟨r,rfl,-,hrt,hat⟩:=hrow;have ha:=hat (by decide);have htot:totC ps=253:=by rw[← flatC_length,hfl];rfl
 have hAt:=cat_c B2 G s' hp ho hr ps tb hx 127 (by omega);have hOf:=cof_c B2 G hG s' hp ho hr ps tb hx 128 (by omega);have hTa:=ctally_c B2 G hG s' hp ho hr ps tb hx;have tE:tallyE sA=.agg [.int .i64 253,.int .i64 251,.int .i64 (tlG sA 0).2,.str (headT sA),.str (tailT sA)]:=by
  rw[tallyE_C];unfold tallyC;rw[tlA];rfl
 have ae:atE (some 129)=.tuple [.int .i64 129,.int .i64 0]:=rfl;have e126:((126:Nat):Int)=126:=rfl;have e127:((127:Nat):Int)=127:=rfl;have e128:((128:Nat):Int)=128:=rfl;rw[hfl,atA,hrf,ae,e127] at hAt
 rw[hfl,ofA,hrf,e126,e128] at hOf
 rw[hfl,hrf,tE] at hTa
 have hEq:=eqInts_c (B:=gnd (pZ 8) s' B2) (t:=nx) (r:=r) G ⟨ha.lt,(AtB.f (p:=pZ 8) ha).1 s'⟩;have aE:accE r 2=.slice (some ⟨r,0⟩) 2 2:=rfl;rw[aE]
 repeat' (first|refine zQQ 2129917 ?_|(refine stp ?_;simp only[go_sem])|(refine EffW.at (hAt ) [] rfl (by (simp;done)) ?_;(try simp only[go_sem]))|(refine EffW.at (hOf ) [] rfl (by (simp;done)) ?_;(try simp only[go_sem]))|(refine EffW.at (hTa ) [] rfl (by (simp;done)) ?_;(try simp only[go_sem]))|(refine EffW.at (hEq ) [nx+1] rfl (by (simp[go_sem,hrt,zWW hrt];done)) ?_;(try simp only[go_sem]))|fail)
 all_goals exact done_flat rfl trivial
end Go.Proofs.YtgajmgkhlkghjaaGreatDoor
