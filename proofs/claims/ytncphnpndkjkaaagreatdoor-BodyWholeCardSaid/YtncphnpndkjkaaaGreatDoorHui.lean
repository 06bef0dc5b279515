/-
  Own work: a part of the proof that the last text closes.
-/
import Derived.Test.YtncphnpndkjkaaaGreatDoorHuh
namespace Go.Proofs.YtncphnpndkjkaaaGreatDoor
open Go.E
set_option linter.all false
set_option maxRecDepth 100000
set_option maxHeartbeats 16000000
theorem whole_law (G:List Gl) (hG:Tabs G) (eds:List Ed) (h1:∀ e∈eds,e.ok) (A:List EO) (hA:∀ o∈A,o.bel 0) (hA0:∀ o∈A,tyE o=0) (v1:EV) (hv1:SlV A v1 eds)
  (B0:List (Nat × EO)) (hB0:Bg A.length B0) (hBA:∀ j o,A[j]? = some o→lkp B0 j=some o) :
  ECalls Tryz.prog 3 [v1] ⟨B0,A.length,G⟩ fun x s2=>x=.ret (.bool true)∧s2=⟨[],A.length,G⟩:=by
 have hwk:=works_c G hG;refine yTQ 160 [.tmp 2] Tryz.func3 rfl rfl rfl (by kernel_rfl) (le_ble rfl) trivial ?_;obtain ⟨nb,hnb⟩:∃ nb:Nat,nb=60:=⟨60,rfl⟩;have e60:(60:Int)=(nb:Int):=by omega
 repeat' (first|refine zQQ 178406302202918905017015956715869642492395517 ?_|(refine stp ?_;simp only[go_sem,e60])|(refine EffR.at (xPV B0 G nb (by omega) (by omega)) ?_)|(simp only[go_sem])|fail)
 rintro v B1 nx ⟨X,wk',d,a,lns,lg,pl,hp,lv,pu,r,rhp,rfl,hB1,hK,hw,hta,hln,hx,hX,hXl⟩
 haveI:=hB1;obtain ⟨w1,rfl,hs1⟩:=hv1.upH (nb:=nb) (d:=d) (a:=a) (lg:=lg) (pl:=pl) (hp:=hp) (lv:=lv) (pu:=pu) (Y:=X) hw.dev.len;have htop:=xTK (d:=d) (a:=a) (lg:=lg) (pl:=pl) (hp:=hp) (lv:=lv) (pu:=pu) (k:=A.length) (Y:=X) hw.dev.len;have hat:∀ j o,A[j]? = some o→AtG B1 nx j o:=fun j o h=>hK.keep ⟨(List.getElem?_eq_some_iff.1 h).1,hBA j o h⟩ (by rw[hA0 o (List.mem_of_getElem? h)];decide)
 have f1:=hs1.f;have hS:StL (pY nb) (bcL (514+4*nb) A) (11+(514+4*nb)+A.length):=yFR hA
 repeat' (first|(refine zZF 4 ?_)|refine zQQ 178406302202918905017015956715869642492395517 ?_|(refine stp ?_;simp only[go_sem])|(refine Pure.at (hwk) (by simp) (by simp) rfl ?_;(try simp only[go_sem]))|fail)
 refine ⟨?_⟩;refine yKB (nb:=nb) A hA hw hB1 hat hta hln hx hX hXl [(0,w1),(3,.ptr (some ⟨11+(514+4*nb)+A.length,0⟩))] ?_ ?_ ?_
 ·have htop2:=htop;unfold nam at htop2
  rw[if_neg (by omega),Nat.sub_zero] at htop2
  simp only[go_sem,zQS,renF,EV.ren,and_true,true_and];rw[if_neg (by omega),htop2]
 ·simp[zWP,EV.bel,f1]
 show ESem _ _ _ _ _ ⟨(11+(514+4*nb)+A.length,xU)::stB (zXG (pY nb) sZ) (bcL (514+4*nb) A),11+(514+4*nb)+A.length+1,G⟩;have hpk:=pY_ok (nb:=nb) (by omega);clear hat hw hK hv1 hta hln hBA hwk hx hXl htop f1;generalize 11+(514+4*nb)+A.length=T0 at hS hs1 ⊢
 generalize bcL (514+4*nb) A=Bq at hS hs1 ⊢
 obtain ⟨hS2,hxa,he2,hst⟩:=stX hS;have hs2:=hs1.mono he2;rw[← hst];generalize (T0,xU)::Bq=B2 at hS2 hxa hst hs2 ⊢
 clear hst hs1 he2;have hU:=hxa.f (p:=pY nb);haveI:=hS2;haveI:Big (T0+1):=⟨hS2.big⟩;have hop:EffR G Tryz.prog 6 [.ptr (some ⟨0,0⟩),.int .u32 0] (gnd (pY nb) sZ B2) (T0+1) _:=bOpen_c B2 G hG sZ hpk [] [] (yNV nb)
 repeat' (first|(refine stp ?_;simp only[go_sem,hU])|(refine EffR.at hop ?_)|(simp only[go_sem])|fail)
 rintro v bl nx3 ⟨B3,x,b,rfl,rfl,hS3,he3,hx3,hb3⟩
 haveI:=hS3;haveI:Big nx3:=⟨hS3.big⟩;have hs3:=hs2.mono he3;have f1:=hs3.f;have hxt:=hx3.lt;have hbt:=hb3.lt;have hbk:∀ j,b<nx3+j:=fun j=>by omega
 have hbn:∀ j,(nx3+j≤b)=False:=fun j=>eq_false (by omega)
 have hxb:=body_ne B3 hb3 hx3;clear hs2 hU hxa hop he3 hS2
 repeat' (first|refine zQQ 178406302202918905017015956715869642492395517 ?_|refine zQW ?_|(refine stp ?_;simp only[go_sem])|fail)
 refine zQM (fun z:Nat × Gs × List Ck × List TP=>[(0,w1),(5,.ptr (some ⟨b,0⟩)),(7,.str (zQP z.2.2.1)),(8,.int .i64 z.1)]) (fun z:Nat × Gs × List Ck × List TP=>stB (zXG (pY nb) z.2.1) (stT B3 x (zWQ z.2.2.2))) (fun z:Nat × Gs × List Ck × List TP=>nx3) (fun z:Nat × Gs × List Ck × List TP=>z.1≤8∧zVM z.2.2.1≤150*z.1∧OneOK (pY nb) z.2.1 z.2.2.1 z.2.2.2) (fun z:Nat × Gs × List Ck × List TP=>8 - z.1) ((0,sZ,[],[])) ?_ ?_ ?_ ?_ ?_
 ·intro z hz;haveI:=zRG (p:=pY nb) B3 hx3 (zWQ z.2.2.2);exact ⟨by simp[zWP,EV.bel,f1,hbt],(show blBelow nx3 (stB _ _) from Bg.below (t:=nx3)),Nat.zero_le _⟩
 ·exact ⟨by decide,by simp[zVM],yNV nb⟩
 ·simp only[go_sem,zQS];rfl
 ·show zWG _ (stB (zXG (pY nb) sZ) (stT B3 x (zWQ [])));rw[xYY B3 hx3];simp only[go_sem]
 ·rintro ⟨i,s,ps,tb⟩ ⟨hi,htot,hone⟩
  simp only at hi htot hone ⊢
  haveI:=zRG (p:=pY nb) B3 hx3 (zWQ tb);have hxz:=yDQ B3 hx3 (zWQ tb);have hbz:=yFD B3 hb3 hxb (zWQ tb);have hL:=zQD ps
  by_cases hgo:i<eds.length∧i<8
  ·rcases hs3 with ⟨rfl,hnil⟩ | ⟨bb,ty,rfl,hat⟩
   ·exfalso;rw[hnil] at hgo;simp at hgo
   ·obtain ⟨e,he⟩:∃ e,eds[i]? = some e:=⟨eds[i]'(by omega),List.getElem?_eq_getElem _⟩;have hok:=h1 e (List.mem_of_getElem? he);have hbx:bb ≠ x:=fun q=>by
     have:=hat.lk;rw[q,hx3.lk] at this
     simp at this
    have hbbt:=hat.lt;have hXr:=(yFD B3 hat hbx (zWQ tb)).f (p:=pY nb);obtain ⟨-,htl⟩:=yHP he;obtain ⟨ht3,ht4,ht5⟩:=edsE_get3 he;have htl2:(i*3+3≤(xWR eds).length)=True:=eq_true htl;have hcl:=yTG (zQP ps);have hcn:=xJS G (zQP ps) (by omega);obtain ⟨N,hN⟩:∃ N,(tlG (zQP ps) 0).1=N:=⟨_,rfl⟩;rw[hN] at hcl hcn
    have hwi:=yDV G e.at_ (N+1) (by omega) (by omega) hok.1.1 hok.1.2;have hm:(e.at_ % ((N+1:Nat):Int)).toNat≤N:=by
     have q:=Int.emod_lt_of_pos e.at_ (show (0:Int)<((N+1:Nat):Int) by omega);omega
    generalize (e.at_ % ((N+1:Nat):Int)).toNat=m at hwi hm
    have hwj:=yDV G e.n (N - m+1) (by omega) (by omega) hok.2.1 hok.2.2;have ho:(e.n % ((N - m+1:Nat):Int)).toNat≤N - m:=by
     have q:=Int.emod_lt_of_pos e.n (show (0:Int)<((N - m+1:Nat):Int) by omega);omega
    generalize (e.n % ((N - m+1:Nat):Int)).toNat=o at hwj ho
    have ew1:(N:Int)+1=((N+1:Nat):Int):=by omega
    have ew2:(N:Int) - (m:Int)+1=((N - m+1:Nat):Int):=by omega
    have hcut:=rcut_c G e.w
    repeat' (first|(refine zZF 14 ?_)|refine zQQ 178406302202918905017015956715869642492395517 ?_|refine zQW ?_|(refine stp ?_;simp only[go_sem,hXr,ht3,ht4,ew1])|(refine Pure.at (hcn) (by simp) (by simp) rfl ?_;(try simp only[go_sem]))|(refine Pure.at (hwi) (by simp) (by simp) rfl ?_;(try simp only[go_sem]))|(refine Pure.at (hwj) (by simp) (by simp) rfl ?_;(try simp only[go_sem]))|(simp only[go_sem,ew2])|(simp (disch:=omega) only[zQK])|(refine spl (fun h=>?_) (fun h=>?_)<;>first|omega|((try simp only[zZQ]);(try simp only[go_sem,h])))|(refine zQT ?_ ?_;focus omega))
    refine ⟨?_⟩;refine esem_cut2 (fun o':Nat=>[(0,.slice (some ⟨bb,0⟩) eds.length eds.length),(5,.ptr (some ⟨b,0⟩)),(7,.str (zQP ps)),(8,.int .i64 i),(9,.int .i64 N),(10,.int .i64 m),(11,.int .i64 o')]) (fun _=>stB (zXG (pY nb) s) (stT B3 x (zWQ tb))) (fun _=>nx3) (fun o'=>o'≤150∧m+o'≤N) ?_ ?_ (fun o' ho'=>?_)
    ·intro o' _;exact ⟨by simp[zWP,hbt,hbbt],(show blBelow nx3 (stB _ _) from Bg.below (t:=nx3)),Nat.zero_le _⟩
    ·repeat' (first|(refine stp ?_;simp only[go_sem])|(refine spl (fun h=>?_) (fun h=>?_)<;>((try simp only[go_sem,h])))|fail)
     ·skip
      simp only[KeptX];exact ⟨150,⟨Nat.le_refl _,by omega⟩,by simp,by simp,by simp[go_sem,zQS],by simp[go_sem]⟩
     ·refine zGJ ?_;simp only[KeptX];exact ⟨o,⟨by omega,by omega⟩,by simp,by simp,by simp[go_sem,zQS],by simp[go_sem]⟩
    obtain ⟨ho1,ho2⟩:=ho';have hua1:=uat_c G (zQP ps) (by omega) m (by omega);have hua2:=uat_c G (zQP ps) (by omega) (m+o') (by omega);rw[yJF (by omega),atE] at hua1 hua2
    have h4:=xQT (zQP ps) m o';have hmo:=zTP (zQP ps) (Nat.le_add_right m o');have hjl:=zGD (zQP ps) (m+o');have hwl:(e.w.take 150).length≤150:=List.length_take_le 150 _;have hed:=bEdit_c (stT B3 x (zWQ tb)) G hG s hpk ps tb hone hxz hbz m (m+o') (Nat.le_add_right _ _) (by omega) (e.w.take 150) (by omega) (by omega) (.inl ⟨by show 60≤nb;omega,by omega⟩);have hcnt:=(zKV (zQP ps)).2;rw[hN] at hcnt
    generalize itU (zQP ps) m=i0 at *
    generalize itU (zQP ps) (m+o')=j0 at *
    generalize e.w.take 150=w at *
    have hto:(zQP ps).take i0++((zQP ps).drop i0).take (j0 - i0)++(zQP ps).drop j0=zQP ps:=by
     conv=>rhs;rw[← List.take_append_drop i0 (zQP ps),← List.take_append_drop (j0 - i0) ((zQP ps).drop i0)]
     rw[List.drop_drop,List.append_assoc,show i0+(j0 - i0)=j0 by omega]
    have hl1:((zQP ps).take i0).length=i0:=by rw[List.length_take];omega
    have hl2:((zQP ps).drop j0).length=(zQP ps).length - j0:=List.length_drop ..;have hl3:(((zQP ps).drop i0).take (j0 - i0)).length=j0 - i0:=by rw[List.length_take,List.length_drop];omega
    obtain ⟨P,hP⟩:∃ P,(zQP ps).take i0=P:=⟨_,rfl⟩;obtain ⟨Y,hY⟩:∃ P,(zQP ps).drop j0=P:=⟨_,rfl⟩;obtain ⟨O,hO⟩:∃ P,((zQP ps).drop i0).take (j0 - i0)=P:=⟨_,rfl⟩;rw[hP,hY,hO] at hto
    rw[hP] at hl1
    rw[hY] at hl2
    rw[hO] at hl3
    rw[hP,hY,hO] at hed
    repeat' (first|(refine zZF 18 ?_)|refine zQQ 178406302202918905017015956715869642492395517 ?_|(refine stp ?_;simp only[go_sem,hXr,ht5])|(refine Pure.at (hcut) (by simp) (by simp) rfl ?_;(try simp only[go_sem]))|(refine Pure.at (hua1) (by simp) (by simp) rfl ?_;(try simp only[go_sem]))|(refine zQT ?_ ?_;focus omega))
    refine ⟨?_⟩
    repeat' (first|refine zQQ 178406302202918905017015956715869642492395517 ?_|(refine stp ?_;simp only[go_sem,← Int.natCast_add])|(refine Pure.at (hua2) (by simp) (by simp) rfl ?_;(try simp only[go_sem]))|(refine EffR.at hed ?_)|(simp only[go_sem])|(simp (disch:=omega) only[zQK])|fail)
    rintro v bl nx4 ⟨rfl,rfl,s1,ps1,tb1,rfl,hf1,hO1⟩
    rw[yZK];haveI:=zRG (p:=pY nb) B3 hx3 (zWQ tb1);have hx4:=yDQ B3 hx3 (zWQ tb1);have hb4:=yFD B3 hb3 hxb (zWQ tb1);have hce:=(chgEq i0 O w).2;have hap:=xTR (stT B3 x (zWQ tb1)) G hG s1 hpk ps1 tb1 hO1 hx4 hb4 P w O Y hf1 (by omega) (by omega) (.inl ⟨by show 60≤nb;omega,by omega⟩);rw[hl1] at hap
    repeat' (first|refine zQQ 178406302202918905017015956715869642492395517 ?_|(refine stp ?_;simp only[go_sem])|(refine zWV (id:=20) mixed [(0,[]),(1,[]),(2,[]),(4,[]),(5,[]),(6,[]),(7,[]),(9,[]),(3,[]),(8,[]),(10,[]),(11,[]),(12,[])] (by kernel_rfl) ?_;simp only[go_sem,hO])|(refine EffR.atW hap ?_ ?_ ?_)|(refine ⟨hce,?_⟩)|(simp only[go_sem])|(refine zQT ?_ ?_;focus omega))
    ·simp[zQX,EV.bel,hbt]
    ·rintro v B' n ⟨rfl,rfl,s',ps',tb',rfl,-⟩
     rw[yZK];haveI:=zRG (p:=pY nb) B3 hx3 (zWQ tb');exact ⟨rfl,by simp[EV.bel],inferInstance⟩
    rintro v B' ⟨rfl,s2,ps2,tb2,rfl,hf2,hO2⟩ - hB2
    rw[yZK] at hB2 ⊢
    haveI:=zRG (p:=pY nb) B3 hx3 (zWQ tb2);have hx5:=yDQ B3 hx3 (zWQ tb2);have hb5:=yFD B3 hb3 hxb (zWQ tb2);have hf2':zQP ps2=zQP ps:=hf2.trans hto;have htx:=ySQ (stT B3 x (zWQ tb2)) G hG s2 hpk ps2 tb2 hO2 hx5 hb5 0 N (Nat.zero_le _) (by rw[hf2',hN];exact Nat.le_refl _);rw[hf2',show itU (zQP ps) 0=0 from rfl,hcnt,List.drop_zero,Nat.sub_zero,List.take_of_length_le (Nat.le_refl _),show ((0:Nat):Int)=0 from rfl] at htx
    have hap2:=xTR (stT B3 x (zWQ tb2)) G hG s2 hpk ps2 tb2 hO2 hx5 hb5 P O w Y hf2 (by omega) (by omega) (.inl ⟨by show 60≤nb;omega,by omega⟩);rw[hl1] at hap2
    repeat' (first|refine zQQ 178406302202918905017015956715869642492395517 ?_|(refine stp ?_;simp only[go_sem])|(refine EffW.at (htx ) [] rfl (by first|(simp[hbt,zQR hbt];done)|fail) ?_;(try simp only[go_sem]))|(refine EffR.atW hap2 ?_ ?_ ?_)|(simp only[go_sem])|fail)
    ·simp[zQX,EV.bel,hbt]
    ·rintro v B' n ⟨rfl,rfl,s',ps',tb',rfl,-⟩
     rw[yZK];haveI:=zRG (p:=pY nb) B3 hx3 (zWQ tb');exact ⟨rfl,by simp[EV.bel],inferInstance⟩
    rintro v B' ⟨rfl,s3,ps3,tb3,rfl,hf3,hO3⟩ - hB4
    rw[yZK] at hB4 ⊢
    haveI:=zRG (p:=pY nb) B3 hx3 (zWQ tb3);have hf4:=hf3.symm;have htot3:zVM ps3≤150*(i+1):=by
     rw[← zQD,hf3,List.length_append,List.length_append];omega
    have hYt:List.take ((zQP ps).length - j0) Y=Y:=List.take_of_length_le (by omega);have hw63:(P++w).length+Y.length≤9223372036854775807:=by rw[List.length_append];omega
    have hp63:P.length+w.length≤9223372036854775807:=by omega
    repeat' (first|(refine ⟨hw63,?_⟩)|(refine ⟨hp63,?_⟩)|(refine stp ?_;simp only[go_sem])|(refine zWV (id:=27) mixed [(0,[]),(1,[]),(3,[]),(5,[]),(6,[]),(2,[]),(4,[]),(7,[]),(8,[]),(9,[])] (by kernel_rfl) ?_;simp only[go_sem,hP,hY,hYt,hf4])|(simp only[go_sem])|(simp (disch:=omega) only[zQK])|(refine zQT ?_ ?_;focus omega))
    (refine ⟨(i+1,s3,ps3,tb3),nx4,[],?_,?_,rfl,rfl,?_,⟨?_,rfl,?_,?_,?_,?_,?_⟩⟩;rotate_left;(focus (simp only[];omega));(focus (simp[go_sem,zQS,hbt,hbbt]));(focus (omega));(focus simp);(focus (simp));(focus (simp only[];omega));(focus (simp));(focus (simp));(try simp only[]))
    exact ⟨by omega,htot3,hO3⟩
  ·have hto:=told_c (stT B3 x (zWQ tb)) G hG s hpk ps tb hone hxz hbz;have hgo2:¬ (i:Int)<eds.length∨¬ (i:Int)<8:=by omega
   repeat' (first|refine zQQ 178406302202918905017015956715869642492395517 ?_|(refine stp ?_;simp only[go_sem,f1.2.2.2])|(refine EffW.at (hto ) [] rfl (by first|(simp[hbt,zQR hbt];done)|fail) ?_;(try simp only[go_sem]))|(refine spl (fun h=>?_) (fun h=>?_)<;>first|omega|((try simp only[zZQ,zJB]);(try simp only[go_sem,h])))|fail)
   all_goals exact xWD rfl trivial
end Go.Proofs.YtncphnpndkjkaaaGreatDoor
