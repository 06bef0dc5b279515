/-
  Own work: a part of the proof that the last text closes.
-/
import Derived.Test.YtncphnpndkjkaaaGreatDoorHf
import Derived.Test.YtncphnpndkjkaaaGreatDoorFk
namespace Go.Proofs.YtncphnpndkjkaaaGreatDoor
open Go.E
set_option linter.all false
set_option maxRecDepth 100000
set_option maxHeartbeats 16000000
def KeptP {α:Type} (k m n0:Nat) (d0:List Deferred) (G:List Gl) (F:α→List (Nat × EV)) (B:α→List (Nat × EO)) (N:α→Nat) (R:α→Prop):X→Fr→ES→Prop
 | .normal,f,t=>∃ a k0 q,R a∧(f.n,f.ds)=(n0,d0)∧t.gl=G∧zQS (f.keep m) (renF (nam k0 q) (F a))∧NewN k t (B a) (N a) k0 q
 | _,_,_=>False
theorem zBY {α:Type} {P:Program} {k m:Nat} {x y:Code} {Q Q2:X→Fr→ES→Prop} {fr:Fr} {s:ES} {n0:Nat} {d0:List Deferred} {G:List Gl} {F:α→List (Nat × EV)} {B:α→List (Nat × EO)} {N:α→Nat} {R:α→Prop} (h2:∀ a,R a→ESem P k y Q ⟨F a,.unk,n0,d0⟩ ⟨B a,N a,G⟩) (hb:∀ a,R a→zWP (N a) (F a))
  (h1:ESem P k x (KeptP k m n0 d0 G F B N R) fr s):ESem P k x (yBQ (xYG P k m y Q) Q2) fr s:=by
 refine ESem.mono h1 fun e f t h=>?_
 cases e with
 | normal=>
   obtain ⟨a,k0,q,hR,hn,hG,hw,hN⟩:=h;obtain ⟨e1,e2⟩:=Prod.mk.inj hn;show ESem P k y Q (f.keep m) t;refine yHZ (F a) (B a) (N a) k0 q hw (hb a hR) hN ?_;rw[hG,show (f.keep m).n=n0 from e1,show (f.keep m).ds=d0 from e2];exact h2 a hR
 | exit i=>exact h.elim
 | goto i=>exact h.elim
 | ret=>exact h.elim
 | pan v=>exact h.elim
theorem esem_share {α:Type} {P:Program} {k m1 m2:Nat} {x y a1 a2 a3 a4 a5 a6 a7 a8 a9 w u:Code} {Q Q2 Q3:X→Fr→ES→Prop} {fr:Fr} {s:ES} (m:Nat) (F:α→List (Nat × EV)) (B:α→List (Nat × EO)) (N:α→Nat) (R:α→Prop)
  (T:∀ a,R a→ESem P k w (yBQ (xYG P k m u Q) Q) ⟨F a,.unk,fr.n,fr.ds⟩ ⟨B a,N a,s.gl⟩)
  (h:(∀ a,R a→ESem P k w (yBQ (xYG P k m u Q) Q) ⟨F a,.unk,fr.n,fr.ds⟩ ⟨B a,N a,s.gl⟩)→ESem P k x (yBQ (xYG P k m1 y (yBQ (xYG P k m2 (.seq a1 (.seq a2 (.seq a3 (.seq a4 (.seq a5 (.seq a6 (.seq a7 (.seq a8 (.seq (.seq a9 w) u))))))))) Q) Q3)) Q2) fr s) :
  ESem P k x (yBQ (xYG P k m1 y (yBQ (xYG P k m2 (.seq a1 (.seq a2 (.seq a3 (.seq a4 (.seq a5 (.seq a6 (.seq a7 (.seq a8 (.seq (.seq a9 w) u))))))))) Q) Q3)) Q2) fr s:=h T
structure InZ where
 OPS:List Pt
 OPL:List PL
 CS:List Cell
 EROW:List EV
 cX:Nat
 BLK:Int
 BEH:EV
 bl:List PL
variable {p:Gp} (B:List (Nat × EO)) {t:Nat}
theorem tins_c (G:List Gl) (s:Gs) [Big t] [hS0:StL p B t] (hp:p.ok) (ho:s.over=false) (hs:GsOK p s) (hr:ovl s.put 64 8=zU 8) (c:Nat) (hc1:1≤c) (hc2:c≤62) (l:List TP) (hl:Chain p s c l) (hn:l.length≤p.n) (hnd:(l.map (·.1)).Nodup) (i:Nat) (hi:i≤tot (l.map zWM)) (ins:List Cell) (v:EV) (hv:RowZ B t v ins) (hi1:1≤ins.length) (hi2:ins.length≤1000000) (hic:∀ x∈ins,x.length=c) :
  EffR G Tryz.prog 154 [.ptr (some ⟨0,0⟩),.int .u32 (zWQ l),.int .i64 c,.int .i64 i,v] (gnd p s B) t (fun v bl nx=>∃ B' s',bl=gnd p s' B'∧StL p B' nx∧Ext B t B' nx ∧
   match zVJ p s (zXB (248 / c) [] (zJX (248 / c) (l.map zWM) i ins)) with
   | (s1,none)=>v=.tuple [.int .u32 0,.int .i64 7]∧s'=s1
   | (s1,some l1)=>v=.tuple [.int .u32 (yDP l1),.int .i64 0]∧WrA p (zKD (zZR l1) s1 (l.map zWM)) s' c l1 l1.length):=by
 have h1:=hp.big;have h2:=hp.fit;have hlm:(l.map zWM).length=l.length:=List.length_map ..;have htb:tot (l.map zWM)≤248*l.length:=yYY (Chain.fills hl);have hfill:=fill_c G c hc1 hc2;obtain ⟨ri,oi,capi,Ci,zi,wi,fi,rfl,hrowi,hrli,hcvi⟩:=hv;refine EffR.enter fun Q hQ=>?_
 refine zQV 150 [.tmp 10,.tmp 11] Tryz.func154 ?_;have hpi:=xPX (fill:=248 / c) (c:=c) (by rw[Nat.le_div_iff_mul_le (by omega)];omega) hi hic (fun y hy=>by
  obtain ⟨x,hx,rfl⟩:=List.mem_map.1 hy;obtain ⟨k,hk,e⟩:=List.mem_iff_getElem.1 hx;have:=hl.get (k:=k) (x:=x) (by rw[← e];exact List.getElem?_eq_getElem hk);exact ⟨this.pos,this.fill,this.len⟩) (fun y hy=>by
  obtain ⟨x,hx,rfl⟩:=List.mem_map.1 hy;exact Int.natCast_nonneg _)
 obtain ⟨hpi1,hpi2,hpi3,hpi4,hpi5⟩:=hpi
 repeat' (first|refine zQQ 2658455991570437410061774165127429151 ?_|(refine stp ?_;simp only[go_sem])|(refine EffR.at (yPP B G s hp ho hr c hc1 hc2 l hl hn) ?_)|(simp only[go_sem])|fail)
 rintro v bl nx ⟨B1,v1,ps,rfl,rfl,hS1,he1,hps,hout,hreg⟩
 haveI:=hS1;haveI:Big nx:=⟨hS1.big⟩;have h3:=he1.le;have hrit:=hrowi.lt;obtain ⟨r,rfl,hat,hrn⟩:=hout;have hlen:=hps.length
 repeat' (first|refine zQQ 2658455991570437410061774165127429151 ?_|refine zQW ?_|(refine stp ?_;simp only[go_sem])|fail)
 refine zQM (fun z:Nat × List EV × List (Nat × EO) × Nat=>[(0,.ptr (some ⟨0,0⟩)),(1,.int .u32 (zWQ l)),(2,.int .i64 c),(3,.int .i64 i),(12,zVW r ps.length),(14,zVW z.2.2.2 z.2.1.length),(38,.slice (some ⟨ri,oi⟩) ins.length capi),(39,.int .i64 ins.length),(40,.int .i64 z.1)]) (fun z:Nat × List EV × List (Nat × EO) × Nat=>zVY z.2.2.2 z.2.1 56 1++stB (zXG p s) z.2.2.1) (fun z:Nat × List EV × List (Nat × EO) × Nat=>z.2.2.2+1) (fun z:Nat × List EV × List (Nat × EO) × Nat=>z.1≤ins.length∧StL p z.2.2.1 z.2.2.2∧Ext B1 nx z.2.2.1 z.2.2.2∧CellsV z.2.2.1 z.2.2.2 z.2.1 (ins.take z.1)) (fun z:Nat × List EV × List (Nat × EO) × Nat=>ins.length - z.1) ((0,[],B1,nx)) ?_ ?_ ?_ ?_ ?_
 ·rintro ⟨j,evs2,B2,T2⟩ ⟨hj,hS2,he2,hev2⟩
  haveI:=hS2;have h5:nx≤T2:=he2.le;refine ⟨by simp[zWP,show r<T2+1 by omega,show ri<T2+1 by omega],?_,by show t≤T2+1;omega⟩;rw[zXS (by simp) (zQJ (by simp) _ hev2.below),Bg.blBelow];trivial
 ·exact ⟨Nat.zero_le _,hS1,Ext.refl _ _,trivial⟩
 ·simp only[go_sem,zQS,zWY,List.length_nil]
 ·show zWG _ (stB (zXG p s) B1);simp only[go_sem]
 ·rintro ⟨j,evs2,B2,T2⟩ ⟨hj,hS2,he2,hev2⟩
  simp only at hj hS2 he2 hev2 ⊢
  haveI:=hS2;haveI:Big T2:=⟨hS2.big⟩;have h5:nx≤T2:=he2.le;have heB:=he1.trans he2;have hevl:=hev2.length;rw[List.length_take] at hevl
  have hre0:∀ q,zZG (nam T2 q) evs2=evs2:=fun q=>zWB (i:=0) hev2.below
  have hbe:∀ i,zQX (T2+i) evs2=True:=fun i=>eq_true (zQJ (Nat.le_add_right _ _) _ hev2.below)
  have hrT:r<T2:=by omega
  have hriT:ri<T2:=by omega
  rcases Nat.lt_or_ge j ins.length with hjl | hjl
  ·have hR:=(hrowi.mono heB).f (p:=p);obtain ⟨v,hv1,d,od,capd,D,zd,wd,fd,rfl,hd1,hd2,hd3⟩:=hcvi.get (i:=j) (c:=ins[j]) (by simp[hjl]);have hD:=(hd1.mono heB).f (p:=p);have hcj:=hic _ (List.getElem_mem hjl);rw[List.getElem?_take,if_pos hjl,List.getElem?_drop] at hv1
   have hcx:=clone_c G D ins[j] zd fd od _ capd wd rfl hd3 hd2 (by omega) (by omega);have hsn:=hev2.snoc (p:=p) ins[j] (by omega);rw[hcj] at hsn
   repeat' (first|refine zQQ 2658455991570437410061774165127429151 ?_|refine zQW ?_|(refine stp ?_;simp only[go_sem,hR,hv1,hcj])|(refine Eff.atR (hcx ) rfl [d] rfl (by simp[hD];omega) rfl ?_;(try simp only[go_sem,hcj]))|(refine zJJ (c:=evs2) (by omega) (by first|(simp;done)|fail) (by first|(simp;done)|fail) (by first|(simp;done)|fail) (by omega) (by first|(simp;done)|fail) (by first|(simp[EV.one];done)|fail) (by simp;omega) ?_;(try simp only[go_sem]))|(simp (disch:=omega) only[zQK])|(refine spl (fun h=>?_) (fun h=>?_)<;>first|omega|try simp only[go_sem,h])|(refine zQT ?_ ?_;focus omega))
   (refine ⟨(j+1,evs2++[.slice (some ⟨T2,0⟩) c c],(T2,.cells (zQZ ins[j]) 5 1 true 0)::B2,T2+1),T2,[T2+1,T2+3],?_,?_,rfl,rfl,?_,⟨?_,rfl,?_,?_,?_,?_,?_⟩⟩;rotate_left;(focus (simp only[];omega));(focus (simp[go_sem,zQS,zZK,hrT,hriT,List.length_append]));(focus (omega));(focus simp);(focus (simp));(focus (simp only[];omega));(focus (simp[Nat.add_assoc,hbe,zBT]));(focus (simp[hre0,zBT]));(try simp only[]))
   refine ⟨hjl,hsn.1,he2.trans hsn.2.1,?_⟩;rw[List.take_succ,List.getElem?_eq_getElem hjl];exact hsn.2.2
  ·obtain rfl:j=ins.length:=by omega
   have hps2:=hps.mono he2;have hcount:=EffR.toW _ (count_c (p:=p) B2 G s ps (l.map zWM) hps2 (zVW r ps.length) ⟨r,rfl,fun hn=>(hat hn).mono he2,hrT⟩ (by omega) (by omega));have hel:evs2.length=ins.length:=by omega
   have hae2:=zWZ (b:=T2) (n:=ins.length) (by omega);have hone2:=hev2.one;have hti:List.take ins.length evs2=evs2:=List.take_of_length_le (by omega);have i0:(ins.length=0)=False:=eq_false (by omega);rw[hel,hae2,zXR (b:=T2) (by omega),List.cons_append,List.nil_append]
   repeat' (first|(refine zZF 12 ?_)|refine zQQ 2658455991570437410061774165127429151 ?_|(refine stp ?_;simp only[go_sem])|(refine spl (fun h=>?_) (fun h=>?_)<;>first|omega|try simp only[go_sem,h])|fail)
   refine ⟨?_⟩;have HB:∀ z:InZ,(z.BEH=.slice none 0 0∨∃ j n,z.BEH=.slice (some ⟨r,j⟩) n n)→zWP (T2+2) [(0,.ptr (some ⟨0,0⟩)),(2,.int .i64 c),(12,zVW r ps.length),(17,zVW (T2+1) z.OPS.length),(19,z.BEH),(24,.slice (some ⟨T2,0⟩) z.CS.length z.cX),(25,.int .i64 (248 / c:Nat)),(26,.int .i64 z.BLK)]:=by
    rintro z (h | ⟨j,n,h⟩)<;>simp[zWP,h,show r<T2+2 by omega]
   refine esem_share 2658455991570437410061774165127429151 (fun z:InZ=>[(0,.ptr (some ⟨0,0⟩)),(2,.int .i64 c),(12,zVW r ps.length),(17,zVW (T2+1) z.OPS.length),(19,z.BEH),(24,.slice (some ⟨T2,0⟩) z.CS.length z.cX),(25,.int .i64 (248 / c:Nat)),(26,.int .i64 z.BLK)]) (fun z=>zVY (T2+1) (ptC z.OPS) 262 3++stB (zXG p s) ((T2,.cells z.EROW 56 0 true 0)::B2)) (fun _=>T2+2)
    (fun z=>StL p ((T2,.cells z.EROW 56 0 true 0)::B2) (T2+1)∧Ext B2 T2 ((T2,.cells z.EROW 56 0 true 0)::B2) (T2+1)∧RowV ((T2,.cells z.EROW 56 0 true 0)::B2) (T2+1) (.slice (some ⟨T2,0⟩) z.CS.length z.cX) z.CS∧PsV B2 T2 z.OPS z.OPL∧z.OPS.length≤1000000∧(1≤z.CS.length∧z.CS.length≤60000000)∧z.OPL++zVZ (248 / c) z.CS.length z.BLK z.CS++z.bl=zJX (248 / c) (l.map zWM) i ins ∧
     ((z.BEH=.slice none 0 0∧z.bl=[])∨∃ k,k<ps.length∧z.BEH=.slice (some ⟨r,(k+1)*3⟩) (ps.length - (k+1)) (ps.length - (k+1))∧z.bl=(l.map zWM).drop (k+1))) ?_ (fun TAIL=>?_)
   ·rintro ⟨OPS,OPL,CSv,EROW,cX,BLK,BEH,bl⟩ ⟨hS5,he5,hrv5,hPO2,hOPS,⟨hCS,hCSl⟩,HPL3,hbeh⟩
    simp only at hS5 he5 hrv5 hPO2 hOPS hCS hCSl HPL3 hbeh ⊢
    have hPO:=hPO2.mono he5;obtain ⟨T3,hT3⟩:∃ X,X=T2+1:=⟨_,rfl⟩;have hBb:∀ j,BEH.bel (T3+j)=True:=fun j=>by rcases hbeh with ⟨h,-⟩ | ⟨k,-,h,-⟩<;>rw[h]<;>simp[EV.bel]<;>omega
    have hBr:∀ q,BEH.ren (nam T3 q)=BEH:=fun q=>by
     have hrT4:r<T3:=by omega
     rcases hbeh with ⟨h,-⟩ | ⟨k,-,h,-⟩<;>rw[h]<;>simp[EV.ren,nam,hrT4]
    repeat' (first|refine zQW ?_|(simp only[go_sem])|fail)
    have hT211:11≤T2:=by have:=hS2.big;omega
    rw[show (T2,EO.cells EROW 56 0 true 0)::stB (zXG p s) B2=stB (zXG p s) ((T2,EO.cells EROW 56 0 true 0)::B2) by rw[zXK,if_neg (by omega)]]
    try rw[show T2+2=T3+1 by omega,← hT3]
    obtain ⟨B5,hB5⟩:∃ X,X=(T2,EO.cells (EROW) 56 0 true 0)::B2:=⟨_,rfl⟩;rw[← hT3] at hS5 he5 hrv5 hPO
    rw[← hB5] at hS5 he5 hrv5 hPO ⊢
    have hT2:T2<T3:=by omega
    have hrT3:r<T3:=by omega
    haveI:=hS5;haveI:Big T3:=⟨hS5.big⟩;refine zQM (fun z:Nat × List Pt × Int × List PL=>[(0,.ptr (some ⟨0,0⟩)),(2,.int .i64 c),(12,zVW r ps.length),(17,zVW T3 z.2.1.length),(19,BEH),(24,.slice (some ⟨T2,z.1⟩) (CSv.length - z.1) (cX - z.1)),(25,.int .i64 (248 / c:Nat)),(26,.int .i64 z.2.2.1)]) (fun z:Nat × List Pt × Int × List PL=>zVY T3 (ptC z.2.1) 262 3++stB (zXG p s) B5) (fun z:Nat × List Pt × Int × List PL=>T3+1) (fun z:Nat × List Pt × Int × List PL=>z.1≤CSv.length∧PsV B5 T3 z.2.1 z.2.2.2∧z.2.2.2++zVZ (248 / c) (CSv.length - z.1) z.2.2.1 (CSv.drop z.1)=OPL++zVZ (248 / c) CSv.length BLK CSv∧z.2.1.length≤OPS.length+z.1) (fun z:Nat × List Pt × Int × List PL=>CSv.length - z.1) ((0,OPS,BLK,OPL)) ?_ ?_ ?_ ?_ ?_
    ·rintro ⟨off,ops,b,opl⟩ ⟨ho1,ho2,ho3,ho4⟩
     refine ⟨by simp[zWP,show r<T3+1 by omega,show T2<T3+1 by omega,hBb],?_,by show t≤T3+1;omega⟩;rw[zXS (by simp) (zQJ (by simp) _ ho2.below)];rw[Bg.blBelow];trivial
    ·exact ⟨Nat.zero_le _,hPO,by simp,by simp⟩
    ·simp only[go_sem,zQS,Nat.sub_zero]
    ·have hx:=zRJ (p:=p) (B':=B5) (T:=T3) (ty:=262) (k:=3) (n:=OPS.length) (c:=ptC OPS) (zQJ (Nat.le_succ _) _ (PsV.below hPO)) (by rw[zQF];omega) (by omega);haveI:=hx.1;show zWG ⟨zVY T3 (ptC OPS) 262 3++stB (zXG p s) B5,T3+1,_⟩ (zVY T3 (ptC OPS) 262 3++stB (zXG p s) B5);rw[← zTN];exact lessL_self (Bg.keys (T3+1)) (Bg.below (t:=T3+1))
    ·rintro ⟨off,ops,b,opl⟩ ⟨ho1,ho2,ho3,ho4⟩
     simp only at ho1 ho2 ho3 ho4 ⊢
     obtain ⟨r5,o5,c5,C5,w5,f5,e5,hrow5,hrl5,hcv5⟩:=hrv5;simp only[EV.slice.injEq,Option.some.injEq,true_and] at e5
     obtain ⟨⟨rfl,rfl⟩,e5c⟩:=e5;obtain rfl:cX=c5:=by omega
     have hR5:=hrow5.f (p:=p);have hpco:(ptC ops).length=ops.length*3:=by rw[zQF,Nat.mul_comm]
     have hopone:=ho2.one;have hob:ops.length≤70000000:=Nat.le_trans ho4 (by have:=hOPS;omega);have hopl:=ho2.length
     rcases Nat.lt_or_ge off CSv.length with hol | hol
     ·obtain ⟨m,hm⟩:∃ m,min (248 / c) (CSv.length - off)=m:=⟨_,rfl⟩;have hf1:1≤248 / c:=by rw[Nat.le_div_iff_mul_le (by omega)];omega
      have e1:min ((248 / c:Nat):Int) ((CSv.length - off:Nat):Int)=m:=by omega
      repeat' (first|refine zQQ 2658455991570437410061774165127429151 ?_|refine zQW ?_|(refine stp ?_;simp only[go_sem,hR5,e1,Int.toNat_natCast])|(refine zJJ (c:=ptC ops) (by omega) (by omega) (by first|(simp;done)|fail) (by first|(simp;done)|fail) (by omega) (by first|(simp;done)|fail) (by first|(simp[EV.one];done)|fail) (by simp;omega) ?_;(try simp only[go_sem]))|(refine spl (fun h=>?_) (fun h=>?_)<;>first|omega|try simp only[go_sem,h])|(refine zQT ?_ ?_;focus omega))
      have hrpo:∀ q,zZG (nam T3 q) (ptC ops)=ptC ops:=fun q=>zWB (i:=0) ho2.below
      have hbpo:∀ k,zQX (T3+k) (ptC ops)=True:=fun k=>eq_true (zQJ (Nat.le_add_right _ _) _ ho2.below)
      (refine ⟨(off+m,ops++[⟨b,.slice (some ⟨T2,off⟩) m m,false⟩],-1,opl++[⟨b,(CSv.drop off).take (248 / c),false⟩]),T3,[T3+2],?_,?_,rfl,rfl,?_,⟨?_,rfl,?_,?_,?_,?_,?_⟩⟩;rotate_left;(focus (simp only[];omega));(focus (simp[go_sem,zQS,hT2,hrT3,hBr,zZK,List.length_append,Nat.sub_sub]));(focus (omega));(focus simp);(focus (simp));(focus (simp only[];omega));(focus (simp[zWS,zJG,zZV,hbpo];omega));(focus (simp[hT2,zWS,zJG,zZV,hrpo]));(try simp only[]))
      have hcm:((CSv.drop off).take (248 / c)).length=m:=by rw[List.length_take,List.length_drop];omega
      have hcm2:(CSv.drop off).take (248 / c)=(CSv.drop off).take m:=by
       rw[← hm]
       rcases Nat.le_total (248 / c) (CSv.length - off) with w | w
       ·rw[Nat.min_eq_left w]
       ·rw[Nat.min_eq_right w,List.take_of_length_le (by rw[List.length_drop];exact w),List.take_of_length_le (by rw[List.length_drop];exact Nat.le_refl _)]
      refine ⟨by omega,ho2.append ⟨⟨rfl,rfl,T2,off,m,C5,w5,f5,by rw[hcm],hrow5,⟨by rw[hcm];omega,by rw[hcm];exact Nat.le_refl _⟩,?_⟩,trivial⟩,?_,by rw[List.length_append];simp at ho4 ⊢;omega⟩
      ·rw[hcm,hcm2];have:=(hcv5.drop off).take m;rw[List.drop_zero,List.drop_take,List.take_take,Nat.min_eq_left (by omega)] at this
       exact this
      ·have e2:CSv.drop off ≠ []:=fun e=>by have:=congrArg List.length e;rw[List.length_drop] at this;simp at this;omega
       refine Eq.trans ?_ ho3;rw[show CSv.length - off=(CSv.length - off - 1)+1 by omega];simp only[zVZ,if_neg e2,List.append_assoc,List.singleton_append,List.cons.injEq,true_and,List.append_cancel_left_eq,List.drop_drop];have e3:CSv.drop (off+m)=CSv.drop (off+248 / c):=by
        rcases Nat.le_total (248 / c) (CSv.length - off) with w | w
        ·rw[← hm,Nat.min_eq_left w]
        ·rw[List.drop_of_length_le (by omega),List.drop_of_length_le (by omega)]
       rw[e3];exact yTH _ hf1 _ _ _ _ (by rw[List.length_drop];omega) (by rw[List.length_drop];omega)
     ·obtain rfl:off=CSv.length:=by omega
      rw[Nat.sub_self] at ho3
      simp only[zVZ,List.append_nil] at ho3
      have hpos:0<ops.length:=by
       rw[hopl,ho3,List.length_append];have e:CSv.length=CSv.length - 1+1:=by omega
       rw[e];simp only[zVZ];rw[if_neg (fun e=>by have h1:=hCS;rw[e] at h1;simp at h1),List.length_cons];omega
      rcases hbeh with ⟨rfl,rfl⟩ | ⟨k,hkl,rfl,rfl⟩
      ·skip
       have hPE:opl=zJX (248 / c) (l.map zWM) i ins:=by rw[ho3,← HPL3,List.append_nil]
       have hAE:=zWZ (b:=T3) (n:=ops.length) hpos;have hAB:zVY T3 (ptC ops) 262 3++stB (zXG p s) B5=_:=congrArg (· ++ stB (zXG p s) B5) (zXR (b:=T3) (c:=ptC ops) (t:=262) (z:=3) (by omega));simp only[List.cons_append,List.nil_append] at hAB
       rw[hAE,hAB]
       repeat' (first|refine zQQ 2658455991570437410061774165127429151 ?_|(refine stp ?_;simp only[go_sem,zRQ,hpco])|(refine spl (fun h=>?_) (fun h=>?_)<;>first|omega|try simp only[go_sem,h])|(refine zQT ?_ ?_;focus omega))
       have hf248:248 / c≤248:=Nat.div_le_self _ _;have hplen:=ho2.length;have hx:=zRJ (p:=p) (B':=B5) (T:=T3) (ty:=262) (k:=3) (n:=(ops).length) (c:=ptC (ops)) (zQJ (Nat.le_succ _) _ (PsV.below ho2)) (by rw[zQF];omega) (by omega);haveI:=hx.1;haveI:Big (T3+1):=⟨hx.1.big⟩;rw[hPE] at ho2 hplen
       have hset:=yJT (p:=p) (zVY T3 (ptC (ops)) 262 3++B5) G s (248 / c) hf248 (ops) _ (PsV.mono hx.2.1 ho2) (zVW T3 (ops).length) hx.2.2.out (fun y hy=>⟨(hpi1 y hy).1,(hpi1 y hy).2.1⟩) (by omega);rw[hAE] at hset
       repeat' (first|(rw[← hAB,← zTN];refine EffR.at hset ?_)|(simp only[go_sem])|fail)
       have HX2:=hx.2.1
       rintro v bl nx2 ⟨B6,ops2,rfl,hS6,he6,hop2,r2,rfl,hat2,hr2,hr2'⟩
       haveI:=hS6;haveI:Big nx2:=⟨hS6.big⟩;have h6:=he6.le;have heA:=he2.trans (he5.trans (Ext.trans HX2 he6));have hst:=zPP (248 / c) (zJX (248 / c) (l.map zWM) i ins);rw[zBQ] at hpi3
       have hmem:∀ z∈l.map zWM,∃ b:Nat,z.b=b∧b<p.n∧b∈s.taken:=fun z hz=>by
        obtain ⟨x,hx,rfl⟩:=List.mem_map.1 hz;obtain ⟨k,hk,e⟩:=List.mem_iff_getElem.1 hx;have:=hl.get (k:=k) (x:=x) (by rw[← e];exact List.getElem?_eq_getElem hk);exact ⟨x.1,rfl,this.lt,this.use⟩
       have hcar:=yFZ B6 G s hp ho hs.least c hc1 hc2 (ps) (l.map zWM) (hps.mono heA) r (fun hn=>(hat hn).mono heA) (by omega) ops2 (zXB (248 / c) [] (zJX (248 / c) (l.map zWM) i ins)) hop2 r2 hat2 hr2 (by omega)
        (zJY _ (fun y=>y.b = -1∨∃ b:Nat,y.b=b∧b<p.n∧b∈s.taken) (fun q y _ q1 q2=>by simp only[zTM];split<;>assumption) _ (fun y hy=>(hpi2 y hy).imp id fun hz=>by
         obtain ⟨z,q1,q2⟩:=hz;rw[q2];exact hmem z q1))
        (fun y hy=>by obtain ⟨b,q1,-,q3⟩:=hmem y hy;exact ⟨b,q1,q3⟩) (by rw[show zZR (l.map zWM)=l.map (·.1) by simp[zZR,zWM]];exact hnd)
        (zJY _ (fun y=>1≤y.cs.length∧y.cs.length≤248 / c∧∀ x∈y.cs,x.length=c) (fun q y hf q1 q2=>by
         simp only[zTM,List.length_append];refine ⟨by omega,hf,fun x hx=>?_⟩
         rcases List.mem_append.1 hx with w | w
         ·exact q1.2.2 x w
         ·exact q2.2.2 x w) _ hpi1)
        (by have:=zSQ (248 / c) (zJX (248 / c) (l.map zWM) i ins);omega) (by omega)
        (fun s1 l1 hf=>by
         obtain ⟨nw,-,-,q3,-⟩:=zPT _ s hs (fun b hb=>by
          obtain ⟨x,hx,rfl⟩:=List.mem_map.1 ((hst.1.trans hpi3).subset hb);obtain ⟨b,q1,-,q3⟩:=hmem (zWM x) (List.mem_map.2 ⟨x,hx,rfl⟩);have q4:x.1=b:=by have:(x.1:Int)=b:=q1;omega
          rw[q4];exact q3) ((hst.1.trans hpi3).nodup hnd) s1 l1 hf
         exact q3)
       repeat' (first|(refine EffR.at hcar ?_)|(simp only[go_sem])|fail)
       rintro v bl nx3 ⟨B7,s',rfl,rfl,hS7,hsame,hres⟩
       have hxt:Ext B t B7 nx3:=⟨by omega,fun i hi=>(hsame i (by omega)).trans ((he1.trans heA).same i hi)⟩
       cases hfg:zVJ p s (zXB (248 / c) [] (zJX (248 / c) (l.map zWM) i ins)) with
       | mk s1 o=>
         rw[hfg] at hres
         cases o with
         | none=>
           obtain ⟨rfl,rfl⟩:=hres
           repeat' (first|(refine stp ?_;simp only[go_sem])|(simp only[go_sem])|fail)
           refine zWX hQ (by omega) (Bg.below (t:=nx3)) (by simp[EV.bel]) ⟨B7,_,rfl,hS7,hxt,?_⟩;rw[hfg];exact ⟨rfl,rfl⟩
         | some l1=>
           obtain ⟨rfl,hw⟩:=hres
           repeat' (first|(refine stp ?_;simp only[go_sem])|(simp only[go_sem])|fail)
           refine zWX hQ (by omega) (Bg.below (t:=nx3)) (by simp[EV.bel]) ⟨B7,_,rfl,hS7,hxt,?_⟩;rw[hfg];exact ⟨rfl,hw⟩
      ·skip
       have hpc:=zQF ps;have hf248:248 / c≤248:=Nat.div_le_self _ _;have hAE:=zWZ (b:=T3) (n:=ops.length) hpos;have hAB:zVY T3 (ptC ops) 262 3++stB (zXG p s) B5=_:=congrArg (· ++ stB (zXG p s) B5) (zXR (b:=T3) (c:=ptC ops) (t:=262) (z:=3) (by omega));simp only[List.cons_append,List.nil_append] at hAB
       have hAm:=((hat (List.ne_nil_of_length_pos (by omega))).mono (he2.trans he5)).f (p:=p);have hbl:((k+1)*3+(ps.length - (k+1))*3≤(ptC ps).length)=True:=eq_true (by omega);have hbl2:((k+1)*3≤(ptC ps).length)=True:=eq_true (by omega);have hbt:List.take ((ps.length - (k+1))*3) (List.drop ((k+1)*3) (ptC ps))=ptC (ps.drop (k+1)):=by
        have e:ps=ps.take (k+1)++ps.drop (k+1):=(List.take_append_drop (k+1) ps).symm
        conv=>lhs;rw[e,zWS]
        rw[List.drop_left' (by rw[zQF,List.length_take];omega),List.take_of_length_le (by rw[zQF];simp;omega)]
       have hbo:=(hps.drop (k+1)).one;have hblen:(ptC (ps.drop (k+1))).length=(ps.length - (k+1))*3:=by rw[zQF];simp;omega
       rw[hAE,hAB]
       rcases Nat.eq_zero_or_pos (ps.length - (k+1)) with hb0 | hb0
       ·have hPE:opl=zJX (248 / c) (l.map zWM) i ins:=by
         rw[ho3,← HPL3,List.drop_of_length_le (by rw[List.length_map];omega),List.append_nil]
        rw[hb0] at hbl ⊢
        rw[Nat.zero_mul,Nat.add_zero] at hbl
        repeat' (first|refine zQQ 2658455991570437410061774165127429151 ?_|(refine stp ?_;simp only[go_sem,hAm,hbl,zRQ,hpco,List.length_nil,Nat.zero_mul,Nat.add_zero])|(refine spl (fun h=>?_) (fun h=>?_)<;>first|omega|try simp only[go_sem,h])|(refine zQT ?_ ?_;focus omega))
        have hf248:248 / c≤248:=Nat.div_le_self _ _;have hplen:=ho2.length;have hx:=zRJ (p:=p) (B':=B5) (T:=T3) (ty:=262) (k:=3) (n:=(ops).length) (c:=ptC (ops)) (zQJ (Nat.le_succ _) _ (PsV.below ho2)) (by rw[zQF];omega) (by omega);haveI:=hx.1;haveI:Big (T3+1):=⟨hx.1.big⟩;rw[hPE] at ho2 hplen
        have hset:=yJT (p:=p) (zVY T3 (ptC (ops)) 262 3++B5) G s (248 / c) hf248 (ops) _ (PsV.mono hx.2.1 ho2) (zVW T3 (ops).length) hx.2.2.out (fun y hy=>⟨(hpi1 y hy).1,(hpi1 y hy).2.1⟩) (by omega);rw[hAE] at hset
        repeat' (first|(rw[← hAB,← zTN];refine EffR.at hset ?_)|(simp only[go_sem])|fail)
        have HX2:=hx.2.1
        rintro v bl nx2 ⟨B6,ops2,rfl,hS6,he6,hop2,r2,rfl,hat2,hr2,hr2'⟩
        haveI:=hS6;haveI:Big nx2:=⟨hS6.big⟩;have h6:=he6.le;have heA:=he2.trans (he5.trans (Ext.trans HX2 he6));have hst:=zPP (248 / c) (zJX (248 / c) (l.map zWM) i ins);rw[zBQ] at hpi3
        have hmem:∀ z∈l.map zWM,∃ b:Nat,z.b=b∧b<p.n∧b∈s.taken:=fun z hz=>by
         obtain ⟨x,hx,rfl⟩:=List.mem_map.1 hz;obtain ⟨k,hk,e⟩:=List.mem_iff_getElem.1 hx;have:=hl.get (k:=k) (x:=x) (by rw[← e];exact List.getElem?_eq_getElem hk);exact ⟨x.1,rfl,this.lt,this.use⟩
        have hcar:=yFZ B6 G s hp ho hs.least c hc1 hc2 (ps) (l.map zWM) (hps.mono heA) r (fun hn=>(hat hn).mono heA) (by omega) ops2 (zXB (248 / c) [] (zJX (248 / c) (l.map zWM) i ins)) hop2 r2 hat2 hr2 (by omega)
         (zJY _ (fun y=>y.b = -1∨∃ b:Nat,y.b=b∧b<p.n∧b∈s.taken) (fun q y _ q1 q2=>by simp only[zTM];split<;>assumption) _ (fun y hy=>(hpi2 y hy).imp id fun hz=>by
          obtain ⟨z,q1,q2⟩:=hz;rw[q2];exact hmem z q1))
         (fun y hy=>by obtain ⟨b,q1,-,q3⟩:=hmem y hy;exact ⟨b,q1,q3⟩) (by rw[show zZR (l.map zWM)=l.map (·.1) by simp[zZR,zWM]];exact hnd)
         (zJY _ (fun y=>1≤y.cs.length∧y.cs.length≤248 / c∧∀ x∈y.cs,x.length=c) (fun q y hf q1 q2=>by
          simp only[zTM,List.length_append];refine ⟨by omega,hf,fun x hx=>?_⟩
          rcases List.mem_append.1 hx with w | w
          ·exact q1.2.2 x w
          ·exact q2.2.2 x w) _ hpi1)
         (by have:=zSQ (248 / c) (zJX (248 / c) (l.map zWM) i ins);omega) (by omega)
         (fun s1 l1 hf=>by
          obtain ⟨nw,-,-,q3,-⟩:=zPT _ s hs (fun b hb=>by
           obtain ⟨x,hx,rfl⟩:=List.mem_map.1 ((hst.1.trans hpi3).subset hb);obtain ⟨b,q1,-,q3⟩:=hmem (zWM x) (List.mem_map.2 ⟨x,hx,rfl⟩);have q4:x.1=b:=by have:(x.1:Int)=b:=q1;omega
           rw[q4];exact q3) ((hst.1.trans hpi3).nodup hnd) s1 l1 hf
          exact q3)
        repeat' (first|(refine EffR.at hcar ?_)|(simp only[go_sem])|fail)
        rintro v bl nx3 ⟨B7,s',rfl,rfl,hS7,hsame,hres⟩
        have hxt:Ext B t B7 nx3:=⟨by omega,fun i hi=>(hsame i (by omega)).trans ((he1.trans heA).same i hi)⟩
        cases hfg:zVJ p s (zXB (248 / c) [] (zJX (248 / c) (l.map zWM) i ins)) with
        | mk s1 o=>
          rw[hfg] at hres
          cases o with
          | none=>
            obtain ⟨rfl,rfl⟩:=hres
            repeat' (first|(refine stp ?_;simp only[go_sem])|(simp only[go_sem])|fail)
            refine zWX hQ (by omega) (Bg.below (t:=nx3)) (by simp[EV.bel]) ⟨B7,_,rfl,hS7,hxt,?_⟩;rw[hfg];exact ⟨rfl,rfl⟩
          | some l1=>
            obtain ⟨rfl,hw⟩:=hres
            repeat' (first|(refine stp ?_;simp only[go_sem])|(simp only[go_sem])|fail)
            refine zWX hQ (by omega) (Bg.below (t:=nx3)) (by simp[EV.bel]) ⟨B7,_,rfl,hS7,hxt,?_⟩;rw[hfg];exact ⟨rfl,hw⟩
       ·have hPE:opl++(l.map zWM).drop (k+1)=zJX (248 / c) (l.map zWM) i ins:=by rw[ho3];exact HPL3
        have hb1:(ps.length - (k+1)=0)=False:=eq_false (by omega)
        repeat' (first|refine zQQ 2658455991570437410061774165127429151 ?_|(refine stp ?_;simp only[go_sem,hAm,hbl,hbt,hbo,hb1,hblen,hpco])|(refine spl (fun h=>?_) (fun h=>?_)<;>first|omega|try simp only[go_sem,h])|(refine zQT ?_ ?_;focus omega))
        obtain ⟨T4,hT4⟩:∃ X,X=T3+2:=⟨_,rfl⟩;have hti3:List.take (ops.length*3) (ptC ops)=ptC ops:=List.take_of_length_le (by omega);have hlo:(ops++ps.drop (k+1)).length=ops.length+(ps.length - (k+1)):=by rw[List.length_append,List.length_drop]
        have hpo:0<ops.length+(ps.length - (k+1)):=by omega
        have hpd:=(hps.mono (he2.trans he5)).drop (k+1);have hop4:=PsV.append ho2 hpd;have hx:=StL.above (p:=p) (B:=B5) (t:=T3) (t':=T4) (X:=[(T3+1,.cells (ptC (ops++ps.drop (k+1))) 262 3 true 0)]) (by omega) (by simp) (by simp[zWN,lkp]) (by
         refine ⟨by omega,?_,trivial⟩;exact zQJ (by omega) _ (PsV.below hop4))
        rw[List.singleton_append] at hx
        haveI:=hx.1;haveI:Big T4:=⟨hx.1.big⟩;have hT11:11≤T3:=hS5.big;rw[hPE] at hop4
        have hplen:=hop4.length;have hset:=yJT (p:=p) ((T3+1,.cells (ptC (ops++ps.drop (k+1))) 262 3 true 0)::B5) G s (248 / c) hf248 (ops++ps.drop (k+1)) _ (PsV.mono hx.2 hop4) (.slice (some ⟨T3+1,0⟩) (ops.length+(ps.length - (k+1))) (ops.length+(ps.length - (k+1)))) ⟨T3+1,by rw[hlo,zWZ hpo],fun _=>⟨by omega,by omega,by simp[lkp]⟩,by omega⟩ (fun y hy=>⟨(hpi1 y hy).1,(hpi1 y hy).2.1⟩) (by omega);rw[show gnd p s ((T3+1,EO.cells (ptC (ops++ps.drop (k+1))) 262 3 true 0)::B5)=(T3+1,EO.cells (ptC (ops++ps.drop (k+1))) 262 3 true 0)::stB (zXG p s) B5 by show stB _ _=_;rw[zXK,if_neg (by omega)],zWS] at hset
        rw[hti3,← hT4];have HX2:=hx.2;rw[zWS] at HX2
        refine EffR.at hset ?_
        rintro v bl nx2 ⟨B6,ops2,rfl,hS6,he6,hop2,r2,rfl,hat2,hr2,hr2'⟩
        haveI:=hS6;haveI:Big nx2:=⟨hS6.big⟩;have h6:=he6.le;have heA:=he2.trans (he5.trans (Ext.trans HX2 he6));have hst:=zPP (248 / c) (zJX (248 / c) (l.map zWM) i ins);rw[zBQ] at hpi3
        have hmem:∀ z∈l.map zWM,∃ b:Nat,z.b=b∧b<p.n∧b∈s.taken:=fun z hz=>by
         obtain ⟨x,hx,rfl⟩:=List.mem_map.1 hz;obtain ⟨k,hk,e⟩:=List.mem_iff_getElem.1 hx;have:=hl.get (k:=k) (x:=x) (by rw[← e];exact List.getElem?_eq_getElem hk);exact ⟨x.1,rfl,this.lt,this.use⟩
        have hcar:=yFZ B6 G s hp ho hs.least c hc1 hc2 (ps) (l.map zWM) (hps.mono heA) r (fun hn=>(hat hn).mono heA) (by omega) ops2 (zXB (248 / c) [] (zJX (248 / c) (l.map zWM) i ins)) hop2 r2 hat2 hr2 (by omega)
         (zJY _ (fun y=>y.b = -1∨∃ b:Nat,y.b=b∧b<p.n∧b∈s.taken) (fun q y _ q1 q2=>by simp only[zTM];split<;>assumption) _ (fun y hy=>(hpi2 y hy).imp id fun hz=>by
          obtain ⟨z,q1,q2⟩:=hz;rw[q2];exact hmem z q1))
         (fun y hy=>by obtain ⟨b,q1,-,q3⟩:=hmem y hy;exact ⟨b,q1,q3⟩) (by rw[show zZR (l.map zWM)=l.map (·.1) by simp[zZR,zWM]];exact hnd)
         (zJY _ (fun y=>1≤y.cs.length∧y.cs.length≤248 / c∧∀ x∈y.cs,x.length=c) (fun q y hf q1 q2=>by
          simp only[zTM,List.length_append];refine ⟨by omega,hf,fun x hx=>?_⟩
          rcases List.mem_append.1 hx with w | w
          ·exact q1.2.2 x w
          ·exact q2.2.2 x w) _ hpi1)
         (by have:=zSQ (248 / c) (zJX (248 / c) (l.map zWM) i ins);omega) (by omega)
         (fun s1 l1 hf=>by
          obtain ⟨nw,-,-,q3,-⟩:=zPT _ s hs (fun b hb=>by
           obtain ⟨x,hx,rfl⟩:=List.mem_map.1 ((hst.1.trans hpi3).subset hb);obtain ⟨b,q1,-,q3⟩:=hmem (zWM x) (List.mem_map.2 ⟨x,hx,rfl⟩);have q4:x.1=b:=by have:(x.1:Int)=b:=q1;omega
           rw[q4];exact q3) ((hst.1.trans hpi3).nodup hnd) s1 l1 hf
          exact q3)
        repeat' (first|(refine EffR.at hcar ?_)|(simp only[go_sem])|fail)
        rintro v bl nx3 ⟨B7,s',rfl,rfl,hS7,hsame,hres⟩
        have hxt:Ext B t B7 nx3:=⟨by omega,fun i hi=>(hsame i (by omega)).trans ((he1.trans heA).same i hi)⟩
        cases hfg:zVJ p s (zXB (248 / c) [] (zJX (248 / c) (l.map zWM) i ins)) with
        | mk s1 o=>
          rw[hfg] at hres
          cases o with
          | none=>
            obtain ⟨rfl,rfl⟩:=hres
            repeat' (first|(refine stp ?_;simp only[go_sem])|(simp only[go_sem])|fail)
            refine zWX hQ (by omega) (Bg.below (t:=nx3)) (by simp[EV.bel]) ⟨B7,_,rfl,hS7,hxt,?_⟩;rw[hfg];exact ⟨rfl,rfl⟩
          | some l1=>
            obtain ⟨rfl,hw⟩:=hres
            repeat' (first|(refine stp ?_;simp only[go_sem])|(simp only[go_sem])|fail)
            refine zWX hQ (by omega) (Bg.below (t:=nx3)) (by simp[EV.bel]) ⟨B7,_,rfl,hS7,hxt,?_⟩;rw[hfg];exact ⟨rfl,hw⟩
   rcases Nat.eq_zero_or_pos l.length with hl0 | hl0
   ·have hps0:ps=[]:=List.eq_nil_of_length_eq_zero (by omega);subst hps0;rw[List.length_nil,zWY] at *
    repeat' (first|(refine zZF 29 ?_)|(refine zVG (ts:=#[105,105]) ?_;unfold zJN;simp only[go_sem,hel,zRQ,hti,i0,hel])|refine zQQ 2658455991570437410061774165127429151 ?_|(refine stp ?_;simp only[go_sem])|(refine zWV (id:=27) mixed [(0,[]),(2,[]),(3,[]),(5,[]),(6,[]),(8,[]),(1,[]),(4,[]),(7,[]),(9,[]),(10,[1,4]),(11,[]),(12,[])] (by kernel_rfl) ?_;simp only[go_sem])|(refine EffW.at (hcount ) [] rfl (by (simp;done)) ?_;(try simp only[go_sem]))|(refine Pure.at (hfill) (by simp) (by simp) rfl ?_;(try simp only[go_sem]))|(refine fun (cX:Nat) (hX:_≤cX)=>?_)|(refine spl (fun h=>?_) (fun h=>?_)<;>first|omega|((try simp only[zZQ]);(try simp only[go_sem,h])))|(refine zQT ?_ ?_;focus omega))
    rw[List.take_length] at hev2
    have hrn:=yZP (p:=p) (e1:=[]) (c1:=[]) (e2:=evs2) (c2:=ins) (B':=B2) (T:=T2) trivial hev2 cX (by simpa using hX);simp only[List.nil_append,List.length_nil,Nat.zero_add] at hrn
    have hbe2:∀ i,zQX (T2+i) evs2=True:=fun i=>eq_true (zQJ (Nat.le_add_right _ _) _ hev2.below)
    have hre2:∀ q,zZG (nam T2 q) evs2=evs2:=fun q=>zWB (i:=0) hev2.below
    obtain ⟨hS5,he5,hrv5⟩:=hrn;have hl00:l.map zWM=[]:=List.eq_nil_of_length_eq_zero (by omega);refine ⟨?_⟩;refine zBY TAIL (fun z hz=>HB z (hz.2.2.2.2.2.2.2.imp And.left fun ⟨k,_,h,_⟩=>⟨_,_,h⟩)) ?_
    repeat' (first|(refine stp ?_;simp only[go_sem])|fail)
    refine ⟨⟨[],[],ins,evs2++zYH (cX - ins.length),cX,-1,.slice none 0 0,[]⟩,T2,[T2+15,T2+1],⟨hS5,he5,hrv5,trivial,by simp,⟨hi1,by show ins.length≤_;omega⟩,by rw[hl00,List.append_nil];rfl,.inl ⟨rfl,rfl⟩⟩,rfl,rfl,?_,⟨?_,rfl,?_,?_,?_,?_,?_⟩⟩
    ·simp[go_sem,zQS]
    ·omega
    ·simp
    ·simp
    ·simp only[];omega
    ·simp[show ptC []=[] from rfl,hbe2,zVS]
    ·simp[show ptC []=[] from rfl,hre2]
   ·have hae:=zWZ (b:=r) (n:=ps.length) (by omega);have hfind:=EffR.toW _ (find_c (p:=p) B2 G s ps (l.map zWM) hps2 (zVW r ps.length) ⟨r,rfl,fun hn=>(hat hn).mono he2,hrT⟩ i (by omega) (by omega));rw[hae] at hcount hfind ⊢
    have hA:=((hat (List.ne_nil_of_length_pos (by omega))).mono he2).f (p:=p)
    cases hfs:zBK (l.map zWM) i with
    | some q=>
      rw[hfs] at hfind
      simp only[xWW] at hfind
      obtain ⟨y0,hy0,hq2,-⟩:=zBV hfs;obtain ⟨k,n2⟩:=q;simp only at hy0 hq2 hfind
      have hkl:k<ps.length:=by have:=(List.getElem?_eq_some_iff.1 hy0).1;omega
      obtain ⟨x,y,hx,hy,hxb,hxf,hrv⟩:=hps.get2 hkl;obtain ⟨tp,htp⟩:∃ tp,l[k]? = some tp:=⟨l[k]'(by omega),List.getElem?_eq_getElem _⟩;obtain ⟨blk,cs⟩:=tp;rw[List.getElem?_map,htp] at hy
      obtain rfl:y=zWM (blk,cs):=by simpa using hy.symm
      obtain ⟨r0,d,nn,cap0,⟨hcap,htd⟩,hxr,hrow,hdd⟩:=hreg k x (blk,cs) hx htp;have hpin:=hl.get htp;simp only at hpin hrow hdd hcap hxr
      have hpc:=zQF ps;have hg3:=zYX hx;rw[hxr] at hg3
      have hg:=(zGQ hx).2.1;rw[hxr,Nat.mul_comm] at hg
      have hR:=(hrow.mono he2).f (p:=p);have hr0T:r0<T2:=by have:=hrow.lt;omega
      have hC:=RowV.reg hrv hxr hrow;simp only[zWM] at hC
      generalize zDV d 8 c cs.length cap0=C at *
      have ki:(k*3≤(ptC ps).length)=True:=eq_true (by omega);have k3:(List.take (k*3) (ptC ps)).length=k*3:=by rw[List.length_take];omega
      have kone:(List.take (k*3) (ptC ps)).all EV.one=true:=by
       rw[show List.take (k*3) (ptC ps)=ptC (ps.take k) from (by
        have e:ps=ps.take k++ps.drop k:=(List.take_append_drop k ps).symm
        conv=>lhs;rw[e,zWS]
        rw[List.take_left' (by rw[zQF,List.length_take];omega)])]
       exact (hps.take k).one
      have hcl:=hC.1.length;have hfl:=hpin.fill;have hf248:248 / c≤248:=Nat.div_le_self _ _;have hn2:n2<cs.length:=by
       rw[List.getElem?_map,htp] at hy0
       have:y0=zWM (blk,cs):=by simpa using hy0.symm
       subst this;exact hq2
      have hkc:(k:Int)≤ps.length:=by omega
      have hcF:CellsV B1 nx (C.take n2) (cs.take n2):=by have:=hC.1.take n2;rwa [List.take_take,Nat.min_eq_left (by omega)] at this
      have hcW:CellsV B1 nx ((C.drop n2).take (cs.length - n2)) (cs.drop n2):=by have:=hC.1.drop n2;rwa [List.drop_take] at this
      have hone3:=hcW.one;have l2:((C.drop n2).take (cs.length - n2)).length=cs.length - n2:=by rw[hcW.length,List.length_drop]
      have i1:(n2+(cs.length - n2)≤C.length)=True:=eq_true (by omega);have i6:(cs.length - n2=0)=False:=eq_false (by omega);have i7:(n2≤cap0)=True:=eq_true (by omega);have i8:(ins.length+(cs.length - n2)=0)=False:=eq_false (by omega);have l3:(evs2++(C.drop n2).take (cs.length - n2)).length=ins.length+(cs.length - n2):=by rw[List.length_append,hel,l2]
      have l4:List.take (ins.length+(cs.length - n2)) (evs2++(C.drop n2).take (cs.length - n2))=evs2++(C.drop n2).take (cs.length - n2):=List.take_of_length_le (by omega);have hone4:(evs2++(C.drop n2).take (cs.length - n2)).all EV.one=true:=by rw[List.all_append,hone2,hone3];rfl
      rcases Nat.eq_zero_or_pos k with hk0 | hk0
      ·have k0:(k=0)=True:=eq_true hk0
       repeat' (first|(refine zZF 29 ?_)|(refine yVX (x:=.slice (some ⟨T2,0⟩) ins.length ins.length) (ts:=#[105,105]) ?_;unfold yVK;simp only[go_sem,hel,hR,i1,l2,i6,hone3,hti,hel,hR,i1,l2,i6,hone3])|(refine zVG (x:=.slice (some ⟨r0,0⟩) n2 n2) (ts:=#[105,105]) ?_;unfold zJN;simp only[go_sem,hR,hR,i8,l3,l4])|refine zQQ 2658455991570437410061774165127429151 ?_|(refine stp ?_;simp only[go_sem,hA,ki,k3,k0])|(refine zWV (id:=26) mixed [(0,[]),(1,[]),(2,[]),(4,[]),(5,[]),(6,[]),(8,[]),(3,[]),(7,[]),(9,[7]),(10,[]),(11,[])] (by kernel_rfl) ?_;simp only[go_sem,hA,hg3])|(refine zWV (id:=27) mixed [(0,[]),(2,[]),(3,[]),(5,[]),(6,[]),(8,[]),(1,[]),(4,[]),(7,[]),(9,[]),(10,[1,4]),(11,[]),(12,[])] (by kernel_rfl) ?_;simp only[go_sem,hR])|(refine EffW.at (hcount ) [] rfl (by first|(simp[hrT,zQR hrT];done)|fail) ?_;(try simp only[go_sem]))|(refine EffW.at (hfind ) [] rfl (by first|(simp[hrT,zQR hrT];done)|fail) ?_;(try simp only[go_sem]))|(refine Pure.at (hfill) (by simp) (by simp) rfl ?_;(try simp only[go_sem]))|(refine fun (cX:Nat) (hX:_≤cX)=>?_)|(simp only[go_sem])|(simp (disch:=omega) only[zQK])|(refine spl (fun h=>?_) (fun h=>?_)<;>first|omega|((try simp only[zZQ]);(try simp only[go_sem,h])))|(refine zQT ?_ ?_;focus omega))
       have hptk:List.take (k*3) (ptC ps)=ptC (ps.take k):=by
        conv=>lhs;rw[(List.take_append_drop k ps).symm,zWS]
        rw[List.take_left' (by rw[zQF,List.length_take];omega)]
       have hpkl:(ptC (ps.take k)).length=k*3:=by rw[zQF,List.length_take];omega
       have hCL:(cs.take n2++(ins++cs.drop n2)).length=n2+(ins.length+(cs.length - n2)):=by simp;omega
       rw[List.take_length] at hev2
       have hrn:=yZP (p:=p) (hcF.mono he2) (CellsV.append hev2 (hcW.mono he2)) cX (by simp;omega);rw[show (cs.take n2).length=n2 by rw[List.length_take];omega,show (ins++cs.drop n2).length=ins.length+(cs.length - n2) by simp] at hrn
       obtain ⟨hS5,he5,hrv5⟩:=hrn;have hfB:(∀ i,zQX (T2+i) (C.take n2)=True)∧∀ i,zQX (T2+i) ((C.drop n2).take (cs.length - n2))=True:=⟨fun i=>eq_true (zQJ (Nat.le_add_right _ _) _ (hcF.mono he2).below),fun i=>eq_true (zQJ (Nat.le_add_right _ _) _ (hcW.mono he2).below)⟩;have hfR:(∀ q,zZG (nam T2 q) (C.take n2)=C.take n2)∧∀ q,zZG (nam T2 q) ((C.drop n2).take (cs.length - n2))=(C.drop n2).take (cs.length - n2):=⟨fun q=>zWB (i:=0) (hcF.mono he2).below,fun q=>zWB (i:=0) (hcW.mono he2).below⟩;have hplc:zJZ (l.map zWM) i=(k,n2):=by unfold zJZ;rw[hfs]
       have HPL2:(l.map zWM).take k++zVZ (248 / c) (cs.take n2++(ins++cs.drop n2)).length x.b (cs.take n2++(ins++cs.drop n2))++(l.map zWM).drop (k+1)=zJX (248 / c) (l.map zWM) i ins:=by
        rw[zFR (248 / c) (l:=l.map zWM) (List.ne_nil_of_length_pos (by omega)) i ins (y:=zWM (blk,cs)) (by rw[hplc,List.getElem?_map,htp];rfl),hplc,hCL,hxb];simp only[zWM,List.append_assoc];rw[show n2+(ins.length+(cs.length - n2))=cs.length+ins.length by omega]
       have hCS:1≤(cs.take n2++(ins++cs.drop n2)).length:=by omega
       have hrvC:RowV ((T2,.cells (C.take n2++(evs2++(C.drop n2).take (cs.length - n2))++zYH (cX - (n2+(ins.length+(cs.length - n2))))) 56 0 true 0)::B2) (T2+1) (.slice (some ⟨T2,0⟩) (cs.take n2++(ins++cs.drop n2)).length cX) (cs.take n2++(ins++cs.drop n2)):=by rw[hCL];exact hrv5
       refine ⟨?_⟩;have hPO2:PsV B2 T2 (ps.take k) ((l.map zWM).take k):=hps2.take k;have hOE:zVW (T2+1) (ps.take k).length=.slice none 0 0:=(by simp[hk0]);have hOB:zVY (T2+1) (ptC (ps.take k)) 262 3=[]:=(by simp[hk0,ptC]);have hoB:∀ i,zQX (T2+i) (ptC (ps.take k))=True:=fun i=>eq_true (zQJ (Nat.le_add_right _ _) _ (PsV.below hPO2))
       have hoR:∀ q,zZG (nam T2 q) (ptC (ps.take k))=ptC (ps.take k):=fun q=>zWB (i:=0) (PsV.below hPO2)
       refine zBY TAIL (fun z hz=>HB z (hz.2.2.2.2.2.2.2.imp And.left fun ⟨k,_,h,_⟩=>⟨_,_,h⟩)) ?_
       repeat' (first|(refine stp ?_;simp only[go_sem])|fail)
       refine ⟨⟨ps.take k,(l.map zWM).take k,cs.take n2++(ins++cs.drop n2),C.take n2++(evs2++(C.drop n2).take (cs.length - n2))++zYH (cX - (n2+(ins.length+(cs.length - n2)))),cX,x.b,.slice (some ⟨r,(k+1)*3⟩) (ps.length - (k+1)) (ps.length - (k+1)),(l.map zWM).drop (k+1)⟩,T2,[T2+28,T2+1],⟨hS5,he5,hrvC,hPO2,by rw[List.length_take];omega,⟨hCS,by rw[hCL];omega⟩,HPL2,.inr ⟨k,hkl,rfl,rfl⟩⟩,rfl,rfl,?_,⟨?_,rfl,?_,?_,?_,?_,?_⟩⟩
       ·simp only[];rw[hOE,hCL];simp[go_sem,zQS,hrT,hae]
       ·omega
       ·simp
       ·simp
       ·simp only[];omega
       ·simp only[];rw[hOB];simp[hfB,hbe,zVS]
       ·simp only[];rw[hOB];simp[hfR,hre0]
      ·have k0:(k=0)=False:=eq_false (by omega)
       repeat' (first|(refine zZF 29 ?_)|(refine yVX (x:=.slice (some ⟨T2,0⟩) ins.length ins.length) (ts:=#[105,105]) ?_;unfold yVK;simp only[go_sem,hel,hR,i1,l2,i6,hone3,hti,hel,hR,i1,l2,i6,hone3])|(refine zVG (x:=.slice (some ⟨r0,0⟩) n2 n2) (ts:=#[105,105]) ?_;unfold zJN;simp only[go_sem,hR,hR,i8,l3,l4])|refine zQQ 2658455991570437410061774165127429151 ?_|(refine stp ?_;simp only[go_sem,hA,ki,k3,k0])|(refine zWV (id:=26) mixed [(0,[]),(1,[]),(2,[]),(4,[]),(5,[]),(6,[]),(8,[]),(3,[]),(7,[]),(9,[7]),(10,[]),(11,[])] (by kernel_rfl) ?_;simp only[go_sem,hA,hg3])|(refine zWV (id:=27) mixed [(0,[]),(2,[]),(3,[]),(5,[]),(6,[]),(8,[]),(1,[]),(4,[]),(7,[]),(9,[]),(10,[1,4]),(11,[]),(12,[])] (by kernel_rfl) ?_;simp only[go_sem,hR])|(refine EffW.at (hcount ) [] rfl (by first|(simp[hrT,zQR hrT];done)|fail) ?_;(try simp only[go_sem]))|(refine EffW.at (hfind ) [] rfl (by first|(simp[hrT,zQR hrT];done)|fail) ?_;(try simp only[go_sem]))|(refine Pure.at (hfill) (by simp) (by simp) rfl ?_;(try simp only[go_sem]))|(refine fun (cX:Nat) (hX:_≤cX)=>?_)|(simp only[go_sem])|(simp (disch:=omega) only[zQK])|(refine spl (fun h=>?_) (fun h=>?_)<;>first|omega|((try simp only[zZQ]);(try simp only[go_sem,h])))|(refine zQT ?_ ?_;focus omega))
       have hptk:List.take (k*3) (ptC ps)=ptC (ps.take k):=by
        conv=>lhs;rw[(List.take_append_drop k ps).symm,zWS]
        rw[List.take_left' (by rw[zQF,List.length_take];omega)]
       have hpkl:(ptC (ps.take k)).length=k*3:=by rw[zQF,List.length_take];omega
       have hCL:(cs.take n2++(ins++cs.drop n2)).length=n2+(ins.length+(cs.length - n2)):=by simp;omega
       rw[List.take_length] at hev2
       have hrn:=yZP (p:=p) (hcF.mono he2) (CellsV.append hev2 (hcW.mono he2)) cX (by simp;omega);rw[show (cs.take n2).length=n2 by rw[List.length_take];omega,show (ins++cs.drop n2).length=ins.length+(cs.length - n2) by simp] at hrn
       obtain ⟨hS5,he5,hrv5⟩:=hrn;have hfB:(∀ i,zQX (T2+i) (C.take n2)=True)∧∀ i,zQX (T2+i) ((C.drop n2).take (cs.length - n2))=True:=⟨fun i=>eq_true (zQJ (Nat.le_add_right _ _) _ (hcF.mono he2).below),fun i=>eq_true (zQJ (Nat.le_add_right _ _) _ (hcW.mono he2).below)⟩;have hfR:(∀ q,zZG (nam T2 q) (C.take n2)=C.take n2)∧∀ q,zZG (nam T2 q) ((C.drop n2).take (cs.length - n2))=(C.drop n2).take (cs.length - n2):=⟨fun q=>zWB (i:=0) (hcF.mono he2).below,fun q=>zWB (i:=0) (hcW.mono he2).below⟩;have hplc:zJZ (l.map zWM) i=(k,n2):=by unfold zJZ;rw[hfs]
       have HPL2:(l.map zWM).take k++zVZ (248 / c) (cs.take n2++(ins++cs.drop n2)).length x.b (cs.take n2++(ins++cs.drop n2))++(l.map zWM).drop (k+1)=zJX (248 / c) (l.map zWM) i ins:=by
        rw[zFR (248 / c) (l:=l.map zWM) (List.ne_nil_of_length_pos (by omega)) i ins (y:=zWM (blk,cs)) (by rw[hplc,List.getElem?_map,htp];rfl),hplc,hCL,hxb];simp only[zWM,List.append_assoc];rw[show n2+(ins.length+(cs.length - n2))=cs.length+ins.length by omega]
       have hCS:1≤(cs.take n2++(ins++cs.drop n2)).length:=by omega
       have hrvC:RowV ((T2,.cells (C.take n2++(evs2++(C.drop n2).take (cs.length - n2))++zYH (cX - (n2+(ins.length+(cs.length - n2))))) 56 0 true 0)::B2) (T2+1) (.slice (some ⟨T2,0⟩) (cs.take n2++(ins++cs.drop n2)).length cX) (cs.take n2++(ins++cs.drop n2)):=by rw[hCL];exact hrv5
       refine ⟨?_⟩;have hPO2:PsV B2 T2 (ps.take k) ((l.map zWM).take k):=hps2.take k;have hOE:zVW (T2+1) (ps.take k).length=.slice (some ⟨T2+1,0⟩) k k:=(by rw[List.length_take,Nat.min_eq_left (by omega),zWZ hk0]);have hOB:zVY (T2+1) (ptC (ps.take k)) 262 3=[(T2+1,.cells (ptC (ps.take k)) 262 3 true 0)]:=(zXR (by omega));have hoB:∀ i,zQX (T2+i) (ptC (ps.take k))=True:=fun i=>eq_true (zQJ (Nat.le_add_right _ _) _ (PsV.below hPO2))
       have hoR:∀ q,zZG (nam T2 q) (ptC (ps.take k))=ptC (ps.take k):=fun q=>zWB (i:=0) (PsV.below hPO2)
       refine zBY TAIL (fun z hz=>HB z (hz.2.2.2.2.2.2.2.imp And.left fun ⟨k,_,h,_⟩=>⟨_,_,h⟩)) ?_
       repeat' (first|(refine stp ?_;simp only[go_sem])|fail)
       refine ⟨⟨ps.take k,(l.map zWM).take k,cs.take n2++(ins++cs.drop n2),C.take n2++(evs2++(C.drop n2).take (cs.length - n2))++zYH (cX - (n2+(ins.length+(cs.length - n2)))),cX,x.b,.slice (some ⟨r,(k+1)*3⟩) (ps.length - (k+1)) (ps.length - (k+1)),(l.map zWM).drop (k+1)⟩,T2,[T2+29,T2+2],⟨hS5,he5,hrvC,hPO2,by rw[List.length_take];omega,⟨hCS,by rw[hCL];omega⟩,HPL2,.inr ⟨k,hkl,rfl,rfl⟩⟩,rfl,rfl,?_,⟨?_,rfl,?_,?_,?_,?_,?_⟩⟩
       ·simp only[];rw[hOE,hCL];simp[go_sem,zQS,hrT,hae]
       ·omega
       ·simp
       ·simp
       ·simp only[];omega
       ·simp only[];rw[hOB];simp[hoB,hfB,hbe,zVS]
       ·simp only[];rw[hOB];simp[hptk,hoR,hfR,hre0]
    | none=>
      rw[hfs] at hfind
      simp only[xWW] at hfind
      obtain ⟨k,hk⟩:∃ k,ps.length - 1=k:=⟨_,rfl⟩;have hkl:k<ps.length:=by omega
      obtain ⟨x,y,hx,hy,hxb,hxf,hrv⟩:=hps.get2 hkl;obtain ⟨tp,htp⟩:∃ tp,l[k]? = some tp:=⟨l[k]'(by omega),List.getElem?_eq_getElem _⟩;obtain ⟨blk,cs⟩:=tp;rw[List.getElem?_map,htp] at hy
      obtain rfl:y=zWM (blk,cs):=by simpa using hy.symm
      obtain ⟨r0,d,nn,cap0,⟨hcap,htd⟩,hxr,hrow,hdd⟩:=hreg k x (blk,cs) hx htp;have hpin:=hl.get htp;simp only at hpin hrow hdd hcap hxr
      have hpc:=zQF ps;have hg3:=zYX hx;rw[hxr] at hg3
      have hg:=(zGQ hx).2.1;rw[hxr,Nat.mul_comm] at hg
      have hR:=(hrow.mono he2).f (p:=p);have hr0T:r0<T2:=by have:=hrow.lt;omega
      have hC:=RowV.reg hrv hxr hrow;simp only[zWM] at hC
      generalize zDV d 8 c cs.length cap0=C at *
      have ki:(k*3≤(ptC ps).length)=True:=eq_true (by omega);have k3:(List.take (k*3) (ptC ps)).length=k*3:=by rw[List.length_take];omega
      have kone:(List.take (k*3) (ptC ps)).all EV.one=true:=by
       rw[show List.take (k*3) (ptC ps)=ptC (ps.take k) from (by
        have e:ps=ps.take k++ps.drop k:=(List.take_append_drop k ps).symm
        conv=>lhs;rw[e,zWS]
        rw[List.take_left' (by rw[zQF,List.length_take];omega)])]
       exact (hps.take k).one
      have hcl:=hC.1.length;have hfl:=hpin.fill;have hf248:248 / c≤248:=Nat.div_le_self _ _;have hki:((ps.length:Int) - 1).toNat=k:=by omega
      have hkc:(k:Int)≤ps.length:=by omega
      have hki2:(ps.length:Int) - 1=k:=by omega
      have i1:(cs.length≤C.length)=True:=eq_true (by omega);have i7:(cs.length≤cap0)=True:=eq_true (by omega);have i9:k+1=ps.length:=by omega
      have i8:(ins.length=0)=False:=eq_false (by omega)
      rcases Nat.eq_zero_or_pos k with hk0 | hk0
      ·have k0:(k=0)=True:=eq_true hk0
       repeat' (first|(refine zZF 29 ?_)|(refine zVG (ts:=#[105,105]) ?_;unfold zJN;simp only[go_sem,hel,hR,i1,hti,List.length_nil,List.all_nil,zRQ,hel,hR,i1,i8,hti,zRQ])|refine zQQ 2658455991570437410061774165127429151 ?_|(refine stp ?_;simp only[go_sem,hA,hki2,ki,k3,k0,List.length_nil,List.all_nil])|(refine zWV (id:=26) mixed [(0,[]),(1,[]),(2,[]),(4,[]),(5,[]),(6,[]),(8,[]),(3,[]),(7,[]),(9,[7]),(10,[]),(11,[])] (by kernel_rfl) ?_;simp only[go_sem,hA,hg3,List.length_nil,List.all_nil])|(refine zWV (id:=27) mixed [(0,[]),(2,[]),(3,[]),(5,[]),(6,[]),(8,[]),(1,[]),(4,[]),(7,[]),(9,[]),(10,[1,4]),(11,[]),(12,[])] (by kernel_rfl) ?_;simp only[go_sem,hR,Nat.sub_self,List.length_nil])|(refine EffW.at (hcount ) [] rfl (by first|(simp[hrT,zQR hrT];done)|fail) ?_;(try simp only[go_sem,Nat.sub_self]))|(refine EffW.at (hfind ) [] rfl (by first|(simp[hrT,zQR hrT];done)|fail) ?_;(try simp only[go_sem,Nat.sub_self]))|(refine Pure.at (hfill) (by simp) (by simp) rfl ?_;(try simp only[go_sem]))|(refine fun (cX:Nat) (hX:_≤cX)=>?_)|(simp only[go_sem,hg])|(simp (disch:=omega) only[zQK])|(refine spl (fun h=>?_) (fun h=>?_)<;>first|omega|((try simp only[zZQ]);(try simp only[go_sem,h])))|(refine zQT ?_ ?_;focus omega))
       have hptk:List.take (k*3) (ptC ps)=ptC (ps.take k):=by
        conv=>lhs;rw[(List.take_append_drop k ps).symm,zWS]
        rw[List.take_left' (by rw[zQF,List.length_take];omega)]
       have hpkl:(ptC (ps.take k)).length=k*3:=by rw[zQF,List.length_take];omega
       have hCL:(cs++ins).length=cs.length+ins.length:=by simp
       rw[List.take_length] at hev2
       have hrn:=yZP (p:=p) (hC.1.mono he2) hev2 cX hX;obtain ⟨hS5,he5,hrv5⟩:=hrn;have hfB:∀ i,zQX (T2+i) (C.take cs.length)=True:=fun i=>eq_true (zQJ (Nat.le_add_right _ _) _ (hC.1.mono he2).below)
       have hfR:∀ q,zZG (nam T2 q) (C.take cs.length)=C.take cs.length:=fun q=>zWB (i:=0) (hC.1.mono he2).below
       have hplc:zJZ (l.map zWM) i=(k,cs.length):=by
        have hkm:(l.map zWM).length - 1=k:=by omega
        unfold zJZ;rw[hfs];simp only;rw[List.getLast?_eq_getElem?,hkm,List.getElem?_map,htp];rfl
       have HPL2:(l.map zWM).take k++zVZ (248 / c) (cs++ins).length x.b (cs++ins)++(l.map zWM).drop (k+1)=zJX (248 / c) (l.map zWM) i ins:=by
        rw[zFR (248 / c) (l:=l.map zWM) (List.ne_nil_of_length_pos (by omega)) i ins (y:=zWM (blk,cs)) (by rw[hplc,List.getElem?_map,htp];rfl),hplc,hCL,hxb];simp only[zWM,List.append_assoc,List.take_length,List.drop_length,List.append_nil]
       have hCS:1≤(cs++ins).length:=by omega
       have hrvC:RowV ((T2,.cells (C.take cs.length++evs2++zYH (cX - (cs.length+ins.length))) 56 0 true 0)::B2) (T2+1) (.slice (some ⟨T2,0⟩) (cs++ins).length cX) (cs++ins):=by rw[hCL];exact hrv5
       refine ⟨?_⟩;have hPO2:PsV B2 T2 (ps.take k) ((l.map zWM).take k):=hps2.take k;have hOE:zVW (T2+1) (ps.take k).length=.slice none 0 0:=(by simp[hk0]);have hOB:zVY (T2+1) (ptC (ps.take k)) 262 3=[]:=(by simp[hk0,ptC]);have hoB:∀ i,zQX (T2+i) (ptC (ps.take k))=True:=fun i=>eq_true (zQJ (Nat.le_add_right _ _) _ (PsV.below hPO2))
       have hoR:∀ q,zZG (nam T2 q) (ptC (ps.take k))=ptC (ps.take k):=fun q=>zWB (i:=0) (PsV.below hPO2)
       refine zBY TAIL (fun z hz=>HB z (hz.2.2.2.2.2.2.2.imp And.left fun ⟨k,_,h,_⟩=>⟨_,_,h⟩)) ?_
       repeat' (first|(refine stp ?_;simp only[go_sem])|fail)
       refine ⟨⟨ps.take k,(l.map zWM).take k,cs++ins,C.take cs.length++evs2++zYH (cX - (cs.length+ins.length)),cX,x.b,.slice (some ⟨r,(k+1)*3⟩) (ps.length - (k+1)) (ps.length - (k+1)),(l.map zWM).drop (k+1)⟩,T2,[T2+27,T2+1],⟨hS5,he5,hrvC,hPO2,by rw[List.length_take];omega,⟨hCS,by rw[hCL];omega⟩,HPL2,.inr ⟨k,hkl,rfl,rfl⟩⟩,rfl,rfl,?_,⟨?_,rfl,?_,?_,?_,?_,?_⟩⟩
       ·simp only[];rw[hOE,hCL];simp[go_sem,zQS,hrT,hae]
       ·omega
       ·simp
       ·simp
       ·simp only[];omega
       ·simp only[];rw[hOB];simp[hfB,hbe,zVS]
       ·simp only[];rw[hOB];simp[hfR,hre0]
      ·have k0:(k=0)=False:=eq_false (by omega)
       repeat' (first|(refine zZF 29 ?_)|(refine zVG (x:=.slice (some ⟨T2,0⟩) ins.length ins.length) (ts:=#[105,105]) ?_;unfold zJN;simp only[go_sem,hel,hR,i1,List.length_nil,List.all_nil,zRQ,hel,hR,i1,zRQ])|(refine zVG (x:=.slice (some ⟨r0,0⟩) cs.length cs.length) (ts:=#[105,105]) ?_;unfold zJN;simp only[go_sem,hel,hR,i1,hti,List.length_nil,hel,hR,i1,i8,hti])|refine zQQ 2658455991570437410061774165127429151 ?_|(refine stp ?_;simp only[go_sem,hA,hki2,ki,k3,k0,List.length_nil,List.all_nil])|(refine zWV (id:=26) mixed [(0,[]),(1,[]),(2,[]),(4,[]),(5,[]),(6,[]),(8,[]),(3,[]),(7,[]),(9,[7]),(10,[]),(11,[])] (by kernel_rfl) ?_;simp only[go_sem,hA,hg3,List.length_nil,List.all_nil])|(refine zWV (id:=27) mixed [(0,[]),(2,[]),(3,[]),(5,[]),(6,[]),(8,[]),(1,[]),(4,[]),(7,[]),(9,[]),(10,[1,4]),(11,[]),(12,[])] (by kernel_rfl) ?_;simp only[go_sem,hR,Nat.sub_self,List.length_nil])|(refine EffW.at (hcount ) [] rfl (by first|(simp[hrT,zQR hrT];done)|fail) ?_;(try simp only[go_sem,Nat.sub_self]))|(refine EffW.at (hfind ) [] rfl (by first|(simp[hrT,zQR hrT];done)|fail) ?_;(try simp only[go_sem,Nat.sub_self]))|(refine Pure.at (hfill) (by simp) (by simp) rfl ?_;(try simp only[go_sem]))|(refine fun (cX:Nat) (hX:_≤cX)=>?_)|(simp only[go_sem,hg])|(simp (disch:=omega) only[zQK])|(refine spl (fun h=>?_) (fun h=>?_)<;>first|omega|((try simp only[zZQ]);(try simp only[go_sem,h])))|(refine zQT ?_ ?_;focus omega))
       have hptk:List.take (k*3) (ptC ps)=ptC (ps.take k):=by
        conv=>lhs;rw[(List.take_append_drop k ps).symm,zWS]
        rw[List.take_left' (by rw[zQF,List.length_take];omega)]
       have hpkl:(ptC (ps.take k)).length=k*3:=by rw[zQF,List.length_take];omega
       have hCL:(cs++ins).length=cs.length+ins.length:=by simp
       rw[List.take_length] at hev2
       have hrn:=yZP (p:=p) (hC.1.mono he2) hev2 cX hX;obtain ⟨hS5,he5,hrv5⟩:=hrn;have hfB:∀ i,zQX (T2+i) (C.take cs.length)=True:=fun i=>eq_true (zQJ (Nat.le_add_right _ _) _ (hC.1.mono he2).below)
       have hfR:∀ q,zZG (nam T2 q) (C.take cs.length)=C.take cs.length:=fun q=>zWB (i:=0) (hC.1.mono he2).below
       have hplc:zJZ (l.map zWM) i=(k,cs.length):=by
        have hkm:(l.map zWM).length - 1=k:=by omega
        unfold zJZ;rw[hfs];simp only;rw[List.getLast?_eq_getElem?,hkm,List.getElem?_map,htp];rfl
       have HPL2:(l.map zWM).take k++zVZ (248 / c) (cs++ins).length x.b (cs++ins)++(l.map zWM).drop (k+1)=zJX (248 / c) (l.map zWM) i ins:=by
        rw[zFR (248 / c) (l:=l.map zWM) (List.ne_nil_of_length_pos (by omega)) i ins (y:=zWM (blk,cs)) (by rw[hplc,List.getElem?_map,htp];rfl),hplc,hCL,hxb];simp only[zWM,List.append_assoc,List.take_length,List.drop_length,List.append_nil]
       have hCS:1≤(cs++ins).length:=by omega
       have hrvC:RowV ((T2,.cells (C.take cs.length++evs2++zYH (cX - (cs.length+ins.length))) 56 0 true 0)::B2) (T2+1) (.slice (some ⟨T2,0⟩) (cs++ins).length cX) (cs++ins):=by rw[hCL];exact hrv5
       refine ⟨?_⟩;have hPO2:PsV B2 T2 (ps.take k) ((l.map zWM).take k):=hps2.take k;have hOE:zVW (T2+1) (ps.take k).length=.slice (some ⟨T2+1,0⟩) k k:=(by rw[List.length_take,Nat.min_eq_left (by omega),zWZ hk0]);have hOB:zVY (T2+1) (ptC (ps.take k)) 262 3=[(T2+1,.cells (ptC (ps.take k)) 262 3 true 0)]:=(zXR (by omega));have hoB:∀ i,zQX (T2+i) (ptC (ps.take k))=True:=fun i=>eq_true (zQJ (Nat.le_add_right _ _) _ (PsV.below hPO2))
       have hoR:∀ q,zZG (nam T2 q) (ptC (ps.take k))=ptC (ps.take k):=fun q=>zWB (i:=0) (PsV.below hPO2)
       refine zBY TAIL (fun z hz=>HB z (hz.2.2.2.2.2.2.2.imp And.left fun ⟨k,_,h,_⟩=>⟨_,_,h⟩)) ?_
       repeat' (first|(refine stp ?_;simp only[go_sem])|fail)
       refine ⟨⟨ps.take k,(l.map zWM).take k,cs++ins,C.take cs.length++evs2++zYH (cX - (cs.length+ins.length)),cX,x.b,.slice (some ⟨r,(k+1)*3⟩) (ps.length - (k+1)) (ps.length - (k+1)),(l.map zWM).drop (k+1)⟩,T2,[T2+28,T2+2],⟨hS5,he5,hrvC,hPO2,by rw[List.length_take];omega,⟨hCS,by rw[hCL];omega⟩,HPL2,.inr ⟨k,hkl,rfl,rfl⟩⟩,rfl,rfl,?_,⟨?_,rfl,?_,?_,?_,?_,?_⟩⟩
       ·simp only[];rw[hOE,hCL];simp[go_sem,zQS,hrT,hae]
       ·omega
       ·simp
       ·simp
       ·simp only[];omega
       ·simp only[];rw[hOB];simp[hoB,hfB,hbe,zVS]
       ·simp only[];rw[hOB];simp[hptk,hoR,hfR,hre0]
end Go.Proofs.YtncphnpndkjkaaaGreatDoor
