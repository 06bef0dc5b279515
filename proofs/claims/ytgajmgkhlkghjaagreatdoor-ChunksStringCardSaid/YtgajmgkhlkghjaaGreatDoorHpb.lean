/-
  Own work: a part of the proof that the last text closes.
-/
import Derived.Test.YtgajmgkhlkghjaaGreatDoorHpa
import Derived.Test.YtgajmgkhlkghjaaGreatDoorFk
namespace Go.Proofs.YtgajmgkhlkghjaaGreatDoor
open Go.E
set_option linter.all false
set_option maxRecDepth 100000
set_option maxHeartbeats 16000000
theorem setL_acc {T b:Nat} {c:List EV} {ty z:Nat} {o:EO} {r:List (Nat × EO)} (h:(T=b)=False):setL (accB T c ty z++r) b o=accB T c ty z++setL r b o:=by
 refine acc_cases (p:=fun x=>setL (x++r) b o=x++setL r b o) (fun _=>rfl) ?_;rw[List.cons_append,List.nil_append,setL,if_neg (by rw[h];exact id)];rfl
theorem dropL_accS {T:Nat} {c:List EV} {ty z:Nat} {r:List (Nat × EO)}:dropL (accB T c ty z++r) T=dropL r T:=by
 refine acc_cases (p:=fun x=>dropL (x++r) T=dropL r T) (fun _=>rfl) ?_;rw[List.cons_append,List.nil_append,dropL,if_pos rfl]
theorem dropL_stB (f:Nat→EO) (b:Nat):∀ (B:List (Nat × EO)),dropL (stB f B) b=stB f (dropL B b)
 | []=>rfl
 | (c,o)::B=>by
   rw[stB_cons,dropL,dropL]
   split
   ·exact dropL_stB f b B
   ·rw[stB_cons,dropL_stB f b B]
theorem dropL_mem {b:Nat}:∀ {B:List (Nat × EO)} {i:Nat} {o:EO},(i,o)∈dropL B b→(i,o)∈B
 | (c,x)::B,i,o,h=>by
   rw[dropL] at h
   split at h
   ·exact List.mem_cons_of_mem _ (dropL_mem h)
   ·rcases List.mem_cons.1 h with q | q
    ·rw[q];exact List.mem_cons_self ..
    ·exact List.mem_cons_of_mem _ (dropL_mem q)
theorem dropL_keys {b:Nat}:∀ {B:List (Nat × EO)},keysOK B→keysOK (dropL B b)
 | [],_=>trivial
 | (c,x)::B,h=>by
   rw[dropL]
   split
   ·exact dropL_keys h.2
   ·exact ⟨by rw[lkp_dropL,h.1];split<;>rfl,dropL_keys h.2⟩
variable {p:Gp} (B:List (Nat × EO)) {t:Nat}
theorem StL.drop {B:List (Nat × EO)} {b:Nat} (h:StL p B t) (hb:11+p.nl≤b):StL p (dropL B b) t where
 bg:=⟨blBelow_of fun i o hm=>blBelow_mem h.bg.below (dropL_mem hm),dropL_keys h.bg.keys⟩
 big:=h.big
 has i hi:=by rw[lkp_dropL,if_neg (by omega)];exact h.has i hi
 line i hi:=by rw[lkp_dropL,if_neg (by omega)];exact h.line i hi
 top:=h.top
theorem cdelete_c (G:List Gl) (s:Gs) [Big t] [hS0:StL p B t] (hp:p.ok) (ho:s.over=false) (hs:GsOK p s) (hr:ovl s.put 64 8=zU 8) (ps:List Ck) (tb:List TP) (hx:TxOK p s ps tb) (a b:Nat) (hab:a≤b) (hb:b≤totC ps) :
  EffR G Tryz.prog 12 [.ptr (some ⟨0,0⟩),.int .u32 (refOf tb),.int .i64 a,.int .i64 b] (gnd p s B) t (fun v bl nx=>∃ B' s',bl=gnd p s' B'∧StL p B' nx∧Ext B t B' nx∧EdQ p s (tb.map (·.1)++blkC ps) ((flatC ps).take a++(flatC ps).drop b) 0 v s'):=by
 have h1:=hp.big;have h2:=hp.fit;have hln:=hx.len;have hsum:=hx.sum;have ht11:11≤t:=hS0.big;have hab0:=StL.above (p:=p) (B:=B) (t:=t) (t':=t+2) (X:=[(t+1,.cells [.int .i64 b] 3 0 true 0),(t,.cells [.int .i64 a] 3 0 true 0)]) (by omega) (by simp) (by simp[keysOK,lkp]) (by simp);simp only[List.cons_append,List.nil_append] at hab0
 have e0:stB (objs p s) ((t+1,.cells [.int .i64 b] 3 0 true 0)::(t,.cells [.int .i64 a] 3 0 true 0)::B)=(t+1,.cells [.int .i64 b] 3 0 true 0)::(t,.cells [.int .i64 a] 3 0 true 0)::stB (objs p s) B:=by
  rw[stB_cons,if_neg (by omega),stB_cons,if_neg (by omega)]
 have hfa:AtB ((t+1,.cells [.int .i64 b] 3 0 true 0)::(t,.cells [.int .i64 a] 3 0 true 0)::B) (t+2) t (.cells [.int .i64 a] 3 0 true 0):=⟨by omega,by omega,by simp[lkp]⟩;have hto:AtB ((t+1,.cells [.int .i64 b] 3 0 true 0)::(t,.cells [.int .i64 a] 3 0 true 0)::B) (t+2) (t+1) (.cells [.int .i64 b] 3 0 true 0):=⟨by omega,by omega,by simp[lkp]⟩;obtain ⟨T,hT⟩:∃ T,T=t+2:=⟨_,rfl⟩;rw[← hT] at hab0 hfa hto
 generalize hB0:(t+1,EO.cells [.int .i64 b] 3 0 true 0)::(t,EO.cells [.int .i64 a] 3 0 true 0)::B=B0 at hab0 hfa hto e0
 obtain ⟨hS,he0⟩:=hab0;haveI:=hS;haveI:Big T:=⟨hS.big⟩;refine EffR.enter fun Q hQ=>?_
 refine zQV 98 [.tmp 8,.tmp 9] Tryz.func12 ?_
 repeat' (first|(refine esem_holdR 1 ?_)|refine zQQ 592602640729503825871 ?_|(refine stp ?_;simp only[go_sem])|fail)
 refine ⟨?_⟩;rw[← e0,← hT]
 repeat' (first|(refine stp ?_;simp only[go_sem])|(refine EffR.at (openT_c B0 G s hp ho hr ps tb hx) ?_)|(simp only[go_sem])|fail)
 rintro v bl nx ⟨B1,v1,rfl,rfl,hS1,he1,htx⟩
 haveI:=hS1;haveI:Big nx:=⟨hS1.big⟩;have h3:=he1.le;have hlen:=tlen_c (p:=p) B1 G s v1 _ ps tb htx hsum (by omega);obtain ⟨x,r,v2,rfl,hxa,hat,hrt,hra⟩:=htx;have hxt:=hxa.lt;have hX:=hxa.f (p:=p);have hFA:=(hfa.mono he1).f (p:=p);have hTO:=(hto.mono he1).f (p:=p)
 rcases Nat.lt_or_ge a b with hlt | hge
 ·repeat' (first|(refine esem_holdR 8 ?_)|refine zQQ 592602640729503825871 ?_|refine zQW ?_|(refine stp ?_;simp only[go_sem,hFA,hTO])|(refine drawQ (id:=4) mixed [(0,[]),(1,[]),(2,[]),(3,[]),(4,[]),(5,[]),(6,[]),(7,[]),(9,[]),(8,[]),(10,[8]),(11,[]),(12,[]),(13,[])] (by kernel_rfl) ?_;simp only[go_sem,hFA])|(refine EffW.at (hlen ) [] rfl (by first|(simp[hxt,zWW hxt];done)|fail) ?_;(try simp only[go_sem,hTO]))|(refine spl (fun h=>?_) (fun h=>?_)<;>first|omega|((try simp only[stepRun]);(try simp only[go_sem,hFA,hTO,h])))|fail)
  refine ⟨?_⟩;obtain ⟨ny,hny⟩:∃ X,X=nx+14:=⟨_,rfl⟩;have hup:=StL.up (p:=p) (B:=B1) (T:=nx) (T':=ny) (by omega);rw[← hny];haveI:=hup.1;haveI:Big ny:=⟨hup.1.big⟩;have hFA:=((hfa.mono he1).mono hup.2).f (p:=p);have hTO:=((hto.mono he1).mono hup.2).f (p:=p);have hX:=(hxa.mono hup.2).f (p:=p);have hxt:x<ny:=by omega
  have hrt:r<ny:=by omega
  have htt:t<ny∧t+1<ny:=by omega
  have hall:=all_c (p:=p) B1 G s x hxt
  repeat' (first|refine zQQ 592602640729503825871 ?_|refine zQW ?_|(refine stp ?_;simp only[go_sem])|(refine EffW.at (hall ) [] rfl (by simp[hxt,zWW hxt];omega) ?_;(try simp only[go_sem,zWW hxt]))|fail)
  refine esem_rangeC [(6,.ptr (some ⟨t,0⟩)),(7,.ptr (some ⟨t+1,0⟩)),(10,.ptr (some ⟨x,0⟩)),(12,.ptr (some ⟨ny,0⟩))] 81 [] [.ptr (some ⟨ny+1,0⟩)] (by simp only[go_sem]) Tryz.func81 rfl rfl (by simp only[go_sem,zWQ]) ?_;intro cd hcd D;simp only[go_sem,List.nil_append,List.cons_append];refine zQV 26 [] Tryz.func81 ?_
  repeat' (first|refine zQQ 532011 ?_|refine zQW ?_|(refine stp ?_;simp only[go_sem,hX])|fail)
  obtain ⟨tl,htm⟩:∃ l,l=tlM 98 [(6,.ptr (some ⟨t,0⟩)),(7,.ptr (some ⟨t+1,0⟩)),(10,.ptr (some ⟨x,0⟩)),(12,.ptr (some ⟨ny,0⟩))]:=⟨_,rfl⟩;have htlb:zQX (ny+1) tl:=by rw[htm];exact tlM_bel (by simp[frBel];omega)
  have htlk:∀ k,1≤k→zQX (ny+k) tl=True:=fun k hk=>eq_true (zQJ (by omega) _ htlb)
  have htlr:∀ q,renL (nam (ny+4) q) tl=tl:=fun q=>renL_nam (k:=ny+1) (i:=3) htlb
  rw[← htm];have hxk:∀ k,x<ny+k:=fun k=>by omega
  have hrx:r<ny+4∧x<ny+4:=by omega
  have hd0:delP a b 0 (ps.take 0)=[]:=rfl;refine zWV (fun i:Nat=>[(11,.int .i64 i),(10,.int .i64 ps.length),(9,accE r ps.length),(3,.int .i64 (totC (ps.take i))),(0,.fn (.yield (D+1)) [] [])]) (fun i:Nat=>accB (ny+4) (ckC (delP a b 0 (ps.take i))) 91 3++((ny+3,.rng (D+1) tl .ready none cd)::(ny+2,.raw D (.deferred (some [])))::(ny+1,.cells [.ptr (some ⟨x,0⟩)] 84 0 true 0)::(ny,.cells [accE (ny+4) (delP a b 0 (ps.take i)).length] 88 0 true 0)::stB (objs p s) B1)) (fun i:Nat=>ny+5) (fun i:Nat=>i≤ps.length) (fun i:Nat=>ps.length - i) (0) ?_ ?_ ?_ ?_ ?_
  ·intro i hi;refine ⟨by simp[frBel,show r<ny+5 by omega],?_,by show ny+4≤ny+5;omega⟩;rw[blBelow_acc (by simp) (ckC_below _ _)];simp[htlk,show x<ny+5 by omega]
  ·exact Nat.zero_le _
  ·simp only[go_sem,zWQ,totC,List.map_nil,List.sum_nil]
  ·simp only[hd0,ckC_nil,accB_nil,List.nil_append,List.length_nil,accE_zero];simp only[go_sem,lessL]
  ·intro i hi;simp only at hi ⊢
   rcases Nat.lt_or_ge i ps.length with hil | hil
   ·obtain ⟨y,hy⟩:∃ x,ps[i]? = some x:=⟨ps[i],by simp[hil]⟩;have hA:=((hat (List.ne_nil_of_length_pos (by omega))).mono hup.2).f (p:=p);have hg3:=ckC_take3 hy;have hae:=zWZ (b:=r) (n:=ps.length) (by omega);have hts:=totC_take_succ hy;have htl:=totC_take_le ps (i+1);have hds:=delP_succ (f:=a) (g:=b) hy;have hpy:=hx.part y (List.mem_of_getElem? hy);have hyl:=hpy.fill;have hyp:=hpy.pos;obtain ⟨L,hL⟩:∃ L,delP a b 0 (ps.take i)=L:=⟨_,rfl⟩;have hLl:L.length≤i:=by
     have:=(delP_old a b (ps.take i) 0 fun z hz=>(hx.part z (List.take_subset _ _ hz)).nn).2.2;rw[hL,List.length_take] at this;omega
    rw[hL] at hds ⊢
    have hckl:=ckC_length L;have hck1:=ckC_one L;have hcr:∀ π,renL π (ckC L)=ckC L:=fun π=>ckC_ren _ _
    have hcb:∀ k,zQX k (ckC L)=True:=fun k=>eq_true (ckC_below _ _)
    obtain ⟨yb,hyb⟩:∃ b:Nat,y.b=b:=⟨y.b.toNat,by have:=hpy.nn;omega⟩;rw[hae];unfold delX at hds
    generalize totC (ps.take i)=o at *
    by_cases hk1:min (b - o) y.T.length≤a - o
    ·rw[if_pos hk1] at hds
     have e1:min ((b:Int) - (o:Int)) (y.T.length:Int)≤max ((a:Int) - (o:Int)) 0:=by omega
     repeat' (first|refine zQQ 532011 ?_|refine zQW ?_|(refine stp ?_;simp only[go_sem,hA,hg3])|(refine spl (fun h=>?_) (fun h=>?_)<;>first|omega|try simp only[go_sem,h])|(refine zQP ?_ ?_;focus omega))
     refine eyields_round (ny+3) 98 [(6,.ptr (some ⟨t,0⟩)),(7,.ptr (some ⟨t+1,0⟩)),(10,.ptr (some ⟨x,0⟩)),(12,.ptr (some ⟨ny,0⟩))] cd (by simp only[go_sem,← htm]) hcd rfl rfl rfl rfl rfl ?_;rw[← htm];simp only[go_sem,putArgs]
     repeat' (first|refine zQQ 592602640729503825871 ?_|refine zQW ?_|(refine stp ?_;simp only[go_sem,List.append_nil,hyb])|(refine drawQ (id:=12) mixed [(1,[]),(5,[]),(7,[]),(0,[]),(2,[]),(3,[]),(11,[]),(4,[]),(6,[]),(8,[]),(9,[]),(10,[]),(12,[])] (by kernel_rfl) ?_;simp only[go_sem,hFA,hTO,setL_acc])|(refine appTo_acc (c:=ckC L) (by omega) (by omega) (by first|(simp;done)|fail) (by first|(simp;done)|fail) (by omega) (by first|(simp;done)|fail) (by first|(simp[EV.one];done)|fail) (by simp;omega) ?_;(try simp only[go_sem,dropL_accS]))|(simp only[rndAsg,go_sem])|(simp only[rndPost,go_sem])|(simp (disch:=omega) only[zQK])|(refine spl (fun h=>?_) (fun h=>?_)<;>first|omega|try simp only[go_sem,h])|fail)
     (refine ⟨(i+1),ny+4,[ny+21],?_,?_,rfl,rfl,?_,⟨?_,rfl,?_,?_,?_,?_,?_⟩⟩;rotate_left;(focus (simp only[];omega));(focus (simp only[go_sem,zWQ,hts,hrx,Int.natCast_add]));(focus (omega));(focus simp);(focus (simp));(focus (simp only[];omega));(focus (simp[hds,ckC_append,ckC_one1,accB_app1,accE_app1,List.length_append,hcb,htlk,hyb];omega));(focus (simp[hds,ckC_append,ckC_one1,accB_app1,accE_app1,List.length_append,hcr,hrx,htlr,hyb]));(try simp only[]))
     exact hil
    ·rw[if_neg hk1] at hds
     have e1:max ((a:Int) - (o:Int)) 0=((a - o:Nat):Int):=by omega
     have e2:min ((b:Int) - (o:Int)) (y.T.length:Int)=((min (b - o) y.T.length:Nat):Int):=by omega
     by_cases hk2:min (b - o) y.T.length - (a - o)<y.T.length
     ·rw[if_pos hk2] at hds
      repeat' (first|refine zQQ 532011 ?_|refine zQW ?_|(refine stp ?_;simp only[go_sem,hA,hg3])|(refine spl (fun h=>?_) (fun h=>?_)<;>first|omega|try simp only[go_sem,h])|(refine zQP ?_ ?_;focus omega))
      refine eyields_round (ny+3) 98 [(6,.ptr (some ⟨t,0⟩)),(7,.ptr (some ⟨t+1,0⟩)),(10,.ptr (some ⟨x,0⟩)),(12,.ptr (some ⟨ny,0⟩))] cd (by simp only[go_sem,← htm]) hcd rfl rfl rfl rfl rfl ?_;rw[← htm];simp only[go_sem,putArgs]
      repeat' (first|refine zQQ 592602640729503825871 ?_|refine zQW ?_|(refine stp ?_;simp only[go_sem,hyb])|(refine drawQ (id:=12) mixed [(1,[]),(5,[]),(7,[]),(0,[]),(2,[]),(3,[]),(11,[]),(4,[]),(6,[]),(8,[]),(9,[]),(10,[]),(12,[])] (by kernel_rfl) ?_;simp only[go_sem,hFA,hTO,setL_acc])|(refine drawQ (id:=16) mixed [(1,[]),(3,[]),(5,[]),(7,[]),(10,[]),(11,[]),(0,[]),(2,[]),(4,[]),(6,[]),(8,[]),(9,[]),(12,[]),(13,[]),(14,[]),(15,[]),(16,[])] (by kernel_rfl) ?_;simp only[go_sem,List.length_take,List.length_drop])|(refine appTo_acc (c:=ckC L) (by omega) (by omega) (by first|(simp;done)|fail) (by first|(simp;done)|fail) (by omega) (by first|(simp;done)|fail) (by first|(simp[EV.one];done)|fail) (by simp;omega) ?_;(try simp only[go_sem,dropL_accS]))|(simp only[rndAsg,go_sem])|(simp only[rndPost,go_sem])|(simp only[go_sem,e1,e2])|(simp (disch:=omega) only[zQK])|(refine spl (fun h=>?_) (fun h=>?_)<;>first|omega|try simp only[go_sem,h])|(refine zQP ?_ ?_;focus omega))
      (refine ⟨(i+1),ny+4,[ny+37],?_,?_,rfl,rfl,?_,⟨?_,rfl,?_,?_,?_,?_,?_⟩⟩;rotate_left;(focus (simp only[];omega));(focus (simp only[go_sem,zWQ,hts,hrx,Int.natCast_add]));(focus (omega));(focus simp);(focus (simp));(focus (simp only[];omega));(focus (simp[hds,ckC_append,ckC_one1,accB_app1,accE_app1,List.length_append,hcb,htlk,hyb];omega));(focus (simp[hds,ckC_append,ckC_one1,accB_app1,accE_app1,List.length_append,hcr,hrx,htlr,hyb]));(try simp only[]))
      exact hil
     ·rw[if_neg hk2] at hds
      repeat' (first|refine zQQ 532011 ?_|refine zQW ?_|(refine stp ?_;simp only[go_sem,hA,hg3])|(refine spl (fun h=>?_) (fun h=>?_)<;>first|omega|try simp only[go_sem,h])|(refine zQP ?_ ?_;focus omega))
      refine eyields_round (ny+3) 98 [(6,.ptr (some ⟨t,0⟩)),(7,.ptr (some ⟨t+1,0⟩)),(10,.ptr (some ⟨x,0⟩)),(12,.ptr (some ⟨ny,0⟩))] cd (by simp only[go_sem,← htm]) hcd rfl rfl rfl rfl rfl ?_;rw[← htm];simp only[go_sem,putArgs]
      repeat' (first|refine zQQ 592602640729503825871 ?_|refine zQW ?_|(refine stp ?_;simp only[go_sem,hyb,setL_acc])|(refine drawQ (id:=12) mixed [(1,[]),(5,[]),(7,[]),(0,[]),(2,[]),(3,[]),(11,[]),(4,[]),(6,[]),(8,[]),(9,[]),(10,[]),(12,[])] (by kernel_rfl) ?_;simp only[go_sem,hFA,hTO,setL_acc])|(simp only[rndAsg,go_sem])|(simp only[rndPost,go_sem])|(simp only[go_sem,e1,e2])|(simp (disch:=omega) only[zQK])|(refine spl (fun h=>?_) (fun h=>?_)<;>first|omega|try simp only[go_sem,h])|fail)
      (refine ⟨(i+1),ny+4,[ny+4],?_,?_,rfl,rfl,?_,⟨?_,rfl,?_,?_,?_,?_,?_⟩⟩;rotate_left;(focus (simp only[];omega));(focus (simp only[go_sem,zWQ,hts,hrx,Int.natCast_add]));(focus (omega));(focus simp);(focus (simp));(focus (simp only[];omega));(focus (simp[hds,List.append_nil,hcb,htlk];omega));(focus (simp[hds,List.append_nil,hcr,hrx,htlr]));(try simp only[]))
      exact hil
   ·obtain rfl:i=ps.length:=by omega
    rw[List.take_length]
    repeat' (first|refine zQQ 532011 ?_|(refine stp ?_;simp only[go_sem])|(refine spl (fun h=>?_) (fun h=>?_)<;>first|omega|try simp only[go_sem,h])|fail)
    refine done_same ?_ ?_ ?_ ⟨.ready,none,?_,by simp,?_⟩
    ·simp[htlk,ckC_below,show x<ny+5 by omega]
    ·simp only[];omega
    ·simp[EV.bel,zQX]
    ·simp only[go_sem]
    ·simp only[jumpE,go_sem];obtain ⟨L,hL⟩:∃ L,delP a b 0 ps=L:=⟨_,rfl⟩;rw[hL];obtain ⟨o1,o2,o3,o4⟩:=delP_ok (f:=a) (g:=b) hx hlt;rw[hL] at o1 o2 o3 o4
     have hckl:=ckC_length L;have hps0:ps ≠ []:=fun e=>by
      rw[e] at hb
      have:totC []=0:=rfl;omega
     have hny:11≤ny:=hup.1.big;have hab2:=StL.above (p:=p) (B:=B1) (t:=ny) (t':=ny+5) (X:=accB (ny+4) (ckC L) 91 3++[(ny+2,.raw D (.deferred (some []))),(ny+1,.cells [.ptr (some ⟨x,0⟩)] 84 0 true 0),(ny,.cells [accE (ny+4) L.length] 88 0 true 0)]) (by omega) ?_ ?_ ?_;rw[List.append_assoc] at hab2
     simp only[List.cons_append,List.nil_append] at hab2
     have e2:stB (objs p s) (accB (ny+4) (ckC L) 91 3++(ny+2,.raw D (.deferred (some [])))::(ny+1,.cells [.ptr (some ⟨x,0⟩)] 84 0 true 0)::(ny,.cells [accE (ny+4) L.length] 88 0 true 0)::B1)=accB (ny+4) (ckC L) 91 3++(ny+2,.raw D (.deferred (some [])))::(ny+1,.cells [.ptr (some ⟨x,0⟩)] 84 0 true 0)::(ny,.cells [accE (ny+4) L.length] 88 0 true 0)::stB (objs p s) B1:=by
      haveI:Big (ny+4):=⟨by omega⟩;rw[stB_acc,stB_cons,if_neg (by omega),stB_cons,if_neg (by omega),stB_cons,if_neg (by omega)]
     have hbx:AtB (accB (ny+4) (ckC L) 91 3++(ny+2,.raw D (.deferred (some [])))::(ny+1,.cells [.ptr (some ⟨x,0⟩)] 84 0 true 0)::(ny,.cells [accE (ny+4) L.length] 88 0 true 0)::B1) (ny+5) ny (.cells [accE (ny+4) L.length] 88 0 true 0):=⟨by omega,by omega,by rw[lkp_append,keysGe_none (keysGe_acc (Nat.le_refl _)) (show ny<ny+4 by omega)];simp[lkp]⟩;have hraw:AtB (accB (ny+4) (ckC L) 91 3++(ny+2,.raw D (.deferred (some [])))::(ny+1,.cells [.ptr (some ⟨x,0⟩)] 84 0 true 0)::(ny,.cells [accE (ny+4) L.length] 88 0 true 0)::B1) (ny+5) (ny+2) (.raw D (.deferred (some []))):=⟨by omega,by omega,by rw[lkp_append,keysGe_none (keysGe_acc (Nat.le_refl _)) (show ny+2<ny+4 by omega)];simp[lkp]⟩;have hrow:L ≠ []→AtB (accB (ny+4) (ckC L) 91 3++(ny+2,.raw D (.deferred (some [])))::(ny+1,.cells [.ptr (some ⟨x,0⟩)] 84 0 true 0)::(ny,.cells [accE (ny+4) L.length] 88 0 true 0)::B1) (ny+5) (ny+4) (.cells (ckC L) 91 3 true 0):=fun hne=>⟨by omega,by omega,by
      rw[accB_pos (by rw[ckC_length];have:=List.length_pos_iff.2 hne;omega)];simp[lkp]⟩
     rw[← e2];obtain ⟨N2,hN2⟩:∃ X,X=ny+5:=⟨_,rfl⟩;rw[← hN2] at hab2 hbx hraw hrow ⊢
     generalize (accB (ny+4) (ckC L) 91 3++(ny+2,.raw D (.deferred (some [])))::(ny+1,.cells [.ptr (some ⟨x,0⟩)] 84 0 true 0)::(ny,.cells [accE (ny+4) L.length] 88 0 true 0)::B1)=Bq at hab2 hbx hraw hrow ⊢
     haveI:=hab2.1;haveI:Big N2:=⟨hab2.1.big⟩;have hle2:=hab2.2.le;have hLX:=hbx.f (p:=p);have hxq:=(hxa.mono hup.2).mono hab2.2;have hpq:=((hat hps0).mono hup.2).mono hab2.2
     rcases Nat.eq_zero_or_pos L.length with hl0 | hl0
     ·obtain rfl:L=[]:=List.eq_nil_of_length_eq_zero hl0;have hca:=ccarryN_c (p:=p) (t:=N2) Bq G s hp ho hs hr ps tb hx hps0 x r v2 hxq hpq;rw[List.length_nil,accE_zero] at hLX
      have o2':[]=List.take a (flatC ps)++List.drop b (flatC ps):=o2
      repeat' (first|refine zQQ 592602640729503825871 ?_|(refine stp ?_;simp only[go_sem,hLX])|(refine EffR.at hca ?_)|(simp only[go_sem])|fail)
      rintro v bl nx3 ⟨B5,s5,rfl,hS5,he5,hed⟩
      have h6:=he5.le;have hsame:∀ j,j<N2→j ≠ ny+4→lkp B5 j=lkp Bq j:=fun j hj _=>he5.same j hj
      rw[o2'] at hed
      haveI:=hS5;obtain ⟨r5,e5,rfl⟩:∃ r e,v=.tuple [.int .u32 r,.int .i64 e]:=by
       rcases hed with ⟨_,_,rfl,-⟩ | ⟨rfl,-⟩<;>exact ⟨_,_,rfl⟩
      repeat' (first|(refine stp ?_;simp only[go_sem])|(simp only[go_sem])|fail)
      refine ⟨ny+2,D,rfl,?_,?_⟩
      ·show (if ny+2<nx3 then _ else _)=_;rw[if_pos (by omega),StG.lkp_hi (by omega),hsame (ny+2) (by omega) (by omega)];exact hraw.lk
      ·simp only[go_sem,ES.kill,dropL_stB];haveI hS6:=hS5.drop (b:=ny+2) (by have:=hup.1.top;omega);refine zWJ hQ (by omega) (Bg.below (t:=nx3)) (by simp[EV.bel,zQX]) ⟨dropL B5 (ny+2),s5,rfl,hS6,⟨by omega,fun j hj=>?_⟩,hed⟩;rw[lkp_dropL,if_neg (by omega),hsame j (by omega) (by omega),hab2.2.same j (by omega),hup.2.same j (by omega),he1.same j (by omega),he0.same j hj]
     ·have hca:=ccarry_c (p:=p) (t:=N2) Bq G s hp ho hs hr ps tb hx hps0 x r v2 hxq hpq L o1 (by omega) hl0 (ny+4) L.length 3 [] (by rw[List.append_nil];exact hrow (List.length_pos_iff.1 hl0)) (Nat.le_refl _) (by simp) (.inr ⟨rfl,by simp⟩) trivial rfl (by omega);rw[zWZ hl0] at hLX
      repeat' (first|refine zQQ 592602640729503825871 ?_|(refine stp ?_;simp only[go_sem,hLX])|(refine EffR.at hca ?_)|(simp only[go_sem])|fail)
      rintro v bl nx3 ⟨B5,s5,rfl,hS5,h6,hsame,hed⟩
      rw[o2,o3] at hed
      haveI:=hS5;obtain ⟨r5,e5,rfl⟩:∃ r e,v=.tuple [.int .u32 r,.int .i64 e]:=by
       rcases hed with ⟨_,_,rfl,-⟩ | ⟨rfl,-⟩<;>exact ⟨_,_,rfl⟩
      repeat' (first|(refine stp ?_;simp only[go_sem])|(simp only[go_sem])|fail)
      refine ⟨ny+2,D,rfl,?_,?_⟩
      ·show (if ny+2<nx3 then _ else _)=_;rw[if_pos (by omega),StG.lkp_hi (by omega),hsame (ny+2) (by omega) (by omega)];exact hraw.lk
      ·simp only[go_sem,ES.kill,dropL_stB];haveI hS6:=hS5.drop (b:=ny+2) (by have:=hup.1.top;omega);refine zWJ hQ (by omega) (Bg.below (t:=nx3)) (by simp[EV.bel,zQX]) ⟨dropL B5 (ny+2),s5,rfl,hS6,⟨by omega,fun j hj=>?_⟩,hed⟩;rw[lkp_dropL,if_neg (by omega),hsame j (by omega) (by omega),hab2.2.same j (by omega),hup.2.same j (by omega),he1.same j (by omega),he0.same j hj]
     ·refine acc_cases (p:=fun z=>keysGe ny (z++[(ny+2,.raw D (.deferred (some []))),(ny+1,.cells [.ptr (some ⟨x,0⟩)] 84 0 true 0),(ny,.cells [accE (ny+4) L.length] 88 0 true 0)])) (fun _=>?_) ?_<;>simp[keysGe]
     ·refine acc_cases (p:=fun z=>keysOK (z++[(ny+2,.raw D (.deferred (some []))),(ny+1,.cells [.ptr (some ⟨x,0⟩)] 84 0 true 0),(ny,.cells [accE (ny+4) L.length] 88 0 true 0)])) (fun _=>?_) ?_<;>simp[keysOK,lkp]
     ·rw[blBelow_acc (by simp) (ckC_below _ _)];simp[show x<ny+5 by omega]
 ·obtain rfl:a=b:=by omega
  repeat' (first|refine zQQ 592602640729503825871 ?_|refine zQW ?_|(refine stp ?_;simp only[go_sem,hFA,hTO])|(refine drawQ (id:=4) mixed [(0,[]),(1,[]),(2,[]),(3,[]),(4,[]),(5,[]),(6,[]),(7,[]),(9,[]),(8,[]),(10,[8]),(11,[]),(12,[]),(13,[])] (by kernel_rfl) ?_;simp only[go_sem,hFA])|(refine EffW.at (hlen ) [] rfl (by first|(simp[hxt,zWW hxt];done)|fail) ?_;(try simp only[go_sem,hTO]))|(refine spl (fun h=>?_) (fun h=>?_)<;>first|omega|((try simp only[stepRun]);(try simp only[go_sem,hFA,hTO,h])))|fail)
  have hup:=StL.up (p:=p) (B:=B1) (T:=nx) (T':=nx+14) (by omega);haveI:=hup.1;refine zWJ hQ (by omega) (Bg.below (t:=nx+14)) (by simp[EV.bel,zQX]) ⟨B1,s,rfl,hup.1,(he0.trans he1).trans hup.2,.inl ⟨ps,tb,rfl,?_⟩⟩;rw[List.take_append_drop];exact EdOK.refl hx hs
end Go.Proofs.YtgajmgkhlkghjaaGreatDoor
