/-
  Own work: a part of the proof that the last text closes.
-/
import Derived.Test.YtncphnpndkjkaaaGreatDoorHpa
import Derived.Test.YtncphnpndkjkaaaGreatDoorFk
namespace Go.Proofs.YtncphnpndkjkaaaGreatDoor
open Go.E
set_option linter.all false
set_option maxRecDepth 100000
set_option maxHeartbeats 16000000
theorem yJS {T b:Nat} {c:List EV} {ty z:Nat} {o:EO} {r:List (Nat × EO)} (h:(T=b)=False):setL (zVY T c ty z++r) b o=zVY T c ty z++setL r b o:=by
 refine zKP (p:=fun x=>setL (x++r) b o=x++setL r b o) (fun _=>rfl) ?_;rw[List.cons_append,List.nil_append,setL,if_neg (by rw[h];exact id)];rfl
theorem yHS {T:Nat} {c:List EV} {ty z:Nat} {r:List (Nat × EO)}:dropL (zVY T c ty z++r) T=dropL r T:=by
 refine zKP (p:=fun x=>dropL (x++r) T=dropL r T) (fun _=>rfl) ?_;rw[List.cons_append,List.nil_append,dropL,if_pos rfl]
theorem yXR (f:Nat→EO) (b:Nat):∀ (B:List (Nat × EO)),dropL (stB f B) b=stB f (dropL B b)
 | []=>rfl
 | (c,o)::B=>by
   rw[zXK,dropL,dropL]
   split
   ·exact yXR f b B
   ·rw[zXK,yXR f b B]
theorem yTZ {b:Nat}:∀ {B:List (Nat × EO)} {i:Nat} {o:EO},(i,o)∈dropL B b→(i,o)∈B
 | (c,x)::B,i,o,h=>by
   rw[dropL] at h
   split at h
   ·exact List.mem_cons_of_mem _ (yTZ h)
   ·rcases List.mem_cons.1 h with q | q
    ·rw[q];exact List.mem_cons_self ..
    ·exact List.mem_cons_of_mem _ (yTZ q)
theorem yVJ {b:Nat}:∀ {B:List (Nat × EO)},zWN B→zWN (dropL B b)
 | [],_=>trivial
 | (c,x)::B,h=>by
   rw[dropL]
   split
   ·exact yVJ h.2
   ·exact ⟨by rw[zPZ,h.1];split<;>rfl,yVJ h.2⟩
variable {p:Gp} (B:List (Nat × EO)) {t:Nat}
theorem StL.drop {B:List (Nat × EO)} {b:Nat} (h:StL p B t) (hb:11+p.nl≤b):StL p (dropL B b) t where
 bg:=⟨zYM fun i o hm=>zXY h.bg.below (yTZ hm),yVJ h.bg.keys⟩
 big:=h.big
 has i hi:=by rw[zPZ,if_neg (by omega)];exact h.has i hi
 line i hi:=by rw[zPZ,if_neg (by omega)];exact h.line i hi
 top:=h.top
theorem cdelete_c (G:List Gl) (s:Gs) [Big t] [hS0:StL p B t] (hp:p.ok) (ho:s.over=false) (hs:GsOK p s) (hr:ovl s.put 64 8=zU 8) (ps:List Ck) (tb:List TP) (hx:TxOK p s ps tb) (a b:Nat) (hab:a≤b) (hb:b≤zVM ps) :
  EffR G Tryz.prog 56 [.ptr (some ⟨0,0⟩),.int .u32 (zWQ tb),.int .i64 a,.int .i64 b] (gnd p s B) t (fun v bl nx=>∃ B' s',bl=gnd p s' B'∧StL p B' nx∧Ext B t B' nx∧EdQ p s (tb.map (·.1)++zZN ps) ((zQP ps).take a++(zQP ps).drop b) 0 v s'):=by
 have h1:=hp.big;have h2:=hp.fit;have hln:=hx.len;have hsum:=hx.sum;have ht11:11≤t:=hS0.big;have hab0:=StL.above (p:=p) (B:=B) (t:=t) (t':=t+2) (X:=[(t+1,.cells [.int .i64 b] 3 0 true 0),(t,.cells [.int .i64 a] 3 0 true 0)]) (by omega) (by simp) (by simp[zWN,lkp]) (by simp);simp only[List.cons_append,List.nil_append] at hab0
 have e0:stB (zXG p s) ((t+1,.cells [.int .i64 b] 3 0 true 0)::(t,.cells [.int .i64 a] 3 0 true 0)::B)=(t+1,.cells [.int .i64 b] 3 0 true 0)::(t,.cells [.int .i64 a] 3 0 true 0)::stB (zXG p s) B:=by
  rw[zXK,if_neg (by omega),zXK,if_neg (by omega)]
 have hfa:AtB ((t+1,.cells [.int .i64 b] 3 0 true 0)::(t,.cells [.int .i64 a] 3 0 true 0)::B) (t+2) t (.cells [.int .i64 a] 3 0 true 0):=⟨by omega,by omega,by simp[lkp]⟩;have hto:AtB ((t+1,.cells [.int .i64 b] 3 0 true 0)::(t,.cells [.int .i64 a] 3 0 true 0)::B) (t+2) (t+1) (.cells [.int .i64 b] 3 0 true 0):=⟨by omega,by omega,by simp[lkp]⟩;obtain ⟨T,hT⟩:∃ T,T=t+2:=⟨_,rfl⟩;rw[← hT] at hab0 hfa hto
 generalize hB0:(t+1,EO.cells [.int .i64 b] 3 0 true 0)::(t,EO.cells [.int .i64 a] 3 0 true 0)::B=B0 at hab0 hfa hto e0
 obtain ⟨hS,he0⟩:=hab0;haveI:=hS;haveI:Big T:=⟨hS.big⟩;refine EffR.enter fun Q hQ=>?_
 refine zQV 98 [.tmp 8,.tmp 9] Tryz.func56 ?_
 repeat' (first|(refine zZF 1 ?_)|refine zQQ 592602640729503825871 ?_|(refine stp ?_;simp only[go_sem])|fail)
 refine ⟨?_⟩;rw[← e0,← hT]
 repeat' (first|(refine stp ?_;simp only[go_sem])|(refine EffR.at (yZG B0 G s hp ho hr ps tb hx) ?_)|(simp only[go_sem])|fail)
 rintro v bl nx ⟨B1,v1,rfl,rfl,hS1,he1,htx⟩
 haveI:=hS1;haveI:Big nx:=⟨hS1.big⟩;have h3:=he1.le;have hlen:=yYR (p:=p) B1 G s v1 _ ps tb htx hsum (by omega);obtain ⟨x,r,v2,rfl,hxa,hat,hrt,hra⟩:=htx;have hxt:=hxa.lt;have hX:=hxa.f (p:=p);have hFA:=(hfa.mono he1).f (p:=p);have hTO:=(hto.mono he1).f (p:=p)
 rcases Nat.lt_or_ge a b with hlt | hge
 ·repeat' (first|(refine zZF 8 ?_)|refine zQQ 592602640729503825871 ?_|refine zQW ?_|(refine stp ?_;simp only[go_sem,hFA,hTO])|(refine zWV (id:=4) mixed [(0,[]),(1,[]),(2,[]),(3,[]),(4,[]),(5,[]),(6,[]),(7,[]),(9,[]),(8,[]),(10,[8]),(11,[]),(12,[]),(13,[])] (by kernel_rfl) ?_;simp only[go_sem,hFA])|(refine EffW.at (hlen ) [] rfl (by first|(simp[hxt,zQR hxt];done)|fail) ?_;(try simp only[go_sem,hTO]))|(refine spl (fun h=>?_) (fun h=>?_)<;>first|omega|((try simp only[zKN]);(try simp only[go_sem,hFA,hTO,h])))|fail)
  refine ⟨?_⟩;obtain ⟨ny,hny⟩:∃ X,X=nx+14:=⟨_,rfl⟩;have hup:=StL.up (p:=p) (B:=B1) (T:=nx) (T':=ny) (by omega);rw[← hny];haveI:=hup.1;haveI:Big ny:=⟨hup.1.big⟩;have hFA:=((hfa.mono he1).mono hup.2).f (p:=p);have hTO:=((hto.mono he1).mono hup.2).f (p:=p);have hX:=(hxa.mono hup.2).f (p:=p);have hxt:x<ny:=by omega
  have hrt:r<ny:=by omega
  have htt:t<ny∧t+1<ny:=by omega
  have hall:=all_c (p:=p) B1 G s x hxt
  repeat' (first|refine zQQ 592602640729503825871 ?_|refine zQW ?_|(refine stp ?_;simp only[go_sem])|(refine EffW.at (hall ) [] rfl (by simp[hxt,zQR hxt];omega) ?_;(try simp only[go_sem,zQR hxt]))|fail)
  refine zJQ [(6,.ptr (some ⟨t,0⟩)),(7,.ptr (some ⟨t+1,0⟩)),(10,.ptr (some ⟨x,0⟩)),(12,.ptr (some ⟨ny,0⟩))] 115 [] [.ptr (some ⟨ny+1,0⟩)] (by simp only[go_sem]) Tryz.func115 rfl rfl (by simp only[go_sem,zQS]) ?_;intro cd hcd D;simp only[go_sem,List.nil_append,List.cons_append];refine zQV 26 [] Tryz.func115 ?_
  repeat' (first|refine zQQ 532011 ?_|refine zQW ?_|(refine stp ?_;simp only[go_sem,hX])|fail)
  obtain ⟨tl,htm⟩:∃ l,l=tlM 98 [(6,.ptr (some ⟨t,0⟩)),(7,.ptr (some ⟨t+1,0⟩)),(10,.ptr (some ⟨x,0⟩)),(12,.ptr (some ⟨ny,0⟩))]:=⟨_,rfl⟩;have htlb:zQX (ny+1) tl:=by rw[htm];exact zDH (by simp[zWP];omega)
  have htlk:∀ k,1≤k→zQX (ny+k) tl=True:=fun k hk=>eq_true (zQJ (by omega) _ htlb)
  have htlr:∀ q,zZG (nam (ny+4) q) tl=tl:=fun q=>zWB (k:=ny+1) (i:=3) htlb
  rw[← htm];have hxk:∀ k,x<ny+k:=fun k=>by omega
  have hrx:r<ny+4∧x<ny+4:=by omega
  have hd0:yZW a b 0 (ps.take 0)=[]:=rfl;refine zQM (fun i:Nat=>[(11,.int .i64 i),(10,.int .i64 ps.length),(9,zVW r ps.length),(3,.int .i64 (zVM (ps.take i))),(0,.fn (.yield (D+1)) [] [])]) (fun i:Nat=>zVY (ny+4) (ckC (yZW a b 0 (ps.take i))) 192 3++((ny+3,.rng (D+1) tl .ready none cd)::(ny+2,.raw D (.deferred (some [])))::(ny+1,.cells [.ptr (some ⟨x,0⟩)] 182 0 true 0)::(ny,.cells [zVW (ny+4) (yZW a b 0 (ps.take i)).length] 187 0 true 0)::stB (zXG p s) B1)) (fun i:Nat=>ny+5) (fun i:Nat=>i≤ps.length) (fun i:Nat=>ps.length - i) (0) ?_ ?_ ?_ ?_ ?_
  ·intro i hi;refine ⟨by simp[zWP,show r<ny+5 by omega],?_,by show ny+4≤ny+5;omega⟩;rw[zXS (by simp) (zXD _ _)];simp[htlk,show x<ny+5 by omega]
  ·exact Nat.zero_le _
  ·simp only[go_sem,zQS,zVM,List.map_nil,List.sum_nil]
  ·simp only[hd0,yMD,zVT,List.nil_append,List.length_nil,zWY];simp only[go_sem,zWG]
  ·intro i hi;simp only at hi ⊢
   rcases Nat.lt_or_ge i ps.length with hil | hil
   ·obtain ⟨y,hy⟩:∃ x,ps[i]? = some x:=⟨ps[i],by simp[hil]⟩;have hA:=((hat (List.ne_nil_of_length_pos (by omega))).mono hup.2).f (p:=p);have hg3:=zRV hy;have hae:=zWZ (b:=r) (n:=ps.length) (by omega);have hts:=zVV hy;have htl:=zKJ ps (i+1);have hds:=delP_succ (f:=a) (g:=b) hy;have hpy:=hx.part y (List.mem_of_getElem? hy);have hyl:=hpy.fill;have hyp:=hpy.pos;obtain ⟨L,hL⟩:∃ L,yZW a b 0 (ps.take i)=L:=⟨_,rfl⟩;have hLl:L.length≤i:=by
     have:=(yMG a b (ps.take i) 0 fun z hz=>(hx.part z (List.take_subset _ _ hz)).nn).2.2;rw[hL,List.length_take] at this;omega
    rw[hL] at hds ⊢
    have hckl:=zWR L;have hck1:=zNK L;have hcr:∀ π,zZG π (ckC L)=ckC L:=fun π=>xJQ _ _
    have hcb:∀ k,zQX k (ckC L)=True:=fun k=>eq_true (zXD _ _)
    obtain ⟨yb,hyb⟩:∃ b:Nat,y.b=b:=⟨y.b.toNat,by have:=hpy.nn;omega⟩;rw[hae];unfold delX at hds
    generalize zVM (ps.take i)=o at *
    by_cases hk1:min (b - o) y.T.length≤a - o
    ·rw[if_pos hk1] at hds
     have e1:min ((b:Int) - (o:Int)) (y.T.length:Int)≤max ((a:Int) - (o:Int)) 0:=by omega
     repeat' (first|refine zQQ 532011 ?_|refine zQW ?_|(refine stp ?_;simp only[go_sem,hA,hg3])|(refine spl (fun h=>?_) (fun h=>?_)<;>first|omega|try simp only[go_sem,h])|(refine zQT ?_ ?_;focus omega))
     refine zWD (ny+3) 98 [(6,.ptr (some ⟨t,0⟩)),(7,.ptr (some ⟨t+1,0⟩)),(10,.ptr (some ⟨x,0⟩)),(12,.ptr (some ⟨ny,0⟩))] cd (by simp only[go_sem,← htm]) hcd rfl rfl rfl rfl rfl ?_;rw[← htm];simp only[go_sem,putArgs]
     repeat' (first|refine zQQ 592602640729503825871 ?_|refine zQW ?_|(refine stp ?_;simp only[go_sem,List.append_nil,hyb])|(refine zWV (id:=12) mixed [(1,[]),(5,[]),(7,[]),(0,[]),(2,[]),(3,[]),(11,[]),(4,[]),(6,[]),(8,[]),(9,[]),(10,[]),(12,[])] (by kernel_rfl) ?_;simp only[go_sem,hFA,hTO,yJS])|(refine zJJ (c:=ckC L) (by omega) (by omega) (by first|(simp;done)|fail) (by first|(simp;done)|fail) (by omega) (by first|(simp;done)|fail) (by first|(simp[EV.one];done)|fail) (by simp;omega) ?_;(try simp only[go_sem,yHS]))|(simp only[zPD,go_sem])|(simp only[zKZ,go_sem])|(simp (disch:=omega) only[zQK])|(refine spl (fun h=>?_) (fun h=>?_)<;>first|omega|try simp only[go_sem,h])|fail)
     (refine ⟨(i+1),ny+4,[ny+21],?_,?_,rfl,rfl,?_,⟨?_,rfl,?_,?_,?_,?_,?_⟩⟩;rotate_left;(focus (simp only[];omega));(focus (simp only[go_sem,zQS,hts,hrx,Int.natCast_add]));(focus (omega));(focus simp);(focus (simp));(focus (simp only[];omega));(focus (simp[hds,zXJ,zRK,zZV,zZK,List.length_append,hcb,htlk,hyb];omega));(focus (simp[hds,zXJ,zRK,zZV,zZK,List.length_append,hcr,hrx,htlr,hyb]));(try simp only[]))
     exact hil
    ·rw[if_neg hk1] at hds
     have e1:max ((a:Int) - (o:Int)) 0=((a - o:Nat):Int):=by omega
     have e2:min ((b:Int) - (o:Int)) (y.T.length:Int)=((min (b - o) y.T.length:Nat):Int):=by omega
     by_cases hk2:min (b - o) y.T.length - (a - o)<y.T.length
     ·rw[if_pos hk2] at hds
      repeat' (first|refine zQQ 532011 ?_|refine zQW ?_|(refine stp ?_;simp only[go_sem,hA,hg3])|(refine spl (fun h=>?_) (fun h=>?_)<;>first|omega|try simp only[go_sem,h])|(refine zQT ?_ ?_;focus omega))
      refine zWD (ny+3) 98 [(6,.ptr (some ⟨t,0⟩)),(7,.ptr (some ⟨t+1,0⟩)),(10,.ptr (some ⟨x,0⟩)),(12,.ptr (some ⟨ny,0⟩))] cd (by simp only[go_sem,← htm]) hcd rfl rfl rfl rfl rfl ?_;rw[← htm];simp only[go_sem,putArgs]
      repeat' (first|refine zQQ 592602640729503825871 ?_|refine zQW ?_|(refine stp ?_;simp only[go_sem,hyb])|(refine zWV (id:=12) mixed [(1,[]),(5,[]),(7,[]),(0,[]),(2,[]),(3,[]),(11,[]),(4,[]),(6,[]),(8,[]),(9,[]),(10,[]),(12,[])] (by kernel_rfl) ?_;simp only[go_sem,hFA,hTO,yJS])|(refine zWV (id:=16) mixed [(1,[]),(3,[]),(5,[]),(7,[]),(10,[]),(11,[]),(0,[]),(2,[]),(4,[]),(6,[]),(8,[]),(9,[]),(12,[]),(13,[]),(14,[]),(15,[]),(16,[])] (by kernel_rfl) ?_;simp only[go_sem,List.length_take,List.length_drop])|(refine zJJ (c:=ckC L) (by omega) (by omega) (by first|(simp;done)|fail) (by first|(simp;done)|fail) (by omega) (by first|(simp;done)|fail) (by first|(simp[EV.one];done)|fail) (by simp;omega) ?_;(try simp only[go_sem,yHS]))|(simp only[zPD,go_sem])|(simp only[zKZ,go_sem])|(simp only[go_sem,e1,e2])|(simp (disch:=omega) only[zQK])|(refine spl (fun h=>?_) (fun h=>?_)<;>first|omega|try simp only[go_sem,h])|(refine zQT ?_ ?_;focus omega))
      (refine ⟨(i+1),ny+4,[ny+37],?_,?_,rfl,rfl,?_,⟨?_,rfl,?_,?_,?_,?_,?_⟩⟩;rotate_left;(focus (simp only[];omega));(focus (simp only[go_sem,zQS,hts,hrx,Int.natCast_add]));(focus (omega));(focus simp);(focus (simp));(focus (simp only[];omega));(focus (simp[hds,zXJ,zRK,zZV,zZK,List.length_append,hcb,htlk,hyb];omega));(focus (simp[hds,zXJ,zRK,zZV,zZK,List.length_append,hcr,hrx,htlr,hyb]));(try simp only[]))
      exact hil
     ·rw[if_neg hk2] at hds
      repeat' (first|refine zQQ 532011 ?_|refine zQW ?_|(refine stp ?_;simp only[go_sem,hA,hg3])|(refine spl (fun h=>?_) (fun h=>?_)<;>first|omega|try simp only[go_sem,h])|(refine zQT ?_ ?_;focus omega))
      refine zWD (ny+3) 98 [(6,.ptr (some ⟨t,0⟩)),(7,.ptr (some ⟨t+1,0⟩)),(10,.ptr (some ⟨x,0⟩)),(12,.ptr (some ⟨ny,0⟩))] cd (by simp only[go_sem,← htm]) hcd rfl rfl rfl rfl rfl ?_;rw[← htm];simp only[go_sem,putArgs]
      repeat' (first|refine zQQ 592602640729503825871 ?_|refine zQW ?_|(refine stp ?_;simp only[go_sem,hyb,yJS])|(refine zWV (id:=12) mixed [(1,[]),(5,[]),(7,[]),(0,[]),(2,[]),(3,[]),(11,[]),(4,[]),(6,[]),(8,[]),(9,[]),(10,[]),(12,[])] (by kernel_rfl) ?_;simp only[go_sem,hFA,hTO,yJS])|(simp only[zPD,go_sem])|(simp only[zKZ,go_sem])|(simp only[go_sem,e1,e2])|(simp (disch:=omega) only[zQK])|(refine spl (fun h=>?_) (fun h=>?_)<;>first|omega|try simp only[go_sem,h])|fail)
      (refine ⟨(i+1),ny+4,[ny+4],?_,?_,rfl,rfl,?_,⟨?_,rfl,?_,?_,?_,?_,?_⟩⟩;rotate_left;(focus (simp only[];omega));(focus (simp only[go_sem,zQS,hts,hrx,Int.natCast_add]));(focus (omega));(focus simp);(focus (simp));(focus (simp only[];omega));(focus (simp[hds,List.append_nil,hcb,htlk];omega));(focus (simp[hds,List.append_nil,hcr,hrx,htlr]));(try simp only[]))
      exact hil
   ·obtain rfl:i=ps.length:=by omega
    rw[List.take_length]
    repeat' (first|refine zQQ 532011 ?_|(refine stp ?_;simp only[go_sem])|(refine spl (fun h=>?_) (fun h=>?_)<;>first|omega|try simp only[go_sem,h])|fail)
    refine zZZ ?_ ?_ ?_ ⟨.ready,none,?_,by simp,?_⟩
    ·simp[htlk,zXD,show x<ny+5 by omega]
    ·simp only[];omega
    ·simp[EV.bel,zQX]
    ·simp only[go_sem]
    ·simp only[zGG,go_sem];obtain ⟨L,hL⟩:∃ L,yZW a b 0 ps=L:=⟨_,rfl⟩;rw[hL];obtain ⟨o1,o2,o3,o4⟩:=delP_ok (f:=a) (g:=b) hx hlt;rw[hL] at o1 o2 o3 o4
     have hckl:=zWR L;have hps0:ps ≠ []:=fun e=>by
      rw[e] at hb
      have:zVM []=0:=rfl;omega
     have hny:11≤ny:=hup.1.big;have hab2:=StL.above (p:=p) (B:=B1) (t:=ny) (t':=ny+5) (X:=zVY (ny+4) (ckC L) 192 3++[(ny+2,.raw D (.deferred (some []))),(ny+1,.cells [.ptr (some ⟨x,0⟩)] 182 0 true 0),(ny,.cells [zVW (ny+4) L.length] 187 0 true 0)]) (by omega) ?_ ?_ ?_;rw[List.append_assoc] at hab2
     simp only[List.cons_append,List.nil_append] at hab2
     have e2:stB (zXG p s) (zVY (ny+4) (ckC L) 192 3++(ny+2,.raw D (.deferred (some [])))::(ny+1,.cells [.ptr (some ⟨x,0⟩)] 182 0 true 0)::(ny,.cells [zVW (ny+4) L.length] 187 0 true 0)::B1)=zVY (ny+4) (ckC L) 192 3++(ny+2,.raw D (.deferred (some [])))::(ny+1,.cells [.ptr (some ⟨x,0⟩)] 182 0 true 0)::(ny,.cells [zVW (ny+4) L.length] 187 0 true 0)::stB (zXG p s) B1:=by
      haveI:Big (ny+4):=⟨by omega⟩;rw[zTN,zXK,if_neg (by omega),zXK,if_neg (by omega),zXK,if_neg (by omega)]
     have hbx:AtB (zVY (ny+4) (ckC L) 192 3++(ny+2,.raw D (.deferred (some [])))::(ny+1,.cells [.ptr (some ⟨x,0⟩)] 182 0 true 0)::(ny,.cells [zVW (ny+4) L.length] 187 0 true 0)::B1) (ny+5) ny (.cells [zVW (ny+4) L.length] 187 0 true 0):=⟨by omega,by omega,by rw[zXW,zVF (zST (Nat.le_refl _)) (show ny<ny+4 by omega)];simp[lkp]⟩;have hraw:AtB (zVY (ny+4) (ckC L) 192 3++(ny+2,.raw D (.deferred (some [])))::(ny+1,.cells [.ptr (some ⟨x,0⟩)] 182 0 true 0)::(ny,.cells [zVW (ny+4) L.length] 187 0 true 0)::B1) (ny+5) (ny+2) (.raw D (.deferred (some []))):=⟨by omega,by omega,by rw[zXW,zVF (zST (Nat.le_refl _)) (show ny+2<ny+4 by omega)];simp[lkp]⟩;have hrow:L ≠ []→AtB (zVY (ny+4) (ckC L) 192 3++(ny+2,.raw D (.deferred (some [])))::(ny+1,.cells [.ptr (some ⟨x,0⟩)] 182 0 true 0)::(ny,.cells [zVW (ny+4) L.length] 187 0 true 0)::B1) (ny+5) (ny+4) (.cells (ckC L) 192 3 true 0):=fun hne=>⟨by omega,by omega,by
      rw[zXR (by rw[zWR];have:=List.length_pos_iff.2 hne;omega)];simp[lkp]⟩
     rw[← e2];obtain ⟨N2,hN2⟩:∃ X,X=ny+5:=⟨_,rfl⟩;rw[← hN2] at hab2 hbx hraw hrow ⊢
     generalize (zVY (ny+4) (ckC L) 192 3++(ny+2,.raw D (.deferred (some [])))::(ny+1,.cells [.ptr (some ⟨x,0⟩)] 182 0 true 0)::(ny,.cells [zVW (ny+4) L.length] 187 0 true 0)::B1)=Bq at hab2 hbx hraw hrow ⊢
     haveI:=hab2.1;haveI:Big N2:=⟨hab2.1.big⟩;have hle2:=hab2.2.le;have hLX:=hbx.f (p:=p);have hxq:=(hxa.mono hup.2).mono hab2.2;have hpq:=((hat hps0).mono hup.2).mono hab2.2
     rcases Nat.eq_zero_or_pos L.length with hl0 | hl0
     ·obtain rfl:L=[]:=List.eq_nil_of_length_eq_zero hl0;have hca:=ccarryN_c (p:=p) (t:=N2) Bq G s hp ho hs hr ps tb hx hps0 x r v2 hxq hpq;rw[List.length_nil,zWY] at hLX
      have o2':[]=List.take a (zQP ps)++List.drop b (zQP ps):=o2
      repeat' (first|refine zQQ 592602640729503825871 ?_|(refine stp ?_;simp only[go_sem,hLX])|(refine EffR.at hca ?_)|(simp only[go_sem])|fail)
      rintro v bl nx3 ⟨B5,s5,rfl,hS5,he5,hed⟩
      have h6:=he5.le;have hsame:∀ j,j<N2→j ≠ ny+4→lkp B5 j=lkp Bq j:=fun j hj _=>he5.same j hj
      rw[o2'] at hed
      haveI:=hS5;obtain ⟨r5,e5,rfl⟩:∃ r e,v=.tuple [.int .u32 r,.int .i64 e]:=by
       rcases hed with ⟨_,_,rfl,-⟩ | ⟨rfl,-⟩<;>exact ⟨_,_,rfl⟩
      repeat' (first|(refine stp ?_;simp only[go_sem])|(simp only[go_sem])|fail)
      refine ⟨ny+2,D,rfl,?_,?_⟩
      ·show (if ny+2<nx3 then _ else _)=_;rw[if_pos (by omega),StG.lkp_hi (by omega),hsame (ny+2) (by omega) (by omega)];exact hraw.lk
      ·simp only[go_sem,ES.kill,yXR];haveI hS6:=hS5.drop (b:=ny+2) (by have:=hup.1.top;omega);refine zWX hQ (by omega) (Bg.below (t:=nx3)) (by simp[EV.bel,zQX]) ⟨dropL B5 (ny+2),s5,rfl,hS6,⟨by omega,fun j hj=>?_⟩,hed⟩;rw[zPZ,if_neg (by omega),hsame j (by omega) (by omega),hab2.2.same j (by omega),hup.2.same j (by omega),he1.same j (by omega),he0.same j hj]
     ·have hca:=yFX (p:=p) (t:=N2) Bq G s hp ho hs hr ps tb hx hps0 x r v2 hxq hpq L o1 (by omega) hl0 (ny+4) L.length 3 [] (by rw[List.append_nil];exact hrow (List.length_pos_iff.1 hl0)) (Nat.le_refl _) (by simp) (.inr ⟨rfl,by simp⟩) trivial rfl (by omega);rw[zWZ hl0] at hLX
      repeat' (first|refine zQQ 592602640729503825871 ?_|(refine stp ?_;simp only[go_sem,hLX])|(refine EffR.at hca ?_)|(simp only[go_sem])|fail)
      rintro v bl nx3 ⟨B5,s5,rfl,hS5,h6,hsame,hed⟩
      rw[o2,o3] at hed
      haveI:=hS5;obtain ⟨r5,e5,rfl⟩:∃ r e,v=.tuple [.int .u32 r,.int .i64 e]:=by
       rcases hed with ⟨_,_,rfl,-⟩ | ⟨rfl,-⟩<;>exact ⟨_,_,rfl⟩
      repeat' (first|(refine stp ?_;simp only[go_sem])|(simp only[go_sem])|fail)
      refine ⟨ny+2,D,rfl,?_,?_⟩
      ·show (if ny+2<nx3 then _ else _)=_;rw[if_pos (by omega),StG.lkp_hi (by omega),hsame (ny+2) (by omega) (by omega)];exact hraw.lk
      ·simp only[go_sem,ES.kill,yXR];haveI hS6:=hS5.drop (b:=ny+2) (by have:=hup.1.top;omega);refine zWX hQ (by omega) (Bg.below (t:=nx3)) (by simp[EV.bel,zQX]) ⟨dropL B5 (ny+2),s5,rfl,hS6,⟨by omega,fun j hj=>?_⟩,hed⟩;rw[zPZ,if_neg (by omega),hsame j (by omega) (by omega),hab2.2.same j (by omega),hup.2.same j (by omega),he1.same j (by omega),he0.same j hj]
     ·refine zKP (p:=fun z=>zXT ny (z++[(ny+2,.raw D (.deferred (some []))),(ny+1,.cells [.ptr (some ⟨x,0⟩)] 182 0 true 0),(ny,.cells [zVW (ny+4) L.length] 187 0 true 0)])) (fun _=>?_) ?_<;>simp[zXT]
     ·refine zKP (p:=fun z=>zWN (z++[(ny+2,.raw D (.deferred (some []))),(ny+1,.cells [.ptr (some ⟨x,0⟩)] 182 0 true 0),(ny,.cells [zVW (ny+4) L.length] 187 0 true 0)])) (fun _=>?_) ?_<;>simp[zWN,lkp]
     ·rw[zXS (by simp) (zXD _ _)];simp[show x<ny+5 by omega]
 ·obtain rfl:a=b:=by omega
  repeat' (first|refine zQQ 592602640729503825871 ?_|refine zQW ?_|(refine stp ?_;simp only[go_sem,hFA,hTO])|(refine zWV (id:=4) mixed [(0,[]),(1,[]),(2,[]),(3,[]),(4,[]),(5,[]),(6,[]),(7,[]),(9,[]),(8,[]),(10,[8]),(11,[]),(12,[]),(13,[])] (by kernel_rfl) ?_;simp only[go_sem,hFA])|(refine EffW.at (hlen ) [] rfl (by first|(simp[hxt,zQR hxt];done)|fail) ?_;(try simp only[go_sem,hTO]))|(refine spl (fun h=>?_) (fun h=>?_)<;>first|omega|((try simp only[zKN]);(try simp only[go_sem,hFA,hTO,h])))|fail)
  have hup:=StL.up (p:=p) (B:=B1) (T:=nx) (T':=nx+14) (by omega);haveI:=hup.1;refine zWX hQ (by omega) (Bg.below (t:=nx+14)) (by simp[EV.bel,zQX]) ⟨B1,s,rfl,hup.1,(he0.trans he1).trans hup.2,.inl ⟨ps,tb,rfl,?_⟩⟩;rw[List.take_append_drop];exact EdOK.refl hx hs
end Go.Proofs.YtncphnpndkjkaaaGreatDoor
