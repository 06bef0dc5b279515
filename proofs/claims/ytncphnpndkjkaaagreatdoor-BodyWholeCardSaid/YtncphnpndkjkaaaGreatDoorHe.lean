/-
  Own work: a part of the proof that the last text closes.
-/
import Derived.Test.YtncphnpndkjkaaaGreatDoorHd
import Derived.Test.YtncphnpndkjkaaaGreatDoorFh
namespace Go.Proofs.YtncphnpndkjkaaaGreatDoor
open Go.E
set_option linter.all false
set_option maxRecDepth 100000
set_option maxHeartbeats 16000000
section
theorem undBs:Tryz.prog.underlying 56=some (.slice 5):=by kernel_rfl
theorem clone_c (G:List Gl) (D x:List UInt8) (z f o n cap:Nat) (w:Bool) (hn:x.length=n) (hx:(D.drop o).take n=x) (hl:o+n≤D.length) (h0:0<n) (hb:n≤70000000):Eff G Tryz.prog 137 [.slice (some ⟨0,o⟩) n cap] [(0,.cells (zQZ D) 5 z w f)] 1 (.slice (some ⟨1,0⟩) n n) [(0,.cells (zQZ D) 5 z w f),(1,.cells (zQZ x) 5 1 true 0)] 2:=by
 have e1:List.take n (List.drop o (zQZ D))=zQZ x:=by rw[zZP,zVQ,hx]
 unfold Eff;refine zQV 8 [.tmp 2] Tryz.func137 ?_
 repeat' (first|refine zQQ 21 ?_|(refine stp ?_;simp only[go_sem,e1,hn,hl,zQY])|(refine ⟨(xWZ undBs).1,?_⟩)|(refine spl (fun h=>?_) (fun h=>?_)<;>first|omega|((try simp only[zZQ,zJB,zKN,zRM])))|(refine zQT ?_ ?_;focus omega))
 exact zWW [2] (by simp) (by simp) (by simp) (by simp) (by simp) (by simp) rfl (by simp) (by simp)
variable {p:Gp} (B:List (Nat × EO)) {t:Nat}
theorem CellsV.snoc {B':List (Nat × EO)} {T:Nat} [hS:StL p B' T] {evs:List EV} {cs:List Cell} (h:CellsV B' T evs cs) (x:Cell) (hx:0<x.length) :
  StL p ((T,.cells (zQZ x) 5 1 true 0)::B') (T+1)∧Ext B' T ((T,.cells (zQZ x) 5 1 true 0)::B') (T+1)∧CellsV ((T,.cells (zQZ x) 5 1 true 0)::B') (T+1) (evs++[.slice (some ⟨T,0⟩) x.length x.length]) (cs++[x]):=by
 have hx1:=StL.above (p:=p) (B:=B') (t:=T) (t':=T+1) (X:=[(T,.cells (zQZ x) 5 1 true 0)]) (by omega) (by simp) (by simp[zWN,lkp]) (by simp);refine ⟨hx1.1,hx1.2,CellsV.append (h.mono hx1.2) ⟨⟨T,0,x.length,x,1,true,0,rfl,⟨hS.big,by omega,by simp[lkp]⟩,by omega,by simp⟩,trivial⟩⟩
theorem tcells_c (G:List Gl) (s:Gs) [Big t] [hS0:StL p B t] (hp:p.ok) (ho:s.over=false) (hr:ovl s.put 64 8=zU 8) (c:Nat) (hc1:1≤c) (hc2:c≤62) (l:List TP) (hl:Chain p s c l) (hn:l.length≤p.n) :
  EffR G Tryz.prog 109 [.ptr (some ⟨0,0⟩),.int .u32 (zWQ l),.int .i64 c] (gnd p s B) t (fun v bl nx=>∃ B' v1 evs,v=.tuple [v1,.int .i64 0]∧bl=gnd p s B'∧StL p B' nx∧Ext B t B' nx∧RowA B' nx v1 evs.length evs 56 1∧CellsV B' nx evs (l.flatMap (·.2))):=by
 have h1:=hp.big;have h2:=hp.fit;refine EffR.enter fun Q hQ=>?_
 refine zQV 44 [.tmp 6,.tmp 7] Tryz.func109 ?_
 repeat' (first|refine zQQ 8116000711 ?_|(refine stp ?_;simp only[go_sem])|fail)
 refine EffR.at (yPP B G s hp ho hr c hc1 hc2 l hl hn) ?_
 rintro v bl nx ⟨B1,v1,ps,rfl,rfl,hS1,he1,hps,⟨r,rfl,hat,hrn⟩,hreg⟩
 haveI:=hS1;haveI:Big nx:=⟨hS1.big⟩;have hlen:ps.length=l.length:=by rw[hps.length,List.length_map]
 have h3:=he1.le;have hln:=hl.lens;simp only[go_sem]
 repeat' (first|refine zQQ 8116000711 ?_|refine zQW ?_|(refine stp ?_;simp only[go_sem])|fail)
 refine zQM (fun z:Nat × List EV × List (Nat × EO) × Nat=>[(9,.int .i64 0),(10,zVW z.2.2.2 z.2.1.length),(22,zVW r ps.length),(23,.int .i64 ps.length),(24,.int .i64 z.1)]) (fun z:Nat × List EV × List (Nat × EO) × Nat=>zVY z.2.2.2 z.2.1 56 1++stB (zXG p s) z.2.2.1) (fun z:Nat × List EV × List (Nat × EO) × Nat=>z.2.2.2+1) (fun z:Nat × List EV × List (Nat × EO) × Nat=>z.1≤ps.length∧StL p z.2.2.1 z.2.2.2∧Ext B1 nx z.2.2.1 z.2.2.2∧CellsV z.2.2.1 z.2.2.2 z.2.1 ((l.take z.1).flatMap (·.2))) (fun z:Nat × List EV × List (Nat × EO) × Nat=>ps.length - z.1) ((0,[],B1,nx)) ?_ ?_ ?_ ?_ ?_
 ·rintro ⟨i,evs,B',T⟩ ⟨hi,hS,he,hev⟩
  haveI:=hS;have h4:nx≤T:=he.le;refine ⟨by simp[zWP,show r<T+1 by omega],?_,by show t≤T+1;omega⟩;rw[zXS (by simp) (zQJ (by simp) _ hev.below),Bg.blBelow];trivial
 ·exact ⟨Nat.zero_le _,hS1,Ext.refl _ _,trivial⟩
 ·simp only[go_sem,zQS,zWY,List.length_nil]
 ·show zWG _ (stB (zXG p s) B1);simp only[go_sem]
 ·rintro ⟨i,evs,B',T⟩ ⟨hi,hS,he,hev⟩
  simp only at hi hS he hev ⊢
  haveI:=hS;haveI:Big T:=⟨hS.big⟩;have h4:nx≤T:=he.le
  rcases Nat.lt_or_ge i ps.length with hil | hil
  ·have hA:=((hat (List.ne_nil_of_length_pos (by omega))).mono he).f (p:=p);obtain ⟨x,y,hx,hy,-,-,r0,o0,cap0,C0,w0,f0,hxr,hrow,hrl,hcv⟩:=hps.get2 hil;have hpc:=zQF ps;have hg3:=zYX hx;rw[hxr] at hg3
   have hrow':=(hrow.mono he);have hae:=zWZ (b:=r) (n:=ps.length) (by omega);rw[hae]
   repeat' (first|refine zQQ 8116000711 ?_|refine zQW ?_|(refine stp ?_;simp only[go_sem,hA,hg3])|(refine spl (fun h=>?_) (fun h=>?_)<;>first|omega|try simp only[go_sem,h])|(refine zQT ?_ ?_;focus omega))
   obtain ⟨tp,htp,rfl⟩:∃ tp,l[i]? = some tp∧zWM tp=y:=by
    rw[List.getElem?_map] at hy
    cases hq:l[i]? with
    | none=>rw[hq] at hy;cases hy
    | some tp=>rw[hq] at hy;exact ⟨tp,rfl,by simpa using hy⟩
   have hmem:=List.mem_of_getElem? htp;have hfb:=zFB (l:=l.take i) fun x hx=>hl.fills x (List.mem_of_mem_take hx)
   have hfy:=hl.fills tp hmem;have hcl:=hln tp hmem;rw[List.length_take] at hfb
   refine zQM (fun z:Nat × List EV × List (Nat × EO) × Nat=>[(9,.int .i64 0),(10,zVW z.2.2.2 z.2.1.length),(22,zVW r ps.length),(23,.int .i64 ps.length),(24,.int .i64 i),(29,.slice (some ⟨r0,o0⟩) tp.2.length cap0),(30,.int .i64 tp.2.length),(31,.int .i64 z.1)]) (fun z:Nat × List EV × List (Nat × EO) × Nat=>zVY z.2.2.2 z.2.1 56 1++stB (zXG p s) z.2.2.1) (fun z:Nat × List EV × List (Nat × EO) × Nat=>z.2.2.2+1) (fun z:Nat × List EV × List (Nat × EO) × Nat=>z.1≤tp.2.length∧StL p z.2.2.1 z.2.2.2∧Ext B' T z.2.2.1 z.2.2.2∧CellsV z.2.2.1 z.2.2.2 z.2.1 ((l.take i).flatMap (·.2)++tp.2.take z.1)) (fun z:Nat × List EV × List (Nat × EO) × Nat=>tp.2.length - z.1) ((0,evs,B',T)) ?_ ?_ ?_ ?_ ?_
   ·rintro ⟨j,evs2,B2,T2⟩ ⟨hj,hS2,he2,hev2⟩
    haveI:=hS2;have h5:T≤T2:=he2.le;have h6:=hrow'.lt;refine ⟨by simp[zWP,show r<T2+1 by omega,show r0<T2+1 by omega],?_,by show t≤T2+1;omega⟩;rw[zXS (by simp) (zQJ (by simp) _ hev2.below),Bg.blBelow];trivial
   ·exact ⟨Nat.zero_le _,hS,Ext.refl _ _,by simpa using hev⟩
   ·simp only[go_sem,zQS,hae,zWM]
   ·show zWG _ (zVY T evs 56 1++stB (zXG p s) B');simp only[go_sem]
   ·rintro ⟨j,evs2,B2,T2⟩ ⟨hj,hS2,he2,hev2⟩
    simp only at hj hS2 he2 hev2 ⊢
    haveI:=hS2;haveI:Big T2:=⟨hS2.big⟩;have h5:T≤T2:=he2.le;have hevl:=hev2.length;rw[List.length_append,List.length_take] at hevl
    rcases Nat.lt_or_ge j tp.2.length with hjl | hjl
    ·have hR:=(hrow'.mono he2).f (p:=p);obtain ⟨v,hv1,d,od,capd,D,zd,wd,fd,rfl,hd1,hd2,hd3⟩:=hcv.get (i:=j) (c:=tp.2[j]) (by simp[zWM,hjl]);have hD:=((hd1.mono he).mono he2).f (p:=p);have hcj:=hcl _ (List.getElem_mem hjl);rw[List.getElem?_take,if_pos (by simpa [zWM] using hjl),List.getElem?_drop] at hv1
     have hcx:=clone_c G D tp.2[j] zd fd od _ capd wd rfl hd3 hd2 (by omega) (by omega);have hsn:=hev2.snoc (p:=p) tp.2[j] (by omega);have hre0:∀ q,zZG (nam T2 q) evs2=evs2:=fun q=>zWB (i:=0) hev2.below
     have hbe:∀ i,zQX (T2+i) evs2=True:=fun i=>eq_true (zQJ (Nat.le_add_right _ _) _ hev2.below)
     have hrT:r<T2:=by omega
     have hr0T:r0<T2:=by have:=hrow'.lt;omega
     rw[hcj] at hsn
     simp only[zWM] at hrl
     repeat' (first|refine zQQ 8116000711 ?_|refine zQW ?_|(refine stp ?_;simp only[go_sem,hR,hv1])|(refine Eff.atR (hcx ) rfl [d] rfl (by first|(simp[hD];done)|fail) rfl ?_;(try simp only[go_sem]))|(refine zJJ (c:=evs2) (by omega) (by first|(simp;done)|fail) (by first|(simp;done)|fail) (by first|(simp;done)|fail) (by omega) (by first|(simp;done)|fail) (by first|(simp[EV.one];done)|fail) (by simp;omega) ?_;(try simp only[go_sem]))|(simp (disch:=omega) only[zQK])|(refine spl (fun h=>?_) (fun h=>?_)<;>first|omega|try simp only[go_sem,h])|(refine zQT ?_ ?_;focus omega))
     (refine ⟨(j+1,evs2++[.slice (some ⟨T2,0⟩) c c],(T2,.cells (zQZ tp.2[j]) 5 1 true 0)::B2,T2+1),T2,[T2+1,T2+3],?_,?_,rfl,rfl,?_,⟨?_,rfl,?_,?_,?_,?_,?_⟩⟩;rotate_left;(focus (simp only[];omega));(focus (simp[go_sem,zQS,zZK,hae,hrT,hr0T,List.length_append,hcj]));(focus (omega));(focus simp);(focus (simp));(focus (simp only[];omega));(focus (simp[Nat.add_assoc,hbe,zBT]));(focus (simp[hre0,zBT,hcj]));(try simp only[]))
     refine ⟨hjl,hsn.1,he2.trans hsn.2.1,?_⟩;rw[List.take_succ,List.getElem?_eq_getElem hjl,← List.append_assoc];exact hsn.2.2
    ·obtain rfl:j=tp.2.length:=by omega
     have hre0:∀ q,zZG (nam T2 q) evs2=evs2:=fun q=>zWB (i:=0) hev2.below
     have hbe:∀ i,zQX (T2+i) evs2=True:=fun i=>eq_true (zQJ (Nat.le_add_right _ _) _ hev2.below)
     have hrT:r<T2:=by omega
     rw[List.take_length] at hev2
     repeat' (first|refine zQQ 8116000711 ?_|(refine stp ?_;simp only[go_sem])|(simp (disch:=omega) only[zQK])|(refine spl (fun h=>?_) (fun h=>?_)<;>first|omega|try simp only[go_sem,h])|fail)
     (refine ⟨(i+1,evs2,B2,T2),T2,[T2],?_,?_,rfl,rfl,?_,⟨?_,rfl,?_,?_,?_,?_,?_⟩⟩;rotate_left;(focus (simp only[];omega));(focus (simp[go_sem,zQS,hae,hrT]));(focus (omega));(focus simp);(focus (simp));(focus (simp only[];omega));(focus (simp[hbe]));(focus (simp[hre0]));(try simp only[]))
     refine ⟨hil,hS2,he.trans he2,?_⟩;rw[List.take_succ,htp,List.flatMap_append]
     simpa using hev2
  ·obtain rfl:i=ps.length:=by omega
   repeat' (first|refine zQQ 8116000711 ?_|(refine stp ?_;simp only[go_sem])|(refine spl (fun h=>?_) (fun h=>?_)<;>first|omega|try simp only[go_sem,h])|fail)
   have hx:=zRJ (p:=p) (B':=B') (T:=T) (ty:=56) (k:=1) (n:=evs.length) (c:=evs) (zQJ (Nat.le_succ _) _ hev.below) (by omega) (by omega);haveI:=hx.1;rw[hlen,List.take_length] at hev
   rw[← zTN];exact zWX hQ (by omega) (Bg.below (t:=T+1)) (by simp[EV.bel]) ⟨_,_,evs,rfl,rfl,hx.1,(he1.trans he).trans hx.2.1,hx.2.2,hev.mono hx.2.1⟩
end
section
theorem xXR {j:TI} (hsz:j.size=1) {e n T len cap z nx:Nat} {D x:List UInt8} {bl:List (Nat × EO)} {G:List Gl} {K:EV→ES→Prop} (hg:lkp bl T=some (.cells (zQZ D) e z true 0)) (hT:T<nx) (hn:x.length=n) (hl:len≤cap) (hc:cap≤D.length) (hz:z=0∨z=1∧cap=D.length)
  (hb:(len+n)*j.bytes≤140737488355328∧len+n≤9223372036854775807) (h1:len+n≤cap→K (.slice (some ⟨T,0⟩) (len+n) cap) ⟨setL bl T (.cells (zQZ (yPW D len x)) e z true 0),nx,G⟩)
  (h2:¬ len+n≤cap→∀ bl',bl'=bl∨bl'=dropL bl T→K (.slice (some ⟨nx,0⟩) (len+n) (len+n)) ⟨(nx,.cells (zQZ (D.take len++x)) e 1 true 0)::bl',nx+1,G⟩):ySM j e n (zQZ x) (.slice (some ⟨T,0⟩) len cap) ⟨bl,nx,G⟩ K:=by
 rw[zFF];have hget:(⟨bl,nx,G⟩:ES).get T=some (.cells (zQZ D) e z true 0):=by unfold ES.get;rw[if_pos hT];exact hg
 have hone:(zQZ x).all EV.one=true:=by simp[zQZ,EV.one]
 have hbt:List.take (len*1) (List.drop 0 (zQZ D))++zQZ x=zQZ (D.take len++x):=by rw[Nat.mul_one,List.drop_zero,zVQ,← zWJ]
 rw[hget];simp only[hsz]
 by_cases hr:len+n≤cap
 ·rw[if_pos hr];refine ⟨⟨trivial,Nat.zero_le _,hone,by rw[zQY];omega⟩,?_⟩;rw[Nat.zero_add,Nat.mul_one,yWK];exact h1 hr
 ·rw[if_neg hr];refine ⟨⟨hl,by rw[zQY];omega,hb⟩,?_⟩;rw[hbt]
  rcases hz with rfl | ⟨rfl,hcd⟩
  ·rw[if_pos (.inl rfl)];exact h2 hr bl (.inl rfl)
  ·rw[if_neg (by rw[zQY];omega)];exact ⟨by simp[hone],h2 hr _ (.inr rfl)⟩
theorem equal_c (G:List Gl) (a b:List UInt8) (z1 f1 z2 f2 c1 c2:Nat) (w1 w2:Bool) (ha:a.length≤70000000) (hb:b.length≤70000000):Eff G Tryz.prog 182 [.slice (some ⟨0,0⟩) a.length c1,.slice (some ⟨1,0⟩) b.length c2] [(0,.cells (zQZ a) 5 z1 w1 f1),(1,.cells (zQZ b) 5 z2 w2 f2)] 2 (.bool (decide (a=b))) [(0,.cells (zQZ a) 5 z1 w1 f1),(1,.cells (zQZ b) 5 z2 w2 f2)] 2:=by
 unfold Eff;refine zQV 10 [.tmp 4] Tryz.func182 ?_
 repeat' (first|refine zQQ 19 ?_|(refine stp ?_;simp only[go_sem,zSM,zQY])|fail)
 exact zWW [] (by simp) (by simp) (by simp) (by simp) (by simp) (by simp) rfl (by simp) (by simp)
variable {p:Gp} (B:List (Nat × EO)) {t:Nat}
structure WrR (p:Gp) (s s':Gs) (b:Nat) (d:List UInt8):Prop where
 taken:s'.taken=s.taken
 least:s'.least=s.least
 over:s'.over=s.over
 rd:∀ b',rd p s' b'=if b'=b then d else rd p s b'
 low:∀ y,y<p.at_→zDY s'.put y=zDY s.put y
theorem rd_wr (s:Gs) (b:Nat) (d:List UInt8) (hd:d.length=256):WrR p s (wrS p s b d) b d where
 taken:=rfl
 least:=rfl
 over:=rfl
 rd b':=by
  unfold rd wrS ovl
  by_cases h:b'=b
  ·subst h;rw[if_pos rfl]
   apply List.ext_getElem
   ·simp[hd]
   ·intro i h1 h2;have hi:i<256:=by simpa using h1
    simp only[List.getElem_map,List.getElem_range,yYQ];rw[if_pos (by omega),show p.at_+256*b' + i - (p.at_+256*b')=i by omega];simp[h2]
  ·rw[if_neg h];refine List.map_congr_left fun i hi=>?_
   have:=List.mem_range.1 hi;simp only[yYQ];rw[if_neg (by omega)]
 low y hy:=by
  unfold wrS;simp only[yYQ];rw[if_neg (by omega)]
theorem WrR.same (s:Gs) (b:Nat) (d:List UInt8) (h:Go.Proofs.YtncphnpndkjkaaaGreatDoor.rd p s b=d):WrR p s s b d where
 taken:=rfl
 least:=rfl
 over:=rfl
 rd b':=by
  by_cases e:b'=b
  ·subst e;rw[if_pos rfl];exact h
  ·rw[if_neg e]
 low _ _:=rfl
def zBW (pls:List PL) (k:Nat):Nat:=match pls[k+1]? with
 | some y=>(y.b+1).toNat
 | none=>0
attribute [-go_sem] zFF
theorem xJH (G:List Gl) (s:Gs) [Big t] [hS0:StL p B t] (hp:p.ok) (ho:s.over=false) (c:Nat) (hc1:1≤c) (hc2:c≤62) (ps:List Pt) (pls:List PL) (hps:PsV B t ps pls) (v1:EV) (hout:OutV B t v1 ps) (k b:Nat) (y:PL) (hy:pls[k]? = some y) (hyb:y.b=b) (hbn:b<p.n) (hu:b∈s.taken)
  (hyl:∀ x∈y.cs,x.length=c) (hy1:1≤y.cs.length) (hyf:y.cs.length≤248 / c) (hnb:∀ z,pls[k+1]? = some z→0≤z.b∧z.b<p.n) (hpl:pls.length≤70000000) :
  EffR G Tryz.prog 183 [.ptr (some ⟨0,0⟩),v1,.int .i64 k,.int .i64 c] (gnd p s B) t (fun v bl nx=>∃ s',v=.int .i64 0∧bl=gnd p s' B∧nx=t∧WrR p s s' b (zRS c (zBW pls k) y.cs)):=by
 have h1:=hp.big;have h2:=hp.fit;obtain ⟨r,rfl,hat,hrn⟩:=hout;have hlen:=hps.length;have hkl:k<ps.length:=by rw[hlen];exact (List.getElem?_eq_some_iff.1 hy).1
 have hA:=(hat (List.ne_nil_of_length_pos (by omega))).f (p:=p);obtain ⟨x,hx,hxb,hxf,r0,o0,cap0,C0,w0,f0,hxr,hrow,hrl,hcv⟩:=hps.get hy;have hpc:=zQF ps;have hg3:=zYX hx;rw[hxr,hxb,hyb] at hg3
 have hR:=hrow.f (p:=p);have hae:=zWZ (b:=r) (n:=ps.length) (by omega);rw[hae];refine EffR.enter fun Q hQ=>?_
 refine zQV 84 [.tmp 8] Tryz.func183 ?_;obtain ⟨next,hn1,hn2,hn3,hn4⟩:∃ next:Nat,zBW pls k=next∧next<4294967296∧(k+1<ps.length→∃ m:Nat,(ptC ps)[(k+1)*3]? = some (.int .i64 m)∧(m:Int)+1=next)∧(¬ k+1<ps.length→next=0):=by
  by_cases hk2:k+1<ps.length
  ·obtain ⟨x2,y2,hx2,hy2,hb2,-⟩:=hps.get2 hk2;have h3:=hnb y2 hy2;refine ⟨(y2.b+1).toNat,by unfold zBW;rw[hy2],by omega,fun _=>⟨y2.b.toNat,?_,by omega⟩,fun h=>absurd hk2 h⟩;have:=(zGQ hx2).1;rw[Nat.mul_comm,this,hb2]
   congr 2;omega
  ·refine ⟨0,?_,by omega,fun h=>absurd h hk2,fun _=>rfl⟩;unfold zBW;rw[List.getElem?_eq_none (by omega)]
 have hcs:y.cs.length<65536:=by have:=Nat.div_le_self 248 c;omega
 have hcl:=yRT hyf;have hml:c*y.cs.length=y.cs.flatten.length:=(zHQ hyl).symm;have c32:=xPQ G next hn2;have c16a:=yZS G (leB 4 next) (zU 4) 8 0 0 true y.cs.length hcs (by simp);have c16b:=yZS G (leB 4 next++leB 2 y.cs.length) (zU 6) 12 0 0 true c (by omega) (by simp);simp only[zWJ,List.length_append,zXX,Nat.reduceAdd] at c16a c16b
 have e0:next=0→EV.int .u32 0=.int .u32 ((next:Nat):Int):=fun h=>by rw[h];rfl
 by_cases hk2:k+1<ps.length
 obtain ⟨m,hm1,hm2⟩:=hn3 hk2
 repeat' (first|(simp (disch:=omega) only[zQK,zPH,hm2])|refine zQQ 151124951879396681117455 ?_|(refine stp ?_;simp only[go_sem,hA,hg3])|(simp only[go_sem,hm1])|(simp (disch:=omega) only[zQK,zBG,zYP,zPH,zKG,yQN,zDQ,zFD])|(refine spl (fun h=>?_) (fun h=>?_)<;>first|omega|try simp only[go_sem,h])|(refine zQT ?_ ?_;focus omega))
 rotate_left
 have hn5:=hn4 hk2
 repeat' (first|refine zQQ 151124951879396681117455 ?_|(refine stp ?_;simp only[go_sem,hA,hg3])|(simp (disch:=omega) only[zQK])|(refine spl (fun h=>?_) (fun h=>?_)<;>first|omega|try simp only[go_sem,h])|(refine zQT ?_ ?_;focus omega))
 rw[e0 hn5]
 all_goals (
  repeat' (first|refine zQQ 151124951879396681117455 ?_|refine zQW ?_|(refine stp ?_;simp only[go_sem])|(refine Eff.atR (c32 ) rfl [] rfl (by first|(simp;done)|fail) rfl ?_;(try simp only[go_sem]))|(refine Eff.atR (c16a ) rfl [t+1] rfl (by first|(simp;done)|fail) rfl ?_;(try simp only[go_sem]))|(refine Eff.atR (c16b ) rfl [t+2] rfl (by first|(simp;done)|fail) rfl ?_;(try simp only[go_sem]))|(simp (disch:=omega) only[zYP])|fail))
 all_goals (
  refine zQM (fun z:Nat × List UInt8 × Nat × Nat=>[(0,.ptr (some ⟨0,0⟩)),(3,.int .i64 c),(9,.ptr (some ⟨t,0⟩)),(11,.slice (some ⟨t+3,0⟩) (8+c*z.1) z.2.2.1),(46,.slice (some ⟨r0,o0⟩) y.cs.length cap0),(47,.int .i64 y.cs.length),(48,.int .i64 z.1)]) (fun z:Nat × List UInt8 × Nat × Nat=>(t+3,.cells (zQZ z.2.1) 5 z.2.2.2 true 0)::(t,.cells [.int .i64 b,.slice (some ⟨r0,o0⟩) y.cs.length cap0,.bool x.fresh] 262 0 true 0)::stB (zXG p s) B) (fun z:Nat × List UInt8 × Nat × Nat=>t+4) (fun z:Nat × List UInt8 × Nat × Nat=>z.1≤y.cs.length∧8+c*z.1≤z.2.2.1∧z.2.2.1≤z.2.1.length∧z.2.1.take (8+c*z.1)=leB 4 next++leB 2 y.cs.length++leB 2 c++(y.cs.take z.1).flatten∧(z.2.2.2=0∧z.2.2.1=14∨z.2.2.2=1∧z.2.2.1=z.2.1.length∧z.2.2.1=8+c*z.1)) (fun z:Nat × List UInt8 × Nat × Nat=>y.cs.length - z.1) ((0,leB 4 next++leB 2 y.cs.length++leB 2 c++zU 6,14,0)) ?_ ?_ ?_ ?_ ?_
  ·rintro ⟨j,D,cap,zz⟩ -
   have h6:=hrow.lt;exact ⟨by simp[zWP,show r0<t+4 by omega],by simp[show r0<t+4 by omega],by show t≤t+4;omega⟩
  ·refine ⟨Nat.zero_le _,by simp,by simp,?_,.inl ⟨rfl,rfl⟩⟩;rw[Nat.mul_zero,List.take_zero,List.flatten_nil,List.append_nil];exact List.take_left' (by simp)
  ·simp only[go_sem,zQS]
  ·simp only[go_sem,zWG,zWJ]
  ·rintro ⟨j,D,cap,zz⟩ ⟨hj,hcap,hcD,hD,hzz⟩
   simp only at hj hcap hcD hD hzz ⊢
   rcases Nat.lt_or_ge j y.cs.length with hjl | hjl
   ·obtain ⟨v,hv1,d,od,capd,D2,zd,wd,fd,rfl,hd1,hd2,hd3⟩:=hcv.get (i:=j) (c:=y.cs[j]) (by simp[hjl]);have hDD:=hd1.f (p:=p);have hcj:=hyl _ (List.getElem_mem hjl);rw[List.getElem?_take,if_pos hjl,List.getElem?_drop] at hv1
    rw[hcj] at hv1 hd2 hd3
    have hsx:List.take c (List.drop od (zQZ D2))=zQZ y.cs[j]:=by rw[zZP,zVQ,hd3]
    repeat' (first|refine zQQ 151124951879396681117455 ?_|refine zQW ?_|(refine stp ?_;simp only[go_sem,hR,hv1,hDD,hd2,hsx,hcj,zQY])|(refine spl (fun h=>?_) (fun h=>?_)<;>first|omega|try simp only[go_sem,h])|(refine zQT ?_ ?_;focus omega))
    have m1:c*(j+1)=c*j+c:=Nat.mul_succ c j;have m2:c*(j+1)≤c*y.cs.length:=Nat.mul_le_mul_left c hjl;have m3:8+c*j+c=8+c*(j+1):=by omega
    have hf1:(y.cs.take (j+1)).flatten=(y.cs.take j).flatten++y.cs[j]:=by rw[List.take_succ,List.getElem?_eq_getElem hjl,List.flatten_append];simp
    have hr0:r0<t+3:=by have:=hrow.lt;omega
    have hr1:r0<t+4:=by omega
    have hzz':zz=0∨zz=1∧cap=D.length:=by rcases hzz with h | h;exact .inl h.1;exact .inr ⟨h.1,h.2.1⟩
    refine xXR rfl (cap:=cap) (z:=zz) (D:=D) (x:=y.cs[j]) (by simp[lkp]) (by omega) hcj hcap hcD hzz' ⟨by simp only[];omega,by omega⟩ (fun hr=>?_) (fun hr bl' hbl=>?_)
    ·simp only[go_sem,m3]
     repeat' (first|(refine stp ?_;simp only[go_sem])|(simp (disch:=omega) only[zQK])|fail)
     (refine ⟨(j+1,yPW D (8+c*j) y.cs[j],cap,zz),t+3,[t+3],?_,?_,rfl,rfl,?_,⟨?_,rfl,?_,?_,?_,?_,?_⟩⟩;rotate_left;(focus (simp only[];omega));(focus (simp[go_sem,zQS,hr0]));(focus (omega));(focus simp);(focus (simp));(focus (simp only[];omega));(focus (simp[hr1]));(focus (simp[hr0]));(try simp only[]))
     refine ⟨hjl,by omega,by rw[yQZ _ _ _ (by omega)];exact hcD,?_,?_⟩
     ·rw[hf1,← List.append_assoc,← hD,← m3];unfold yPW;rw[← List.append_assoc,List.take_left' (by rw[List.length_append,List.length_take];omega)]
     ·rcases hzz with h | h
      ·exact .inl h
      ·omega
    ·rcases hbl with rfl | rfl
     all_goals (
      simp only[go_sem,m3]
      repeat' (first|(refine stp ?_;simp only[go_sem])|(simp (disch:=omega) only[zQK])|fail)
      (refine ⟨(j+1,D.take (8+c*j)++y.cs[j],8+c*(j+1),1),t+3,[t+4],?_,?_,rfl,rfl,?_,⟨?_,rfl,?_,?_,?_,?_,?_⟩⟩;rotate_left;(focus (simp only[];omega));(focus (simp[go_sem,zQS,hr0]));(focus (omega));(focus simp);(focus (simp));(focus (simp only[];omega));(focus (simp[hr1]));(focus (simp[hr0]));(try simp only[]))
      refine ⟨hjl,Nat.le_refl _,by rw[List.length_append,List.length_take];omega,?_,.inr ⟨trivial,by rw[List.length_append,List.length_take];omega,trivial⟩⟩;rw[hf1,← List.append_assoc,← hD,List.take_of_length_le (by rw[List.length_append,List.length_take];omega)])
   ·obtain rfl:j=y.cs.length:=by omega
    have n1:(256:Int) - ((8+c*y.cs.length:Nat):Int)=((248 - c*y.cs.length:Nat):Int):=by omega
    rw[List.take_length] at hD
    repeat' (first|(simp (disch:=omega) only[zQK])|refine zQQ 151124951879396681117455 ?_|(refine stp ?_;simp only[go_sem,n1])|(refine spl (fun h=>?_) (fun h=>?_)<;>first|omega|try simp only[go_sem,h])|(refine zQT ?_ ?_;focus omega))
    have hzz':zz=0∨zz=1∧cap=D.length:=by rcases hzz with h | h;exact .inl h.1;exact .inr ⟨h.1,h.2.1⟩
    have hrd:=xYD B G s hp ho b hbn hu;have hdl:=zRT (next:=next) hyl hyf;have hDn:D.take (8+c*y.cs.length)++zU (248 - c*y.cs.length)=zRS c next y.cs:=by
     rw[hD];unfold zRS;simp only[List.append_assoc]
    have n2:8+c*y.cs.length+(248 - c*y.cs.length)=256:=by omega
    have heq:=fun zz'=>equal_c G (Go.Proofs.YtncphnpndkjkaaaGreatDoor.rd p s b) (zRS c next y.cs) 0 0 zz' 0 256 256 true true (by rw[yPQ];omega) (by omega)
    simp only[yPQ,hdl] at heq
    have hwr:=fun zz'=>write_c B G s hp ho b hbn hu 256 zz' 0 true (zRS c next y.cs) [] hdl
    simp only[zWH,List.append_nil] at hwr
    have hrdd:ovl s.put (p.at_+256*b) 256=Go.Proofs.YtncphnpndkjkaaaGreatDoor.rd p s b:=rfl;refine xXR rfl (cap:=cap) (z:=zz) (D:=D) (x:=zU (248 - c*y.cs.length)) (by simp[lkp]) (by omega) (by simp) hcap hcD hzz' ⟨by simp only[];omega,by omega⟩ (fun hr=>?_) (fun hr bl' hbl=>?_)
    ·have hcap2:cap=256:=by omega
     have hpd:yPW D (8+c*y.cs.length) (zU (248 - c*y.cs.length))=zRS c next y.cs:=by
      rw[← hDn];unfold yPW;rw[zXV,n2,List.drop_of_length_le (by omega),List.append_nil]
     subst hcap2;simp only[go_sem,n2,hpd]
     repeat' (first|refine zQQ 151124951879396681117455 ?_|(refine stp ?_;simp only[go_sem])|(refine EffW.at (hrd ) [] rfl (by (simp;done)) ?_;(try simp only[go_sem,hrdd]))|(refine Eff.atR (heq zz ) rfl [t+4,t+3] rfl (by first|(simp;done)|fail) rfl ?_;(try simp only[go_sem]))|(refine EffW.at (hwr zz ) [t+3] rfl (by (simp;done)) ?_;(try simp only[go_sem]))|(refine spl (fun h=>?_) (fun h=>?_)<;>((try simp only[go_sem,h])))|fail)
     all_goals (refine zKY hQ (by omega) (by simp[EV.bel]) ⟨_,rfl,rfl,rfl,?_⟩;rw[hn1];first|exact rd_wr _ _ _ hdl|exact WrR.same _ _ _ (by assumption))
    ·simp only[n2];rw[hDn]
     rcases hbl with rfl | rfl
     all_goals (
      simp only[go_sem]
      repeat' (first|refine zQQ 151124951879396681117455 ?_|(refine stp ?_;simp only[go_sem])|(refine EffW.at (hrd ) [] rfl (by (simp;done)) ?_;(try simp only[go_sem,hrdd]))|(refine Eff.atR (heq 1 ) rfl [t+5,t+4] rfl (by first|(simp;done)|fail) rfl ?_;(try simp only[go_sem]))|(refine EffW.at (hwr 1 ) [t+4] rfl (by (simp;done)) ?_;(try simp only[go_sem]))|(refine spl (fun h=>?_) (fun h=>?_)<;>((try simp only[go_sem,h])))|fail))
     all_goals (refine zKY hQ (by omega) (by simp[EV.bel]) ⟨_,rfl,rfl,rfl,?_⟩;rw[hn1];first|exact rd_wr _ _ _ hdl|exact WrR.same _ _ _ (by assumption)))
end
section
variable {p:Gp} (B:List (Nat × EO)) {t:Nat}
def tot (l:List PL):Nat:=(l.map fun y=>y.cs.length).sum
theorem yQM {l:List PL} {i:Nat} {y:PL} (h:l[i]? = some y):tot (l.take (i+1))=tot (l.take i)+y.cs.length:=by
 unfold tot;rw[List.take_succ,h,List.map_append,List.sum_append];simp
theorem zDG (l:List PL) (i:Nat):tot (l.take i)≤tot l:=by
 conv=>rhs;rw[← List.take_append_drop i l]
 unfold tot;rw[List.map_append,List.sum_append];omega
theorem count_c (G:List Gl) (s:Gs) [Big t] [hS0:StL p B t] (ps:List Pt) (pls:List PL) (hps:PsV B t ps pls) (v1:EV) (hout:OutV B t v1 ps) (hb:tot pls≤70000000000) (hpl:pls.length≤70000000) :
  EffR G Tryz.prog 184 [v1] (gnd p s B) t (fun v bl nx=>v=.int .i64 (tot pls)∧bl=gnd p s B∧nx=t):=by
 obtain ⟨r,rfl,hat,hrn⟩:=hout;have hlen:=hps.length;refine EffR.enter fun Q hQ=>?_
 refine zQV 19 [.tmp 2] Tryz.func184 ?_
 repeat' (first|refine zQQ 1005 ?_|refine zQW ?_|(refine stp ?_;simp only[go_sem])|fail)
 refine zWK (fun i:Nat=>[(3,.int .i64 (tot (pls.take i))),(6,zVW r ps.length),(7,.int .i64 ps.length),(8,.int .i64 i)]) (fun i:Nat=>stB (zXG p s) B) (fun i:Nat=>t) (fun i:Nat=>i≤ps.length) (fun i:Nat=>ps.length - i) (0) (fun z hz=>⟨by simp[zWP,hrn],Bg.below,Nat.le_refl _⟩) (by exact Nat.zero_le _) (by (try simp only[go_sem,zQS]);((repeat' apply And.intro)<;>(rfl))) ?_ ?_
 ·simp only[go_sem]
 intro i hi;have hti:=zDG pls i
 rcases Nat.lt_or_ge i ps.length with hil | hil
 ·have hA:=(hat (List.ne_nil_of_length_pos (by omega))).f (p:=p);obtain ⟨x,y,hx,hy,-,-,r0,o0,cap0,C0,w0,f0,hxr,-⟩:=hps.get2 hil;have hpc:=zQF ps;have hg3:=zYX hx;rw[hxr] at hg3
  have hae:=zWZ (b:=r) (n:=ps.length) (by omega);have hts:=yQM hy;have htl:=zDG pls (i+1);have e1:(tot (pls.take i):Int)+(y.cs.length:Int)=(tot (pls.take (i+1)):Nat):=by omega
  rw[hae]
  repeat' (first|(simp (disch:=omega) only[zQK])|refine zQQ 1005 ?_|refine zQW ?_|(refine stp ?_;simp only[go_sem,hA,hg3,e1])|(refine spl (fun h=>?_) (fun h=>?_)<;>first|omega|try simp only[go_sem,h])|(refine zQT ?_ ?_;focus omega))
  (refine ⟨(i+1),?_,?_,rfl,rfl,?_,?_⟩;rotate_left;(focus (simp only[];omega));(focus ((try simp only[go_sem,zQS]);((repeat' apply And.intro)<;>(rfl))));(focus (simp only[go_sem]));(try simp only[]))
  exact hil
 ·obtain rfl:i=ps.length:=by omega
  repeat' (first|refine zQQ 1005 ?_|(refine stp ?_;simp only[go_sem])|(refine spl (fun h=>?_) (fun h=>?_)<;>first|omega|try simp only[go_sem,h])|fail)
  rw[hlen,List.take_length];exact zKY hQ (Nat.le_refl _) (by simp[EV.bel]) ⟨rfl,rfl,rfl⟩
def zBK:List PL→Nat→Option (Nat × Nat)
 | [],_=>none
 | y::l,i=>if i<y.cs.length then some (0,i) else (zBK l (i - y.cs.length)).map fun q=>(q.1+1,q.2)
def xWW:Option (Nat × Nat)→EV
 | some q=>.tuple [.int .i64 q.1,.int .i64 q.2,.bool true]
 | none=>.tuple [.int .i64 0,.int .i64 0,.bool false]
theorem find_c (G:List Gl) (s:Gs) [Big t] [hS0:StL p B t] (ps:List Pt) (pls:List PL) (hps:PsV B t ps pls) (v1:EV) (hout:OutV B t v1 ps) (i:Nat) (hi:i≤70000000000) (hpl:pls.length≤70000000) :
  EffR G Tryz.prog 181 [v1,.int .i64 i] (gnd p s B) t (fun v bl nx=>v=xWW (zBK pls i)∧bl=gnd p s B∧nx=t):=by
 obtain ⟨r,rfl,hat,hrn⟩:=hout;have hlen:=hps.length;refine EffR.enter fun Q hQ=>?_
 refine zQV 31 [.tmp 4,.tmp 5,.tmp 6] Tryz.func181 ?_
 repeat' (first|refine zQQ 4226547 ?_|refine zQW ?_|(refine stp ?_;simp only[go_sem])|(refine spl (fun h=>?_) (fun h=>?_)<;>first|omega|try simp only[go_sem,h])|fail)
 refine zWK (fun z:Nat × Nat=>[(1,.int .i64 z.2),(11,zVW r ps.length),(12,.int .i64 ps.length),(13,.int .i64 z.1)]) (fun z:Nat × Nat=>stB (zXG p s) B) (fun z:Nat × Nat=>t) (fun z:Nat × Nat=>z.1≤ps.length∧z.2≤i∧zBK pls i=(zBK (pls.drop z.1) z.2).map (fun q=>(q.1+z.1,q.2))) (fun z:Nat × Nat=>ps.length - z.1) ((0,i)) (fun z hz=>⟨by simp[zWP,hrn],Bg.below,Nat.le_refl _⟩) (by (refine ⟨Nat.zero_le _,Nat.le_refl _,?_⟩;rw[List.drop_zero];cases zBK pls i<;>simp)) (by simp only[go_sem,zQS];done) ?_ ?_
 ·simp only[go_sem]
 rintro ⟨z,m⟩ ⟨hz,hm,hf⟩
 simp only at hz hm hf ⊢
 rcases Nat.lt_or_ge z ps.length with hil | hil
 ·have hA:=(hat (List.ne_nil_of_length_pos (by omega))).f (p:=p);obtain ⟨x,y,hx,hy,-,-,r0,o0,cap0,C0,w0,f0,hxr,-⟩:=hps.get2 hil;have hpc:=zQF ps;have hg3:=zYX hx;rw[hxr] at hg3
  have hae:=zWZ (b:=r) (n:=ps.length) (by omega);have hd:pls.drop z=y::pls.drop (z+1):=by
   rw[List.drop_eq_getElem_cons (by omega)];congr 1;rw[List.getElem?_eq_getElem (by omega)] at hy;simpa using hy
  rw[hae];rw[hd,zBK] at hf
  by_cases hmy:m<y.cs.length
  ·rw[if_pos hmy] at hf
   repeat' (first|refine zQQ 4226547 ?_|refine zQW ?_|(refine stp ?_;simp only[go_sem,hA,hg3])|(refine spl (fun h=>?_) (fun h=>?_)<;>first|omega|try simp only[go_sem,h])|(refine zQT ?_ ?_;focus omega))
   refine zKY hQ (by omega) (by simp[EV.bel,zQX]) ⟨?_,rfl,rfl⟩;rw[hf];simp[xWW]
  ·rw[if_neg hmy] at hf
   have e1:(m:Int) - (y.cs.length:Int)=((m - y.cs.length:Nat):Int):=by omega
   repeat' (first|(simp (disch:=omega) only[zQK])|refine zQQ 4226547 ?_|refine zQW ?_|(refine stp ?_;simp only[go_sem,hA,hg3,e1])|(refine spl (fun h=>?_) (fun h=>?_)<;>first|omega|try simp only[go_sem,h])|(refine zQT ?_ ?_;focus omega))
   (refine ⟨(z+1,m - y.cs.length),?_,?_,rfl,rfl,?_,?_⟩;rotate_left;(focus (simp only[];omega));(focus ((try simp only[go_sem,zQS]);((repeat' apply And.intro)<;>(rfl))));(focus (simp only[go_sem]));(try simp only[]))
   refine ⟨hil,by omega,?_⟩;rw[hf]
   cases zBK (pls.drop (z+1)) (m - y.cs.length) with
   | none=>rfl
   | some q=>simp;omega
 ·obtain rfl:z=ps.length:=by omega
  rw[hlen,List.drop_length] at hf
  repeat' (first|refine zQQ 4226547 ?_|(refine stp ?_;simp only[go_sem])|(refine spl (fun h=>?_) (fun h=>?_)<;>first|omega|try simp only[go_sem,h])|fail)
  refine zKY hQ (Nat.le_refl _) (by simp[EV.bel,zQX]) ⟨?_,rfl,rfl⟩;rw[hf];rfl
end
section
variable {p:Gp} (B:List (Nat × EO)) {t:Nat}
def zTM (q y:PL):PL:=⟨if q.b = -1 then y.b else q.b,q.cs++y.cs,q.fresh⟩
def zXB (fill:Nat):List PL→List PL→List PL
 | out,[]=>out
 | out,y::l=>match out.getLast? with
   | some q=>if q.cs.length+y.cs.length≤fill then zXB fill (out.dropLast++[zTM q y]) l else zXB fill (out++[y]) l
   | none=>zXB fill [y] l
theorem RowA.out {B:List (Nat × EO)} {t:Nat} {v:EV} {ps:List Pt} (h:RowA B t v ps.length (ptC ps) 262 3):OutV B t v ps:=by
 obtain ⟨r,h1,h2,h3,h4⟩:=h;exact ⟨r,h1,fun hn=>h4 (by have:=List.length_pos_iff.2 hn;omega),h3⟩
theorem yDG (ops:List Pt):List.take ((ops.length - 1)*3) (ptC ops)=ptC ops.dropLast:=by
 rcases List.eq_nil_or_concat ops with rfl | ⟨l,x,rfl⟩
 ·rfl
 ·rw[List.concat_eq_append,List.dropLast_concat,zWS,List.take_left' (by rw[zQF];simp;omega)]
theorem zSY {k:Nat}:∀ {l:List EV} (n:Nat),zQX k l→zQX k (l.take n)
 | [],n,_=>by simp[zQX]
 | _::_,0,_=>trivial
 | _::_,n+1,h=>⟨h.1,zSY n h.2⟩
theorem PsV.dropLast {B:List (Nat × EO)} {t:Nat} {l:List Pt} {m:List PL} (h:PsV B t l m):PsV B t l.dropLast m.dropLast:=by
 rw[List.dropLast_eq_take,List.dropLast_eq_take,← h.length];exact h.take _
theorem xPN {B':List (Nat × EO)} {T n oq o0:Nat} [hS:StL p B' T] {ops:List Pt} {opl:List PL} (hop:PsV B' T ops opl) {q:Pt} {ql y:PL} (hq:ops[n]? = some q) (hql:opl[n]? = some ql) (hqf:q.fresh=ql.fresh) {Cq C0:List EV} (h1:CellsV B' T ((Cq.drop oq).take ql.cs.length) ql.cs) (h2:CellsV B' T ((C0.drop o0).take y.cs.length) y.cs)
  (cX:Nat) (hX:ql.cs.length+y.cs.length≤cX) {b:Int} (hb:b=if ql.b = -1 then y.b else ql.b) :
  StL p ((T,.cells (List.take ql.cs.length (List.drop oq Cq)++List.take y.cs.length (List.drop o0 C0)++zYH (cX - (ql.cs.length+y.cs.length))) 56 0 true 0)::B') (T+1)∧Ext B' T ((T,.cells (List.take ql.cs.length (List.drop oq Cq)++List.take y.cs.length (List.drop o0 C0)++zYH (cX - (ql.cs.length+y.cs.length))) 56 0 true 0)::B') (T+1) ∧
   PsV ((T,.cells (List.take ql.cs.length (List.drop oq Cq)++List.take y.cs.length (List.drop o0 C0)++zYH (cX - (ql.cs.length+y.cs.length))) 56 0 true 0)::B') (T+1) (ops.dropLast++[⟨b,.slice (some ⟨T,0⟩) (ql.cs.length+y.cs.length) cX,q.fresh⟩]) (opl.dropLast++[zTM ql y]):=by
 have l1:=h1.length;have l2:=h2.length;generalize List.take ql.cs.length (List.drop oq Cq)=eq at *
 generalize List.take y.cs.length (List.drop o0 C0)=ey at *
 have hx:=StL.above (p:=p) (B:=B') (t:=T) (t':=T+1) (X:=[(T,.cells (eq++ey++zYH (cX - (ql.cs.length+y.cs.length))) 56 0 true 0)]) (by omega) (by simp) (by simp[zWN,lkp]) (by
  simp[zQJ (Nat.le_succ T) _ h1.below,zQJ (Nat.le_succ T) _ h2.below,zVS])
 refine ⟨hx.1,hx.2,(hop.dropLast.mono hx.2).append ⟨⟨hb,hqf,T,0,cX,eq++ey++zYH (cX - (ql.cs.length+y.cs.length)),true,0,?_,⟨hS.big,by omega,by simp[lkp]⟩,⟨?_,?_⟩,?_⟩,trivial⟩⟩
 ·simp[zTM]
 ·simp[zTM,l1,l2]
 ·simpa [zTM] using hX
 ·simp only[zTM,List.drop_zero];rw[List.take_left' (by rw[List.length_append,l1,l2,List.length_append])];exact (h1.mono hx.2).append (h2.mono hx.2)
def OutF (B:List (Nat × EO)) (t0 t:Nat) (v:EV) (ps:List Pt):Prop:=
 ∃ r,v=zVW r ps.length∧(ps ≠ []→AtB B t r (.cells (ptC ps) 262 3 true 0))∧r<t∧t0≤r
theorem yJT (G:List Gl) (s:Gs) [Big t] [hS0:StL p B t] (fill:Nat) (hf:fill≤248) (ps:List Pt) (pls:List PL) (hps:PsV B t ps pls) (v1:EV) (hout:OutV B t v1 ps) (hln:∀ y∈pls,1≤y.cs.length∧y.cs.length≤fill) (hpl:pls.length≤70000000) :
  EffR G Tryz.prog 186 [v1,.int .i64 fill] (gnd p s B) t (fun v bl nx=>∃ B' ops,bl=gnd p s B'∧StL p B' nx∧Ext B t B' nx∧PsV B' nx ops (zXB fill [] pls)∧OutF B' t nx v ops):=by
 obtain ⟨r,rfl,hat,hrn⟩:=hout;have hlen:=hps.length;refine EffR.enter fun Q hQ=>?_
 refine zQV 68 [.tmp 4] Tryz.func186 ?_
 repeat' (first|refine zQQ 18014432869253043 ?_|refine zQW ?_|(refine stp ?_;simp only[go_sem])|(refine yQS 0 ?_)|fail)
 refine zQM (fun z:Nat × List Pt × List PL × List (Nat × EO) × Nat=>[(1,.int .i64 fill),(5,zVW z.2.2.2.2 z.2.1.length),(11,zVW r ps.length),(12,.int .i64 ps.length),(13,.int .i64 z.1)]) (fun z:Nat × List Pt × List PL × List (Nat × EO) × Nat=>zVY z.2.2.2.2 (ptC z.2.1) 262 3++stB (zXG p s) z.2.2.2.1) (fun z:Nat × List Pt × List PL × List (Nat × EO) × Nat=>z.2.2.2.2+1) (fun z:Nat × List Pt × List PL × List (Nat × EO) × Nat=>z.1≤ps.length∧StL p z.2.2.2.1 z.2.2.2.2∧Ext B t z.2.2.2.1 z.2.2.2.2∧PsV z.2.2.2.1 z.2.2.2.2 z.2.1 z.2.2.1∧zXB fill z.2.2.1 (pls.drop z.1)=zXB fill [] pls∧(∀ y∈z.2.2.1,1≤y.cs.length∧y.cs.length≤fill)∧z.2.1.length≤z.1) (fun z:Nat × List Pt × List PL × List (Nat × EO) × Nat=>ps.length - z.1) ((0,[],[],B,t)) ?_ ?_ ?_ ?_ ?_
 ·rintro ⟨i,ops,opl,B',T⟩ ⟨hi,hS,he,hop,hst,hol,hoi⟩
  haveI:=hS;have h3:t≤T:=he.le;refine ⟨by simp[zWP,show r<T+1 by omega],?_,by show t≤T+1;omega⟩;rw[zXS (by simp) (zQJ (by simp) _ hop.below),Bg.blBelow];trivial
 ·exact ⟨Nat.zero_le _,hS0,Ext.refl _ _,trivial,rfl,⟨fun y hy=>absurd hy (by simp),Nat.zero_le _⟩⟩
 ·simp only[go_sem,zQS,zWY,List.length_nil]
 ·show zWG _ (stB (zXG p s) B);simp only[go_sem]
 ·rintro ⟨i,ops,opl,B',T⟩ ⟨hi,hS,he,hop,hst,hol,hoi⟩
  simp only at hi hS he hop hst hol hoi ⊢
  haveI:=hS;haveI:Big T:=⟨hS.big⟩;have h3:t≤T:=he.le;have hopl:=hop.length
  rcases Nat.lt_or_ge i ps.length with hil | hil
  ·have hA:=((hat (List.ne_nil_of_length_pos (by omega))).mono he).f (p:=p);obtain ⟨x,y,hx,hy,hxb,hxf,r0,o0,cap0,C0,w0,f0,hxr,hrow,hrl,hcv⟩:=hps.get2 hil;have hpc:=zQF ps;have hg3:=zYX hx;rw[hxr] at hg3
   have hR:=(hrow.mono he).f (p:=p);have hrT:r<T:=by omega
   have hr0T:r0<T:=by have:=hrow.lt;omega
   have hae:=zWZ (b:=r) (n:=ps.length) (by omega);have hyl:=hln y (List.mem_of_getElem? hy);have hd:pls.drop i=y::pls.drop (i+1):=by
    rw[List.drop_eq_getElem_cons (by omega)];congr 1;rw[List.getElem?_eq_getElem (by omega)] at hy;simpa using hy
   rw[hd] at hst
   rw[hae]
   by_cases hn:ops=[]
   ·subst hn;have hn2:opl=[]:=List.eq_nil_of_length_eq_zero (by rw[← hopl];rfl);subst hn2;rw[show ptC []=[] from rfl,zVT,List.length_nil,zWY,List.nil_append]
    repeat' (first|refine zQQ 18014432869253043 ?_|refine zQW ?_|(refine stp ?_;simp only[go_sem,hA,hg3])|(refine zWV (id:=6) mixed [(0,[]),(1,[]),(2,[]),(3,[]),(4,[]),(5,[]),(6,[]),(9,[]),(13,[]),(7,[]),(8,[]),(10,[]),(11,[]),(12,[]),(14,[]),(15,[])] (by kernel_rfl) ?_;simp only[go_sem])|(simp (disch:=omega) only[zQK])|(refine spl (fun h=>?_) (fun h=>?_)<;>first|omega|try simp only[go_sem,h])|(refine zQT ?_ ?_;focus omega))
    (refine ⟨(i+1,[x],[y],B',T),T,[T+19],?_,?_,rfl,rfl,?_,⟨?_,rfl,?_,?_,?_,?_,?_⟩⟩;rotate_left;(focus (simp only[];omega));(focus (simp[go_sem,zQS,hrT,accE_one]));(focus (omega));(focus simp);(focus (simp));(focus (simp only[];omega));(focus (simp[hxr,zJG,xTS];omega));(focus (simp[hr0T,hxr,zJG,xTS]));(try simp only[]))
    refine ⟨hil,hS,he,⟨⟨hxb,hxf,?_⟩,trivial⟩,?_,?_,by simp⟩
    ·exact RowV.mono he ⟨r0,o0,cap0,C0,w0,f0,hxr,hrow,hrl,hcv⟩
    ·rw[← hst];rfl
    ·intro y' hy';simp at hy';subst hy';exact hyl
   ·have hnl:0<ops.length:=List.length_pos_iff.2 hn;obtain ⟨q,ql,hq,hql,hqb,hqf,rq,oq,capq,Cq,wq,fq,hqr,hqrow,hqrl,hqcv⟩:=hop.get2 (i:=ops.length - 1) (by omega);have hQR:=hqrow.f (p:=p);have hg3q:=zYX hq;have hgq:=(zGQ hq).2.1;rw[hqr] at hg3q
    rw[hqr,show 3*(ops.length - 1)+1=(ops.length - 1)*3+1 by omega] at hgq
    have hcvl:=hcv.length;have hqcl:=hqcv.length;have i5:(y.cs.length=0)=False:=eq_false (by omega);have hqll:=hol ql (List.mem_of_getElem? hql);have i1:((ops.length:Int) - 1).toNat=ops.length - 1:=by omega
    have i2:(ops.length - 1)*3+3≤ops.length*3:=by omega
    have hpco:(ptC ops).length=ops.length*3:=by rw[zQF,Nat.mul_comm]
    have i3:List.take (ops.length*3) (ptC ops)=ptC ops:=List.take_of_length_le (by omega);have hyR:RowV B' T x.row y.cs:=RowV.mono he ⟨r0,o0,cap0,C0,w0,f0,hxr,hrow,hrl,hcv⟩;have hyR':=hcv.mono he;have hdl1:List.take ((ops.length - 1)*3) (ptC ops)=ptC ops.dropLast:=yDG ops;have hdl2:List.drop ((ops.length - 1)*3+3) (ptC ops)=[]:=List.drop_of_length_le (by omega);have hde:∀ b x',zVW b (ops.dropLast++[x']).length=.slice (some ⟨b,0⟩) ops.length ops.length:=fun b x'=>by
     rw[List.length_append,List.length_dropLast,List.length_singleton,show ops.length - 1+1=ops.length by omega,zWZ hnl]
    have hbd0:zQX T (ptC ops.dropLast):=hdl1 ▸ zSY _ hop.below;have hrpd:∀ q,zZG (nam T q) (ptC ops.dropLast)=ptC ops.dropLast:=fun q=>zWB (i:=0) hbd0
    have hbpd:∀ k,zQX (T+k) (ptC ops.dropLast)=True:=fun k=>eq_true (zQJ (Nat.le_add_right _ _) _ hbd0)
    have hrpo:∀ q,zZG (nam T q) (ptC ops)=ptC ops:=fun q=>zWB (i:=0) hop.below
    have hbpo:∀ k,zQX (T+k) (ptC ops)=True:=fun k=>eq_true (zQJ (Nat.le_add_right _ _) _ hop.below)
    have hrev:(∀ q,zZG (nam T q) (List.take ql.cs.length (List.drop oq Cq))=List.take ql.cs.length (List.drop oq Cq))∧∀ q,zZG (nam T q) (List.take y.cs.length (List.drop o0 C0))=List.take y.cs.length (List.drop o0 C0):=⟨fun q=>zWB (i:=0) hqcv.below,fun q=>zWB (i:=0) hyR'.below⟩;have hbev:(∀ k,zQX (T+k) (List.take ql.cs.length (List.drop oq Cq))=True)∧∀ k,zQX (T+k) (List.take y.cs.length (List.drop o0 C0))=True:=⟨fun k=>eq_true (zQJ (Nat.le_add_right _ _) _ hqcv.below),fun k=>eq_true (zQJ (Nat.le_add_right _ _) _ hyR'.below)⟩;rw[zXR (b:=T) (by omega),zWZ (b:=T) hnl,List.cons_append,List.nil_append]
    repeat' (first|(refine zVG (ts:=#[105,105]) ?_;unfold zJN;simp only[go_sem,hR,hQR,hrl,hqrl,hR,hQR,hrl,hqrl,hcvl,i5])|refine zQQ 18014432869253043 ?_|refine zQW ?_|(refine stp ?_;simp only[go_sem,hA,hg3,hg3q,i1,i2,i3,hpco])|(refine zWV (id:=6) mixed [(0,[]),(1,[]),(2,[]),(3,[]),(4,[]),(5,[]),(6,[]),(9,[]),(13,[]),(7,[]),(8,[]),(10,[]),(11,[]),(12,[]),(14,[]),(15,[])] (by kernel_rfl) ?_;simp only[go_sem])|(refine zWV (id:=9) mixed [(0,[]),(2,[]),(3,[]),(5,[]),(1,[]),(4,[]),(6,[]),(7,[]),(8,[]),(9,[])] (by kernel_rfl) ?_;simp only[go_sem,hQR])|(refine fun cX hX=>?_)|(simp (disch:=omega) only[zQK])|(refine spl (fun h=>?_) (fun h=>?_)<;>first|omega|((try simp only[zKN]);(try simp only[go_sem,hgq,i1,h])))|(refine zQT ?_ ?_;focus omega))
    all_goals (
     have hlast:opl.getLast? = some ql:=by rw[List.getLast?_eq_getElem?,← hopl];exact hql
     rw[zXB,hlast] at hst
     simp only at hst)
    ·rw[if_pos (by omega)] at hst
     (refine ⟨(i+1,ops.dropLast++[⟨x.b,.slice (some ⟨T,0⟩) (ql.cs.length+y.cs.length) cX,q.fresh⟩],opl.dropLast++[zTM ql y],(T,.cells (List.take ql.cs.length (List.drop oq Cq)++List.take y.cs.length (List.drop o0 C0)++zYH (cX - (ql.cs.length+y.cs.length))) 56 0 true 0)::B',T+1),T,[T+29,T],?_,?_,rfl,rfl,?_,⟨?_,rfl,?_,?_,?_,?_,?_⟩⟩;rotate_left;(focus (simp only[];omega));(focus ((try simp only[go_sem,zQS,hrT,hde]);((repeat' apply And.intro)<;>(rfl))));(focus (omega));(focus simp);(focus (simp));(focus (simp only[];omega));(focus (simp[Nat.add_assoc,zWS,zJG,zZV,hbpd,hbev,zVS]));(focus (simp[hdl1,hdl2,zWS,zJG,zZV,hrpd,hrev]));(try simp only[]))
     have hmv:=xPN (p:=p) (b:=x.b) hop hq hql hqf hqcv hyR' cX hX (by rw[if_pos (by rw[← hqb];assumption),hxb]);refine ⟨hil,hmv.1,he.trans hmv.2.1,hmv.2.2,hst,?_,by rw[List.length_append,List.length_dropLast];simp;omega⟩;intro y' hy'
     rcases List.mem_append.1 hy' with h' | h'
     ·exact hol y' (List.dropLast_subset _ h')
     ·simp at h';subst h';simp only[zTM,List.length_append];omega
    ·rw[if_pos (by omega)] at hst
     (refine ⟨(i+1,ops.dropLast++[⟨q.b,.slice (some ⟨T,0⟩) (ql.cs.length+y.cs.length) cX,q.fresh⟩],opl.dropLast++[zTM ql y],(T,.cells (List.take ql.cs.length (List.drop oq Cq)++List.take y.cs.length (List.drop o0 C0)++zYH (cX - (ql.cs.length+y.cs.length))) 56 0 true 0)::B',T+1),T,[T+29,T],?_,?_,rfl,rfl,?_,⟨?_,rfl,?_,?_,?_,?_,?_⟩⟩;rotate_left;(focus (simp only[];omega));(focus ((try simp only[go_sem,zQS,hrT,hde]);((repeat' apply And.intro)<;>(rfl))));(focus (omega));(focus simp);(focus (simp));(focus (simp only[];omega));(focus (simp[Nat.add_assoc,zWS,zJG,zZV,hbpd,hbev,zVS]));(focus (simp[hdl1,hdl2,zWS,zJG,zZV,hrpd,hrev]));(try simp only[]))
     have hmv:=xPN (p:=p) (b:=q.b) hop hq hql hqf hqcv hyR' cX hX (by rw[if_neg (by rw[← hqb];assumption),hqb]);refine ⟨hil,hmv.1,he.trans hmv.2.1,hmv.2.2,hst,?_,by rw[List.length_append,List.length_dropLast];simp;omega⟩;intro y' hy'
     rcases List.mem_append.1 hy' with h' | h'
     ·exact hol y' (List.dropLast_subset _ h')
     ·simp at h';subst h';simp only[zTM,List.length_append];omega
    ·rw[if_neg (by omega)] at hst
     (refine ⟨(i+1,ops++[x],opl++[y],B',T),T,[T+19],?_,?_,rfl,rfl,?_,⟨?_,rfl,?_,?_,?_,?_,?_⟩⟩;rotate_left;(focus (simp only[];omega));(focus (simp[go_sem,zQS,hrT,zZK,List.length_append]));(focus (omega));(focus simp);(focus (simp));(focus (simp only[];omega));(focus (simp[hxr,zWS,zJG,zZV,hbpo];omega));(focus (simp[hr0T,hxr,zWS,zJG,zZV,hrpo]));(try simp only[]))
     refine ⟨hil,hS,he,hop.append ⟨⟨hxb,hxf,hyR⟩,trivial⟩,hst,?_,by rw[List.length_append];simp;omega⟩;intro y' hy'
     rcases List.mem_append.1 hy' with h' | h'
     ·exact hol y' h'
     ·simp at h';subst h';exact hyl
  ·obtain rfl:i=ps.length:=by omega
   repeat' (first|refine zQQ 18014432869253043 ?_|(refine stp ?_;simp only[go_sem])|(refine spl (fun h=>?_) (fun h=>?_)<;>first|omega|try simp only[go_sem,h])|fail)
   rw[hlen,List.drop_length] at hst
   have hx:=zRJ (p:=p) (B':=B') (T:=T) (ty:=262) (k:=3) (n:=ops.length) (c:=ptC ops) (zQJ (Nat.le_succ _) _ hop.below) (by rw[zQF];omega) (by omega);haveI:=hx.1;rw[← zTN];refine zWX hQ (by omega) (Bg.below (t:=T+1)) (by simp) ⟨_,ops,rfl,hx.1,he.trans hx.2.1,?_,T,rfl,fun hn=>⟨hS.big,by omega,by rw[zXR (by rw[zQF];have:=List.length_pos_iff.2 hn;omega)];simp[lkp]⟩,by omega,h3⟩;rw[← hst];exact hop.mono hx.2.1
end
section
theorem zYF (f:Nat→EO) {r:Nat} {o:EO} (hr:11≤r):∀ B:List (Nat × EO),setL (stB f B) r o=stB f (setL B r o)
 | []=>rfl
 | (b,x)::B=>by
   rw[zXK];simp only[setL]
   by_cases hb:b=r
   ·subst hb;rw[if_pos rfl,if_pos rfl,zXK,if_neg (by omega)]
   ·rw[if_neg hb,if_neg hb,zXK,zYF f hr B]
theorem zTT {r:Nat} {o:EO}:∀ {B:List (Nat × EO)},zWN B→zWN (setL B r o)
 | [],_=>trivial
 | (b,x)::B,h=>by
   simp only[setL]
   split
   ·exact h
   ·rename_i hb
    refine ⟨?_,zTT h.2⟩;rw[zWF]
    split
    ·rename_i e;exact absurd e.symm hb
    ·exact h.1
theorem zRB {r t:Nat} {o:EO} (ho:o.bel t):∀ {B:List (Nat × EO)},blBelow t B→blBelow t (setL B r o)
 | [],_=>trivial
 | (b,x)::B,h=>by
   simp only[setL]
   split
   ·exact ⟨h.1,ho,h.2.2⟩
   ·exact ⟨h.1,h.2.1,zRB ho h.2.2⟩
section
variable {p:Gp} {B:List (Nat × EO)} {t r:Nat} {c c':List EV} {z f:Nat} {w:Bool}
theorem StL.upd [h:StL p B t] (hr:AtB B t r (.cells c 262 z w f)) (hc:zQX t c'):StL p (setL B r (.cells c' 262 z w f)) t where
 bg:=⟨zRB (o:=.cells c' 262 z w f) hc h.bg.below,zTT h.bg.keys⟩
 big:=h.big
 has i hi:=by
  rw[zWF]
  split
  ·rename_i e;have:=hr.hi;omega
  ·exact h.has i hi
 line i hi:=by
  rw[zWF]
  split
  ·rename_i e
   subst e;have:=h.line i hi;rw[hr.lk] at this
   simp at this
  ·exact h.line i hi
 top:=h.top
theorem AtB.upd (hr:AtB B t r (.cells c 262 z w f)):AtB (setL B r (.cells c' 262 z w f)) t r (.cells c' 262 z w f):=⟨hr.hi,hr.lt,by rw[zWF,if_pos rfl,hr.lk];rfl⟩
theorem AtB.upd_ne (hr:AtB B t r (.cells c 262 z w f)) {b:Nat} {o:EO} (hb:AtB B t b o) (hne:∀ c z w f,o ≠ .cells c 262 z w f):AtB (setL B r (.cells c' 262 z w f)) t b o:=⟨hb.hi,hb.lt,by
 rw[zWF]
 split
 ·rename_i e
  subst e;have:=hb.lk;rw[hr.lk] at this
  exact absurd (Option.some.inj this).symm (hne _ _ _ _)
 ·exact hb.lk⟩
theorem CellsV.upd (hr:AtB B t r (.cells c 262 z w f)):∀ {vs:List EV} {cs:List Cell},CellsV B t vs cs→CellsV (setL B r (.cells c' 262 z w f)) t vs cs
 | [],[],_=>trivial
 | _::_,_::_,h=>by
   obtain ⟨⟨d,o,cap,D,zz,ww,ff,h1,h2,h3,h4⟩,h5⟩:=h;exact ⟨⟨d,o,cap,D,zz,ww,ff,h1,hr.upd_ne h2 (fun c z w f e=>by simp at e),h3,h4⟩,CellsV.upd hr h5⟩
 | [],_::_,h=>h.elim
 | _::_,[],h=>h.elim
theorem RowV.upd (hr:AtB B t r (.cells c 262 z w f)) {v:EV} {cs:List Cell} (h:RowV B t v cs):RowV (setL B r (.cells c' 262 z w f)) t v cs:=by
 obtain ⟨r0,o0,cap,C,ww,ff,h1,h2,h3,h4⟩:=h;exact ⟨r0,o0,cap,C,ww,ff,h1,hr.upd_ne h2 (fun c z w f e=>by simp at e),h3,h4.upd hr⟩
theorem PsV.upd (hr:AtB B t r (.cells c 262 z w f)):∀ {l:List Pt} {m:List PL},PsV B t l m→PsV (setL B r (.cells c' 262 z w f)) t l m
 | [],[],_=>trivial
 | _::_,_::_,h=>⟨⟨h.1.1,h.1.2.1,h.1.2.2.upd hr⟩,PsV.upd hr h.2⟩
 | [],_::_,h=>h.elim
 | _::_,[],h=>h.elim
end
def zBH (p:Gp) (s:Gs):Option Nat:=(List.range' s.least (p.n - s.least)).find? fun b=>decide (b ∉ s.taken)
def zHS (s:Gs) (b:Nat):Gs:={ s with taken:=s.taken++[b],least:=b+1 }
theorem yZT {l:List Nat}:∀ (m a:Nat),match (List.range' a m).find? fun b=>decide (b ∉ l) with
  | some b=>a≤b∧b<a+m∧b ∉ l∧∀ c,a≤c→c<b→c∈l
  | none=>∀ c,a≤c→c<a+m→c∈l
 | 0,a=>by simp;intro c h1 h2;omega
 | m+1,a=>by
   rw[List.range'_succ,List.find?_cons]
   by_cases h:a∈l
   ·have ih:=yZT (l:=l) m (a+1);simp only[h,not_true_eq_false,decide_false]
    cases hf:(List.range' (a+1) m).find? fun b=>decide (b ∉ l) with
    | some b=>
      rw[hf] at ih
      obtain ⟨h1,h2,h3,h4⟩:=ih;exact ⟨by omega,by omega,h3,fun c q1 q2=>by
       by_cases e:c=a
       ·subst e;exact h
       ·exact h4 c (by omega) q2⟩
    | none=>
      rw[hf] at ih
      intro c q1 q2
      by_cases e:c=a
      ·subst e;exact h
      ·exact ih c (by omega) (by omega)
   ·simp only[h,not_false_eq_true,decide_true];exact ⟨Nat.le_refl _,by omega,trivial,fun c q1 q2=>by omega⟩
theorem zHH {p:Gp} {s:Gs} {b:Nat} (h:zBH p s=some b):s.least≤b∧b<p.n∧b ∉ s.taken∧∀ c,s.least≤c→c<b→c∈s.taken:=by
 have:=yZT (l:=s.taken) (p.n - s.least) s.least;unfold zBH at h
 rw[h] at this
 obtain ⟨h1,h2,h3,h4⟩:=this;exact ⟨h1,by omega,h3,h4⟩
theorem yGW {p:Gp} {s:Gs} (h:zBH p s=none):∀ c,s.least≤c→c<p.n→c∈s.taken:=by
 have:=yZT (l:=s.taken) (p.n - s.least) s.least;unfold zBH at h
 rw[h] at this
 exact fun c q1 q2=>this c q1 (by omega)
variable {p:Gp} (B:List (Nat × EO)) {t:Nat}
theorem take_c (G:List Gl) (s:Gs) [Big t] [h:StL p B t] (hp:p.ok) (ho:s.over=false) (hnl:0<p.nl) (hle:s.least≤p.n) :
  match zBH p s with
  | some b=>EffW G Tryz.prog 148 [.ptr (some ⟨0,0⟩)] t [] (gnd p s B) 0 (.tuple [.int .i64 b,.int .i64 0]) [] (gnd p (zHS s b) B) 0
  | none=>EffW G Tryz.prog 148 [.ptr (some ⟨0,0⟩)] t [] (gnd p s B) 0 (.tuple [.int .i64 0,.int .i64 7]) [] (gnd p s B) 0:=by
 cases hq:zBH p s with
 | some b=>
   obtain ⟨h1,h2,h3,h4⟩:=zHH hq;exact take_yes B G s hp ho b h2 h1 h3 h4
 | none=>exact take_no B G s hp ho hnl hle (yGW hq)
def zVJ (p:Gp):Gs→List PL→Gs × Option (List PL)
 | s,[]=>(s,some [])
 | s,y::l=>if y.b = -1 then match zBH p s with
    | none=>(s,none)
    | some b=>((zVJ p (zHS s b) l).1,(zVJ p (zHS s b) l).2.map (⟨b,y.cs,true⟩ :: ·))
   else ((zVJ p s l).1,(zVJ p s l).2.map (y :: ·))
def usE (l:List Nat):List (EV × EV):=l.map fun (b:Nat)=>(.int .i64 (b:Int),.int .i64 1)
def insU (l:List Nat) (b:Nat):List Nat:=if b∈l then l else l++[b]
theorem zKH (l:List Nat):((usE l).all fun x=>Go.E.keyOf (UT.int .i64) x.1)=true:=by simp[usE,Go.E.keyOf]
theorem zGZ (b:Nat):∀ l:List Nat,zRP (.int .i64 b) (usE l)=if b∈l then some (l.idxOf b,.int .i64 1) else none
 | []=>rfl
 | k::r=>by
   have ih:=zGZ b r;simp only[usE,List.map_cons,zRP,yYG] at ih ⊢
   by_cases h:b=k
   ·subst h;simp
   ·rw[show decide ((b:Int)=(k:Int))=false by simp;omega];simp only[ih,List.mem_cons,h,false_or]
    by_cases h2:b∈r
    ·rw[if_pos h2,if_pos h2,List.idxOf_cons,show (k == b)=false by simp;omega];rfl
    ·rw[if_neg h2,if_neg h2];rfl
theorem yGJ:∀ (l:List Nat) (j:Nat),putE.setNth (usE l) j (.int .i64 1)=usE l
 | [],_=>rfl
 | k::r,0=>rfl
 | y::r,j+1=>by
   have:=yGJ r j;simp only[usE,List.map_cons] at this ⊢
   simp only[putE.setNth,this]
theorem zFP (b:Nat) (l:List Nat):putE (.int .i64 b) (.int .i64 1) (zRP (.int .i64 b) (usE l)) (usE l)=usE (insU l b):=by
 rw[zGZ];unfold insU
 by_cases h:b∈l
 ·rw[if_pos h,if_pos h];exact yGJ l _
 ·rw[if_neg h,if_neg h];simp[putE,usE]
theorem zXM (l:List Nat) (k:Nat):zVH k (usE l):=by
 induction l with
 | nil=>trivial
 | cons b r ih=>exact ⟨trivial,trivial,ih⟩
end
section
variable {p:Gp} (B:List (Nat × EO)) {t:Nat}
def zDJ (s:Gs) (b:Nat):Gs:={ s with taken:=s.taken.erase b,least:=min s.least b }
def zKD (us:List Nat):Gs→List PL→Gs
 | s,[]=>s
 | s,y::l=>zKD us (if y.b.toNat∈us then s else zDJ s y.b.toNat) l
theorem yQT {us vs:List Nat} (h:∀ b,b∈us↔b∈vs):∀ (l:List PL) (s:Gs),zKD us s l=zKD vs s l
 | [],_=>rfl
 | y::l,s=>by
   simp only[zKD,h];exact yQT h l _
def zZR (l:List PL):List Nat:=l.map fun y=>y.b.toNat
def yDP:List PL→Nat
 | []=>0
 | y::_=>y.b.toNat+1
structure WrA (p:Gp) (s s':Gs) (c:Nat) (l:List PL) (k:Nat):Prop where
 taken:s'.taken=s.taken
 least:s'.least=s.least
 over:s'.over=s.over
 low:∀ y,y<p.at_→zDY s'.put y=zDY s.put y
 here:∀ j y,j<k→l[j]? = some y→rd p s' y.b.toNat=zRS c (zBW l j) y.cs
 else_:∀ b,(∀ j y,j<k→l[j]? = some y→y.b.toNat ≠ b)→rd p s' b=rd p s b
theorem WrA.zero (s:Gs) (c:Nat) (l:List PL):WrA p s s c l 0:=⟨rfl,rfl,rfl,fun _ _=>rfl,fun _ _ h=>absurd h (by omega),fun _ _=>rfl⟩
theorem yWX {r:Nat} {o o':EO}:∀ B:List (Nat × EO),setL (setL B r o) r o'=setL B r o'
 | []=>rfl
 | (b,x)::B=>by
   by_cases hb:b=r
   ·subst hb;simp only[setL,if_true]
   ·simp only[setL,if_neg hb,yWX B]
theorem WrA.step {s s1 s2:Gs} {c k:Nat} {l:List PL} {y:PL} (h:WrA p s s1 c l k) (hy:l[k]? = some y) (hw:WrR p s1 s2 y.b.toNat (zRS c (zBW l k) y.cs)) (hnd:(zZR l).Nodup):WrA p s s2 c l (k+1) where
 taken:=hw.taken.trans h.taken
 least:=hw.least.trans h.least
 over:=hw.over.trans h.over
 low y hy:=(hw.low y hy).trans (h.low y hy)
 here j z hj hz:=by
  rw[hw.rd]
  by_cases e:z.b.toNat=y.b.toNat
  ·rw[if_pos e];have:j=k:=by
    have h1:(zZR l)[j]? = some z.b.toNat:=by unfold zZR;rw[List.getElem?_map,hz];rfl
    have h2:(zZR l)[k]? = some y.b.toNat:=by unfold zZR;rw[List.getElem?_map,hy];rfl
    obtain ⟨q1,e1⟩:=List.getElem?_eq_some_iff.1 h1;obtain ⟨q2,e2⟩:=List.getElem?_eq_some_iff.1 h2;exact (List.getElem_inj hnd).1 (by rw[e1,e2,e])
   subst this;rw[hy] at hz;cases hz;rfl
  ·rw[if_neg e];refine h.here j z ?_ hz
   by_cases ek:j=k
   ·subst ek;rw[hy] at hz;cases hz;exact absurd rfl e
   ·omega
 else_ b hb:=by
  rw[hw.rd,if_neg (fun e=>hb k y (by omega) hy e.symm)];exact h.else_ b fun j z hj hz=>hb j z (by omega) hz
theorem ptC_set {l:List Pt} {i:Nat} {x:Pt} (h:l[i]? = some x) (b:Int) (f:Bool):((ptC l).set (i*3) (.int .i64 b)).set (i*3+2) (.bool f)=ptC (l.set i ⟨b,x.row,f⟩):=by
 have hl:=(List.getElem?_eq_some_iff.1 h).1;have e:l=l.take i++x::l.drop (i+1):=by
  conv=>lhs;rw[← List.take_append_drop i l,List.drop_eq_getElem_cons hl]
  rw[(List.getElem?_eq_some_iff.1 h).2]
 have hlen:(l.take i).length=i:=by rw[List.length_take];omega
 generalize l.take i=a at *
 generalize l.drop (i+1)=d at *
 subst e;rw[List.set_append_right _ _ (by omega),hlen,Nat.sub_self,List.set_cons_zero,zWS,zWS];have h3:(ptC a).length=i*3:=by rw[zQF];omega
 rw[List.set_append_right _ _ (by omega),h3,Nat.sub_self,List.set_append_right _ _ (by omega),h3,show i*3+2 - i*3=2 by omega];rfl
theorem PsV.set {B':List (Nat × EO)} {T:Nat}:∀ {l:List Pt} {m:List PL} (_:PsV B' T l m) {i:Nat} {x:Pt} {y:PL} (_:l[i]? = some x) (_:m[i]? = some y) (b:Int) (f:Bool),PsV B' T (l.set i ⟨b,x.row,f⟩) (m.set i ⟨b,y.cs,f⟩)
 | _::_,_::_,h,0,x,y,h1,h2,b,f=>by
   simp at h1 h2;subst h1 h2
   exact ⟨⟨rfl,rfl,h.1.2.2⟩,h.2⟩
 | _::_,_::_,h,i+1,x,y,h1,h2,b,f=>⟨h.1,PsV.set h.2 (by simpa using h1) (by simpa using h2) b f⟩
 | [],_,h,i,x,y,h1,_,_,_=>by simp at h1
 | _::_,[],h,_,_,_,_,_,_,_=>h.elim
theorem zGV:∀ (l:List PL) (s:Gs) {b:Nat},b∈s.taken→b∈(zVJ p s l).1.taken
 | [],s,b,h=>h
 | y::l,s,b,h=>by
   simp only[zVJ]
   split
   ·cases hq:zBH p s with
    | none=>exact h
    | some c=>exact zGV l (zHS s c) (List.mem_append_left _ h)
   ·exact zGV l s h
theorem yRS:∀ (l:List PL) (s:Gs),(∀ y∈l,y.b = -1∨y.b.toNat∈s.taken)→∀ l1,(zVJ p s l).2=some l1→∀ y∈l1,y.b.toNat∈(zVJ p s l).1.taken
 | [],s,_,l1,e,y,hy=>by simp only[zVJ,Option.some.injEq] at e;subst e;simp at hy
 | x::l,s,h,l1,e,y,hy=>by
   have hl:=fun y hy=>h y (List.mem_cons_of_mem _ hy)
   have hx:=h x (List.mem_cons_self ..);simp only[zVJ] at e ⊢
   split at e
   ·rename_i hb
    rw[if_pos hb]
    cases hq:zBH p s with
    | none=>rw[hq] at e;simp at e
    | some c=>
      rw[hq] at e
      simp only[Option.map_eq_some_iff] at e ⊢
      obtain ⟨l2,e2,rfl⟩:=e
      rcases List.mem_cons.1 hy with rfl | hy
      ·exact zGV l _ (List.mem_append_right _ (by simp))
      ·exact yRS l (zHS s c) (fun y hy=>(hl y hy).imp id fun h=>List.mem_append_left _ h) l2 e2 y hy
   ·rename_i hb
    rw[if_neg hb];simp only[Option.map_eq_some_iff] at e ⊢
    obtain ⟨l2,e2,rfl⟩:=e
    rcases List.mem_cons.1 hy with rfl | hy
    ·exact zGV l _ (hx.resolve_left hb)
    ·exact yRS l s hl l2 e2 y hy
theorem yYW:∀ (l:List PL) (s:Gs) (l1:List PL),(zVJ p s l).2=some l1→l1.map (·.cs)=l.map (·.cs)
 | [],s,l1,e=>by simp only[zVJ,Option.some.injEq] at e;subst e;rfl
 | x::l,s,l1,e=>by
   simp only[zVJ] at e
   split at e
   ·cases hq:zBH p s with
    | none=>rw[hq] at e;simp at e
    | some c=>
      rw[hq] at e
      simp only[Option.map_eq_some_iff] at e
      obtain ⟨l2,e2,rfl⟩:=e;simp only[List.map_cons,yYW l _ l2 e2]
   ·simp only[Option.map_eq_some_iff] at e
    obtain ⟨l2,e2,rfl⟩:=e;simp only[List.map_cons,yYW l _ l2 e2]
theorem yQR {us:List Nat} {b:Nat} (hb:b∈us):∀ (l:List PL) (s:Gs),b∈s.taken→b∈(zKD us s l).taken
 | [],s,h=>h
 | y::l,s,h=>by
   simp only[zKD]
   apply yQR hb l
   split
   ·exact h
   ·rename_i hm
    exact (List.mem_erase_of_ne (fun e=>hm (by rw[← e];exact hb))).2 h
theorem zYT {α:Type} {l:List α} {i:Nat} {a:α} (h:i<l.length):List.take (i+1) (l.set i a)=List.take i l++[a]:=by
 rw[List.take_succ,List.getElem?_set_self h,List.take_set_of_le (Nat.le_refl _)];rfl
theorem zKB {α:Type} {l:List α} {i:Nat} {a:α} (h:l[i]? = some a):List.take (i+1) l=List.take i l++[a]:=by
 rw[List.take_succ,h];rfl
theorem yXP {α:Type} {l m:List α} {i:Nat} (h:l.drop i=m.drop i):l.drop (i+1)=m.drop (i+1):=by
 have:=congrArg (List.drop 1) h
 rwa [List.drop_drop,List.drop_drop] at this
theorem yJD {us:List Nat} {b c:Nat}:c∈insU us b↔c∈us∨c=b:=by
 unfold insU
 split
 ·rename_i h
  exact ⟨Or.inl,fun h'=>h'.elim id fun e=>e ▸ h⟩
 ·simp
theorem xXJ (a b:List PL):zZR (a++b)=zZR a++zZR b:=by simp[zZR]
theorem zPB (f:Nat→Nat) (l:List Nat):xXF f (usE l)=usE l:=by
 induction l with
 | nil=>rfl
 | cons b r ih=>
   simp only[usE,List.map_cons] at ih ⊢
   simp only[xXF,EV.ren,ih]
structure PlanOK (p:Gp) (s:Gs) (l:List PL):Prop where
 blk:∀ y∈l,y.b = -1∨∃ b:Nat,y.b=b∧b<p.n
theorem yFZ (G:List Gl) (s:Gs) [Big t] [hS0:StL p B t] (hp:p.ok) (ho:s.over=false) (hls:s.least≤p.n) (c:Nat) (hc1:1≤c) (hc2:c≤62) (wps:List Pt) (wpl:List PL) (hw:PsV B t wps wpl) (rw_:Nat) (hwat:wps ≠ []→AtB B t rw_ (.cells (ptC wps) 262 3 true 0)) (hrw:rw_<t)
  (ps:List Pt) (pls:List PL) (hps:PsV B t ps pls) (r:Nat) (hat:ps ≠ []→AtB B t r (.cells (ptC ps) 262 3 true 0)) (hr:r<t) (hne:rw_ ≠ r) (hok:∀ y∈pls,y.b = -1∨∃ b:Nat,y.b=b∧b<p.n∧b∈s.taken) (hwok:∀ y∈wpl,∃ b:Nat,y.b=b∧b∈s.taken) (hwnd:(zZR wpl).Nodup)
  (hcs:∀ y∈pls,1≤y.cs.length∧y.cs.length≤248 / c∧∀ x∈y.cs,x.length=c) (hpl:pls.length≤70000000) (hwpl:wpl.length≤70000000) (hnd:∀ s1 l1,zVJ p s pls=(s1,some l1)→(zZR l1).Nodup) :
  EffR G Tryz.prog 185 [.ptr (some ⟨0,0⟩),zVW rw_ wps.length,zVW r ps.length,.int .i64 c] (gnd p s B) t (fun v bl nx=>∃ B' s',bl=gnd p s' B'∧nx=t∧StL p B' t∧(∀ i,i ≠ r→lkp B' i=lkp B i) ∧
   match zVJ p s pls with
   | (s1,none)=>v=.tuple [.int .u32 0,.int .i64 7]∧s'=s1
   | (s1,some l1)=>v=.tuple [.int .u32 (yDP l1),.int .i64 0]∧WrA p (zKD (zZR l1) s1 wpl) s' c l1 l1.length):=by
 have h1:=hp.big;have h2:=hp.fit;have hat0:=hp.at0;have hlen:=hps.length;have hwlen:=hw.length;refine EffR.enter fun Q hQ=>?_
 refine zQV 97 [.tmp 8,.tmp 9] Tryz.func185 ?_
 repeat' (first|refine zQQ 1276892516653250784675741455 ?_|refine zQW ?_|(refine stp ?_;simp only[go_sem])|((refine zYK ?_);simp only[go_sem])|fail)
 refine zQM (fun z:Nat × Gs × List Pt × List PL × List Nat × List (Nat × EO)=>[(0,.ptr (some ⟨0,0⟩)),(1,zVW rw_ wps.length),(2,zVW r ps.length),(3,.int .i64 c),(10,.map (some t)),(21,.int .i64 ps.length),(22,.int .i64 z.1)]) (fun z:Nat × Gs × List Pt × List PL × List Nat × List (Nat × EO)=>(t,.map (usE z.2.2.2.2.1))::stB (zXG p z.2.1) z.2.2.2.2.2) (fun z:Nat × Gs × List Pt × List PL × List Nat × List (Nat × EO)=>t+1) (fun z:Nat × Gs × List Pt × List PL × List Nat × List (Nat × EO)=>z.1≤ps.length∧z.2.2.1.length=ps.length∧StL p z.2.2.2.2.2 t∧(∀ i,i ≠ r→lkp z.2.2.2.2.2 i=lkp B i)∧PsV z.2.2.2.2.2 t z.2.2.1 z.2.2.2.1∧(ps ≠ []→AtB z.2.2.2.2.2 t r (.cells (ptC z.2.2.1) 262 3 true 0))∧(z.2.1.over=false∧z.2.1.least≤p.n)∧z.2.2.2.1.drop z.1=pls.drop z.1∧(zVJ p s pls=((zVJ p z.2.1 (pls.drop z.1)).1,(zVJ p z.2.1 (pls.drop z.1)).2.map (z.2.2.2.1.take z.1 ++ ·)))∧(∀ y∈z.2.2.2.1.take z.1,∃ b:Nat,y.b=b∧b<p.n)∧(∀ b,b∈z.2.2.2.2.1↔b∈zZR (z.2.2.2.1.take z.1))) (fun z:Nat × Gs × List Pt × List PL × List Nat × List (Nat × EO)=>ps.length - z.1) ((0,s,ps,pls,[],B)) ?_ ?_ ?_ ?_ ?_
 ·rintro ⟨i,si,cur,curl,us,Bi⟩ ⟨hi,hcl,hS,-⟩
  haveI:=hS;refine ⟨by simp[zWP,show r<t+1 by omega,show rw_<t+1 by omega],by simp[zXM],by show t≤t+1;omega⟩
 ·refine ⟨Nat.zero_le _,rfl,hS0,fun _ _=>rfl,hps,hat,⟨ho,hls⟩,rfl,?_,fun y hy=>absurd hy (by simp),fun b=>by simp[zZR]⟩;simp only[List.drop_zero,List.take_zero,List.nil_append]
  cases zVJ p s pls with
  | mk a b=>cases b<;>rfl
 ·simp only[go_sem,zQS]
 ·show zWG _ ((t,.map (usE []))::stB (zXG p s) B);simp only[go_sem,zWG,show usE []=[] from rfl]
 ·rintro ⟨i,si,cur,curl,us,Bi⟩ ⟨hi,hcl,hS,hsame,hcp,hcat,⟨hso,hsl⟩,hdr,hfi,htk,hus⟩
  simp only at hi hcl hS hsame hcp hcat hso hsl hdr hfi htk hus ⊢
  haveI:=hS;have hcl2:=hcp.length
  rcases Nat.lt_or_ge i ps.length with hil | hil
  ·have hpne:ps ≠ []:=List.ne_nil_of_length_pos (by omega);have hca:=hcat hpne;have hA:=hca.f (p:=p);obtain ⟨x,y,hx,hy,hxb,hxf,r0,o0,cap0,C0,w0,f0,hxr,hrow,hrl,hcv⟩:=hcp.get2 (i:=i) (by omega);have hae:=zWZ (b:=r) (n:=ps.length) (by omega);have hyd:pls[i]? = some y:=by
    have q1:=congrArg List.head? hdr;rw[List.head?_drop,List.head?_drop] at q1
    rw[← q1];exact hy
   have hym:=hok y (List.mem_of_getElem? hyd);have hpc:(ptC cur).length=ps.length*3:=by rw[zQF];omega
   have hg1:=(zGQ hx).1;rw[show 3*i=i*3 by omega,hxb] at hg1
   have i2:(i*3+3≤ps.length*3)=True:=by simp;omega
   have hd:pls.drop i=y::pls.drop (i+1):=by
    rw[List.drop_eq_getElem_cons (by omega)];congr 1;rw[List.getElem?_eq_getElem (by omega)] at hyd;simpa using hyd
   rw[hd] at hfi
   simp only[zVJ] at hfi
   rw[hae]
   by_cases hb:y.b = -1
   ·rw[if_pos hb] at hfi
    have htake:=take_c Bi G si hp hso (by omega) hsl
    cases hq:zBH p si with
    | none=>
      rw[hq] at htake hfi
      simp only at htake hfi
      repeat' (first|refine zQQ 1276892516653250784675741455 ?_|refine zQW ?_|(refine stp ?_;simp only[go_sem,hA,hg1,hb])|(refine EffW.at (htake ) [] rfl (by (simp;done)) ?_;(try simp only[go_sem]))|(refine spl (fun h=>?_) (fun h=>?_)<;>first|omega|try simp only[go_sem,h])|(refine zQT ?_ ?_;focus omega))
      refine zKY hQ (B':=gnd p si Bi) (by omega) (by trivial) ⟨Bi,si,rfl,rfl,hS,hsame,?_⟩;rw[hfi];exact ⟨rfl,rfl⟩
    | some b=>
      rw[hq] at htake hfi
      simp only at htake hfi
      have hr11:=hca.hi;have hnr:(r=t)=False:=eq_false (by omega);have hgs:(ptC (cur.set i ⟨b,x.row,true⟩))[i*3]? = some (.int .i64 b):=by
       have:=(zGQ (l:=cur.set i ⟨b,x.row,true⟩) (i:=i) (x:=⟨b,x.row,true⟩) (by rw[List.getElem?_set_self (by omega)])).1
       rwa [Nat.mul_comm] at this
      repeat' (first|refine zQQ 1276892516653250784675741455 ?_|refine zQW ?_|(refine stp ?_;simp only[go_sem,hA,hg1,hb,hpc,i2,zWF,List.length_set,hgs,yWX,ptC_set hx,Option.map_some])|(refine EffW.at (htake ) [] rfl (by (simp;done)) ?_;(try simp only[go_sem]))|((refine zJT ?_;unfold zTQ);simp only[go_sem,zKH])|(simp (disch:=omega) only[zQK])|(refine spl (fun h=>?_) (fun h=>?_)<;>first|omega|try simp only[go_sem,h])|(refine zQT ?_ ?_;focus omega))
      have hnew:=hcp.set hx hy (b:Int) true;haveI hS':StL p (setL Bi r (.cells (ptC (cur.set i ⟨b,x.row,true⟩)) 262 3 true 0)) t:=StL.upd hca hnew.below
      (refine ⟨(i+1,zHS si b,cur.set i ⟨b,x.row,true⟩,curl.set i ⟨b,y.cs,true⟩,insU us b,setL Bi r (.cells (ptC (cur.set i ⟨b,x.row,true⟩)) 262 3 true 0)),t,[t],?_,?_,rfl,rfl,?_,⟨?_,rfl,?_,?_,?_,?_,?_⟩⟩;rotate_left;(focus (simp only[];omega));(focus (simp[go_sem,zQS,hr,hrw]));(focus (omega));(focus simp);(focus (simp));(focus (simp only[];omega));(focus (simp[zXM]));(focus (simp[zFP,zYF _ hr11,zPB]));(try simp only[]))
      obtain ⟨q1,q2,q3,q4⟩:=zHH hq;refine ⟨hil,by rw[List.length_set];exact hcl,hS',fun j hj=>by rw[zWF,if_neg (Ne.symm hj)];exact hsame j hj,PsV.upd hca hnew,fun _=>hca.upd,⟨hso,q2⟩,?_,?_,?_,?_⟩
      ·rw[List.drop_set_of_lt (by omega)];exact yXP hdr
      ·rw[hfi,zYT (by omega),Option.map_map]
       congr 2
       funext z
       simp
      ·rw[zYT (by omega)];intro y' hy'
       rcases List.mem_append.1 hy' with h' | h'
       ·exact htk y' h'
       ·simp at h';subst h';exact ⟨b,rfl,q2⟩
      ·intro c';rw[zYT (by omega),xXJ,List.mem_append,yJD,hus];simp[zZR]
   ·rw[if_neg hb] at hfi
    obtain ⟨b,hbb,hbn,hbt⟩:=hym.resolve_left hb;rw[hbb] at hg1
    repeat' (first|refine zQQ 1276892516653250784675741455 ?_|refine zQW ?_|(refine stp ?_;simp only[go_sem,hA,hg1])|((refine zJT ?_;unfold zTQ);simp only[go_sem,zKH])|(simp (disch:=omega) only[zQK])|(refine spl (fun h=>?_) (fun h=>?_)<;>first|omega|try simp only[go_sem,h])|(refine zQT ?_ ?_;focus omega))
    (refine ⟨(i+1,si,cur,curl,insU us b,Bi),t,[t],?_,?_,rfl,rfl,?_,⟨?_,rfl,?_,?_,?_,?_,?_⟩⟩;rotate_left;(focus (simp only[];omega));(focus (simp[go_sem,zQS,hr,hrw]));(focus (omega));(focus simp);(focus (simp));(focus (simp only[];omega));(focus (simp[zXM]));(focus (simp[zFP,zPB]));(try simp only[]))
    refine ⟨hil,hcl,hS,hsame,hcp,hcat,⟨hso,hsl⟩,yXP hdr,?_,?_,?_⟩
    ·rw[hfi,zKB hy,Option.map_map]
     congr 2
     funext z
     simp
    ·rw[zKB hy];intro y' hy'
     rcases List.mem_append.1 hy' with h' | h'
     ·exact htk y' h'
     ·simp at h';subst h';exact ⟨b,hbb,hbn⟩
    ·intro c';rw[zKB hy,xXJ,List.mem_append,yJD,hus];simp[zZR,hbb]
  ·obtain rfl:i=ps.length:=by omega
   have hcur:List.take ps.length curl=curl:=List.take_of_length_le (by omega);have hnil:List.drop ps.length pls=[]:=List.drop_of_length_le (by omega);rw[hcur] at htk hus hfi
   rw[hnil] at hfi
   simp only[zVJ,Option.map_some,List.append_nil] at hfi
   repeat' (first|refine zQQ 1276892516653250784675741455 ?_|refine zQW ?_|(refine stp ?_;simp only[go_sem])|(refine spl (fun h=>?_) (fun h=>?_)<;>first|omega|try simp only[go_sem,h])|fail)
   have hsit:∀ b,b∈s.taken→b∈si.taken:=fun b hb=>by have:=zGV (p:=p) pls s hb;rwa [hfi] at this
   have hwat':wps ≠ []→AtB Bi t rw_ (.cells (ptC wps) 262 3 true 0):=fun hn=>⟨(hwat hn).hi,(hwat hn).lt,by rw[hsame _ hne];exact (hwat hn).lk⟩
   refine zQM (fun z:Nat × Gs=>[(0,.ptr (some ⟨0,0⟩)),(2,zVW r ps.length),(3,.int .i64 c),(10,.map (some t)),(55,zVW rw_ wps.length),(56,.int .i64 wps.length),(57,.int .i64 z.1)]) (fun z:Nat × Gs=>(t,.map (usE us))::stB (zXG p z.2) Bi) (fun z:Nat × Gs=>t+1) (fun z:Nat × Gs=>z.1≤wps.length∧zKD us z.2 (wpl.drop z.1)=zKD us si wpl∧z.2.over=false∧z.2.least≤p.n∧(∀ y∈wpl.drop z.1,∃ b:Nat,y.b=b∧b∈z.2.taken)) (fun z:Nat × Gs=>wps.length - z.1) ((0,si)) ?_ ?_ ?_ ?_ ?_
   ·rintro ⟨j,sj⟩ -
    refine ⟨by simp[zWP,show r<t+1 by omega,show rw_<t+1 by omega],by simp[zXM],by show t≤t+1;omega⟩
   ·exact ⟨Nat.zero_le _,rfl,hso,hsl,fun y hy=>by obtain ⟨b,q1,q2⟩:=hwok y hy;exact ⟨b,q1,hsit b q2⟩⟩
   ·simp only[go_sem,zQS]
   ·show zWG _ ((t,.map (usE us))::stB (zXG p si) Bi);simp only[go_sem,zWG]
   ·rintro ⟨j,sj⟩ ⟨hj,hgv,hjo,hjl,hjt⟩
    simp only at hj hgv hjo hjl hjt ⊢
    rcases Nat.lt_or_ge j wps.length with hjw | hjw
    ·have hWA:=(hwat' (List.ne_nil_of_length_pos (by omega))).f (p:=p);obtain ⟨x,y,hx,hy,hxb,hxf,r0,o0,cap0,C0,w0,f0,hxr,hrow,hrl,hcv⟩:=hw.get2 (i:=j) (by omega);have hr0:=hrow.lt;have hg3:=zYX hx;rw[hxr] at hg3
     have hwe:=zWZ (b:=rw_) (n:=wps.length) (by omega);have hd:wpl.drop j=y::wpl.drop (j+1):=by
      rw[List.drop_eq_getElem_cons (by omega)];congr 1;rw[List.getElem?_eq_getElem (by omega)] at hy;simpa using hy
     obtain ⟨b,hyb,hbt⟩:=hjt y (by rw[hd];exact List.mem_cons_self ..);have hxb':x.b=b:=by rw[hxb,hyb]
     have hpw:(ptC wps).length=wps.length*3:=by rw[zQF];omega
     have i1:(j*3+3≤wps.length*3)=True:=by simp;omega
     rw[hd] at hgv hjt
     simp only[zKD,hyb,Int.toNat_natCast] at hgv
     rw[hwe];have hfu:=zGZ b us
     by_cases hm:b∈us
     ·rw[if_pos hm] at hfu hgv
      repeat' (first|refine zQQ 1276892516653250784675741455 ?_|refine zQW ?_|(refine stp ?_;simp only[go_sem,hWA,hg3,hpw,i1,hxb'])|((refine zXN ?_;unfold zGR);simp only[go_sem,hfu,zKH])|(simp (disch:=omega) only[zQK])|(refine spl (fun h=>?_) (fun h=>?_)<;>first|omega|try simp only[go_sem,h])|(refine zQT ?_ ?_;focus omega))
      (refine ⟨(j+1,sj),t,[t],?_,?_,rfl,rfl,?_,⟨?_,rfl,?_,?_,?_,?_,?_⟩⟩;rotate_left;(focus (simp only[];omega));(focus (simp[go_sem,zQS,hr,hrw]));(focus (omega));(focus simp);(focus (simp));(focus (simp only[];omega));(focus (simp[zXM]));(focus (simp[zPB]));(try simp only[]))
      exact ⟨hjw,hgv,hjo,hjl,fun y' hy'=>hjt y' (List.mem_cons_of_mem _ hy')⟩
     ·rw[if_neg hm] at hfu hgv
      have hgive:=give_c Bi G sj hp hjo (by omega) b hbt
      repeat' (first|refine zQQ 1276892516653250784675741455 ?_|refine zQW ?_|(refine stp ?_;simp only[go_sem,hWA,hg3,hpw,i1,hxb'])|(refine EffW.at (hgive ) [] rfl (by (simp;done)) ?_;(try simp only[go_sem]))|((refine zXN ?_;unfold zGR);simp only[go_sem,hfu,zKH])|(simp (disch:=omega) only[zQK])|(refine spl (fun h=>?_) (fun h=>?_)<;>first|omega|try simp only[go_sem,h])|(refine zQT ?_ ?_;focus omega))
      (refine ⟨(j+1,zDJ sj b),t,[t],?_,?_,rfl,rfl,?_,⟨?_,rfl,?_,?_,?_,?_,?_⟩⟩;rotate_left;(focus (simp only[];omega));(focus (simp[go_sem,zQS,hr,hrw]));(focus (omega));(focus simp);(focus (simp));(focus (simp only[];omega));(focus (simp[zXM,zDJ]));(focus (simp[zPB,zDJ]));(try simp only[]))
      refine ⟨hjw,hgv,hjo,?_,fun y' hy'=>?_⟩
      ·have:(zDJ sj b).least≤sj.least:=Nat.min_le_left _ _;omega
      ·obtain ⟨b',q1,q2⟩:=hjt y' (List.mem_cons_of_mem _ hy');refine ⟨b',q1,(List.mem_erase_of_ne fun e=>?_).2 q2⟩;have hdn:(zZR (wpl.drop j)).Nodup:=hwnd.sublist ((List.drop_sublist _ _).map _);rw[hd] at hdn
       refine (List.nodup_cons.1 hdn).1 ?_;refine List.mem_map.2 ⟨y',hy',?_⟩;simp only[q1,hyb,e]
    ·obtain rfl:j=wps.length:=by omega
     rw[List.drop_of_length_le (by omega)] at hgv
     simp only[zKD] at hgv
     repeat' (first|refine zQQ 1276892516653250784675741455 ?_|refine zQW ?_|(refine stp ?_;simp only[go_sem])|(refine spl (fun h=>?_) (fun h=>?_)<;>first|omega|try simp only[go_sem,h])|fail)
     have hcm:=yYW (p:=p) pls s curl (by rw[hfi]);have hcs':∀ y∈curl,1≤y.cs.length∧y.cs.length≤248 / c∧∀ x∈y.cs,x.length=c:=fun y hy=>by
      have:y.cs∈pls.map (·.cs):=hcm ▸ List.mem_map.2 ⟨y,hy,rfl⟩;obtain ⟨y',q1,q2⟩:=List.mem_map.1 this;rw[← q2];exact hcs y' q1
     have hsi:=yRS (p:=p) pls s (fun y hy=>(hok y hy).imp id fun ⟨b,q1,q2,q3⟩=>by rw[q1];exact q3) curl (by rw[hfi]);rw[hfi] at hsi
     have hsj:∀ y∈curl,y.b.toNat∈sj.taken:=fun y hy=>hgv ▸ yQR ((hus _).2 (List.mem_map.2 ⟨y,hy,rfl⟩)) wpl si (hsi y hy)
     have hcnd:=hnd si curl hfi;have hclen:=hcp.length;have hlen2:curl.length=ps.length:=by omega
     have hov:OutV Bi t (zVW r ps.length) cur:=⟨r,by rw[hcl],fun hn=>hcat (fun e=>hn (by subst e;exact List.eq_nil_of_length_eq_zero hcl)),hr⟩;refine zQM (fun z:Nat × Gs=>[(0,.ptr (some ⟨0,0⟩)),(2,zVW r ps.length),(3,.int .i64 c),(75,.int .i64 ps.length),(76,.int .i64 z.1)]) (fun z:Nat × Gs=>stB (zXG p z.2) Bi) (fun z:Nat × Gs=>t) (fun z:Nat × Gs=>z.1≤ps.length∧WrA p sj z.2 c curl z.1) (fun z:Nat × Gs=>ps.length - z.1) ((0,sj)) ?_ ?_ ?_ ?_ ?_
     ·rintro ⟨k,sk⟩ -
      exact ⟨by simp[zWP,hr],(show blBelow t (stB (zXG p sk) Bi) from Bg.below (t:=t)),Nat.le_refl _⟩
     ·exact ⟨Nat.zero_le _,WrA.zero _ _ _⟩
     ·simp only[go_sem,zQS]
     ·show zWG _ (stB (zXG p sj) Bi);simp only[go_sem]
     ·rintro ⟨k,sk⟩ ⟨hk,hwa⟩
      simp only at hk hwa ⊢
      rcases Nat.lt_or_ge k ps.length with hkp | hkp
      ·obtain ⟨y,hy⟩:∃ y,curl[k]? = some y:=⟨curl[k]'(by omega),List.getElem?_eq_getElem _⟩;have hym:=List.mem_of_getElem? hy;obtain ⟨b,hyb,hbn⟩:=htk y hym;have hbt:b∈sk.taken:=by rw[hwa.taken];have:=hsj y hym;rwa [hyb] at this
       obtain ⟨q1,q2,q3⟩:=hcs' y hym;have htw:=xJH Bi G sk hp (by rw[hwa.over];exact hjo) c hc1 hc2 cur curl hcp _ hov k b y hy hyb hbn hbt q3 q1 q2 (fun z hz=>by
        obtain ⟨b',e1,e2⟩:=htk z (List.mem_of_getElem? hz);rw[e1];omega) (by omega)
       repeat' (first|refine zQQ 1276892516653250784675741455 ?_|refine zQW ?_|(refine stp ?_;simp only[go_sem])|(refine EffR.at htw ?_)|(simp only[go_sem])|(refine spl (fun h=>?_) (fun h=>?_)<;>first|omega|try simp only[go_sem,h])|fail)
       rintro v bl nx ⟨s',rfl,rfl,rfl,hwr⟩
       repeat' (first|refine zQQ 1276892516653250784675741455 ?_|(refine stp ?_;simp only[go_sem])|(simp (disch:=omega) only[zQK])|fail)
       (refine ⟨(k+1,s'),nx,[],?_,?_,rfl,rfl,?_,⟨?_,rfl,?_,?_,?_,?_,?_⟩⟩;rotate_left;(focus (simp only[];omega));(focus (simp[go_sem,zQS,hr]));(focus (omega));(focus simp);(focus (simp));(focus (simp only[];omega));(focus (simp));(focus (simp));(try simp only[]))
       exact ⟨hkp,hwa.step hy (by rw[hyb,Int.toNat_natCast];exact hwr) hcnd⟩
      ·obtain rfl:k=ps.length:=by omega
       have hfin:WrA p (zKD (zZR curl) si wpl) sk c curl curl.length:=by rw[← yQT hus,← hgv,hlen2];exact hwa
       rcases Nat.eq_zero_or_pos ps.length with h0 | h0
       ·repeat' (first|refine zQQ 1276892516653250784675741455 ?_|(refine stp ?_;simp only[go_sem])|(refine spl (fun h=>?_) (fun h=>?_)<;>first|omega|try simp only[go_sem,h])|fail)
        refine zKY hQ (B':=gnd p sk Bi) (Nat.le_refl _) (by simp[EV.bel]) ⟨Bi,sk,rfl,rfl,hS,hsame,?_⟩;rw[hfi];rw[List.eq_nil_of_length_eq_zero (hlen2.trans h0)] at hfin ⊢
        exact ⟨rfl,hfin⟩
       ·have hA:=(hcat (List.ne_nil_of_length_pos h0)).f (p:=p);obtain ⟨x,y,hx,hy,hxb,-⟩:=hcp.get2 (i:=0) (by omega);obtain ⟨b,hyb,hbn⟩:=htk y (List.mem_of_getElem? hy);have hg1:=(zGQ hx).1;rw[hxb,hyb] at hg1
        have hae:=zWZ (b:=r) h0;have hcu:curl=y::curl.tail:=by
         cases curl with
         | nil=>simp at hy
         | cons a l=>simp at hy;rw[hy];rfl
        rw[hae]
        repeat' (first|refine zQQ 1276892516653250784675741455 ?_|(refine stp ?_;simp only[go_sem,hA,hg1])|(simp (disch:=omega) only[zQK,zPH])|(refine spl (fun h=>?_) (fun h=>?_)<;>first|omega|try simp only[go_sem,h])|(refine zQT ?_ ?_;focus omega))
        refine zKY hQ (B':=gnd p sk Bi) (Nat.le_refl _) (by simp[EV.bel]) ⟨Bi,sk,rfl,rfl,hS,hsame,?_⟩;rw[hfi];refine ⟨?_,hfin⟩;rw[hcu];simp only[yDP,hyb,Int.toNat_natCast];rfl
end
end Go.Proofs.YtncphnpndkjkaaaGreatDoor
