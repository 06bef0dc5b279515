/-
  Own work: a part of the proof that the last text closes.
-/
import Derived.Test.YtncphnpndkjkaaaGreatDoorHk
import Derived.Test.YtncphnpndkjkaaaGreatDoorHn
import Derived.WalkKit
import Derived.Test.YtncphnpndkjkaaaGreatDoorHo
namespace Go.Proofs.YtncphnpndkjkaaaGreatDoor
open Go.E
set_option linter.all false
set_option maxRecDepth 100000
set_option maxHeartbeats 16000000
section
variable {p:Gp} (B:List (Nat × EO)) {t:Nat}
theorem EdQ.le {p:Gp} {s:Gs} {was:List Nat} {T:List UInt8} {k k':Nat} {v:EV} {s':Gs} (h:EdQ p s was T k v s') (hk:k≤k'):EdQ p s was T k' v s':=
 h.imp id fun ⟨h1,h2⟩=>⟨h1,by omega⟩
theorem nilEq (w:World):(binOp .eql 187 (Value.slice none 0 0) (.slice none 0 0)).run Tryz.prog w=.ok (.bool true) w:=by
 have hu:Tryz.prog.underlying 187=some (.slice 192):=by kernel_rfl
 have he:∀ (i:Nat) (w:World),(Op.equalIn (i+1) 187 (.slice none 0 0) (.slice none 0 0)).run Tryz.prog w=.ok true w:=by
  intro i w;simp only[Op.equalIn,Sem.run_bind,run_underlying hu,Result.andThen_ok,Sem.run_pure];rfl
 have he2:∀ (w:World),(Op.equal 187 (.slice none 0 0) (.slice none 0 0)).run Tryz.prog w=.ok true w:=fun w=>he 9999 w
 simp[binOp,he2]
open Go.RowKit in
theorem clone0_k (w:World):Calls Tryz.prog 83 #[.slice none 0 0] w fun e w'=>e=.returned (.slice none 0 0)∧w'=w:=by
 go_enter Tryz.func83,Tryz.ntmps83
 go_wp2
 rw[nilEq]
 go_wp2
 go_ret
 exact ⟨rfl,rfl⟩
theorem clone0_c (G:List Gl):E.Pure G Tryz.prog 83 [.slice none 0 0] (.slice none 0 0):=by
 unfold E.Pure;refine zMH (v':=.slice none 0 0) (enters_of Tryz.func83 (by kernel_rfl) rfl) (fun ρ=>by rw[VR];exact ⟨rfl,rfl,rfl⟩) (fun ρ w args' hR hA=>?_) ⟨rfl,rfl⟩;obtain ⟨x',e,hx⟩:=yPT hA;obtain ⟨la⟩:=args';simp only at e
 subst e;have hx':x'=.slice none 0 0:=by simpa [VR] using hx
 subst hx';refine (clone0_k w).mono ?_
 rintro e w' ⟨rfl,rfl⟩;exact ⟨rfl,RowKit.Below.refl _ _⟩
theorem cinsert_c (G:List Gl) (s:Gs) [Big t] [hS0:StL p B t] (hp:p.ok) (ho:s.over=false) (hs:GsOK p s) (hr:ovl s.put 64 8=zU 8) (ps:List Ck) (tb:List TP) (hx:TxOK p s ps tb) (a:Nat) (x:List UInt8) (ha:a≤zVM ps) (hxl:zVM ps+x.length≤1048576) :
  EffR G Tryz.prog 57 [.ptr (some ⟨0,0⟩),.int .u32 (zWQ tb),.int .i64 a,.str x] (gnd p s B) t (fun v bl nx=>∃ B' s',bl=gnd p s' B'∧StL p B' nx∧Ext B t B' nx∧EdQ p s (tb.map (·.1)++zZN ps) ((zQP ps).take a++x++(zQP ps).drop a) (2*((x.length+251) / 252)) v s'∧(ps=[]→0<x.length→Ed0 p s (yTT x (-1)) v s')):=by
 have h1:=hp.big;have h2:=hp.fit;have hln:=hx.len;have hsum:=hx.sum;refine EffR.enter fun Q hQ=>?_
 refine zQV 127 [.tmp 8,.tmp 9] Tryz.func57 ?_
 repeat' (first|refine zQQ 2596148429269775033553209916653327 ?_|(refine stp ?_;simp only[go_sem])|(refine EffR.at (yZG B G s hp ho hr ps tb hx) ?_)|(simp only[go_sem])|fail)
 rintro v bl nx ⟨B1,v1,rfl,rfl,hS1,he1,htx⟩
 haveI:=hS1;haveI:Big nx:=⟨hS1.big⟩;have h3:=he1.le;have hlen:=yYR (p:=p) B1 G s v1 _ ps tb htx hsum (by omega);obtain ⟨xx,rp,v2,rfl,hxa,hat,hrt,hra⟩:=htx;have hxt:=hxa.lt;have hX:=hxa.f (p:=p)
 rcases Nat.eq_zero_or_pos x.length with hx0 | hx0
 ·obtain rfl:x=[]:=List.eq_nil_of_length_eq_zero hx0
  repeat' (first|refine zQQ 2596148429269775033553209916653327 ?_|refine zQW ?_|(refine stp ?_;simp only[go_sem])|(refine EffW.at (hlen ) [] rfl (by first|(simp[hxt,zQR hxt];done)|fail) ?_;(try simp only[go_sem]))|(simp (disch:=omega) only[zQK])|(refine spl (fun h=>?_) (fun h=>?_)<;>first|omega|((try simp only[zZQ]);(try simp only[go_sem,h])))|fail)
  refine zWX hQ (by omega) (Bg.below (t:=nx)) (by simp[EV.bel,zQX]) ⟨B1,s,rfl,hS1,he1,.inl ⟨ps,tb,rfl,?_⟩,fun _ h=>absurd h (by simp)⟩;rw[List.append_nil,List.take_append_drop];exact EdOK.refl hx hs
 ·have hx0':¬ x=[]:=fun e=>by rw[e] at hx0;simp at hx0
  rcases Nat.eq_zero_or_pos ps.length with hp0 | hp0
  ·obtain rfl:ps=[]:=List.eq_nil_of_length_eq_zero hp0;obtain rfl:=hx.nil_of;have ht0:zVM []=0:=rfl;rw[ht0] at hlen hxl ha
   obtain rfl:a=0:=by omega
   obtain ⟨hpl,hfl,hnw,hl0,hll⟩:=cutG_ok x (by omega) hx0;have hcl0:=clone0_c G;have hcgl:(yTT x (-1)).length=(x.length+251) / 252:=by unfold yTT;exact zTX _ _ _
   have hcut:=cut_c (p:=p) (t:=nx) B1 G s x (-1) (by omega) hx0;rw[show ([]:List Ck).length=0 from rfl,zWY] at hX
   repeat' (first|refine zQQ 2596148429269775033553209916653327 ?_|refine zQW ?_|(refine stp ?_;simp only[go_sem,hX,hx0'])|(refine EffW.at (hlen ) [] rfl (by first|(simp[hxt,zQR hxt];done)|fail) ?_;(try simp only[go_sem]))|(refine Pure.at (hcl0) (by simp) (by simp) rfl ?_;(try simp only[go_sem]))|(refine EffR.at hcut ?_)|(simp only[go_sem])|(refine spl (fun h=>?_) (fun h=>?_)<;>first|omega|try simp only[go_sem,h])|fail)
   rintro v bl nx2 ⟨B2,r,rfl,hS2,he2,hrn,cap,D,z0,rfl,hrow,hcap,hcD,hz,hD,hDo⟩
   haveI:=hS2;haveI:Big nx2:=⟨hS2.big⟩;have h4:=he2.le;have hca:=ccarry0_c (p:=p) (t:=nx2) B2 G s hp ho hs hr xx rp v2 (hxa.mono he2) (by omega) (yTT x (-1)) hpl (by omega) hl0 r cap z0 D hrow hcap hcD hz hD hDo (by omega)
   repeat' (first|(refine EffR.at hca ?_)|(simp only[go_sem])|fail)
   rintro v bl nx3 ⟨B3,s3,rfl,hS3,h5,hsame,hed⟩
   haveI:=hS3;have hq:=hed.edq;rw[hfl,hnw] at hq
   have hv:∃ r e,v=.tuple [.int .u32 r,.int .i64 e]:=by
    rcases hq with ⟨_,_,rfl,-⟩ | ⟨rfl,-⟩<;>exact ⟨_,_,rfl⟩
   obtain ⟨r',e',rfl⟩:=hv
   repeat' (first|(refine stp ?_;simp only[go_sem])|(simp only[go_sem])|fail)
   refine zWX hQ (by omega) (Bg.below (t:=nx3)) (by simp[EV.bel,zQX]) ⟨B3,s3,rfl,hS3,⟨by omega,fun j hj=>?_⟩,?_,fun _ _=>hed⟩
   ·rw[hsame j (by omega) (by omega),he2.same j (by omega),he1.same j hj]
   ·have e0:zQP []=[]:=rfl;have e1:zZN []=[]:=rfl;rw[e0,e1]
    simpa using hq
  ·have hatp:=hat (List.length_pos_iff.1 hp0);have hcl:=clonep_c (p:=p) (t:=nx) B1 G s rp 3 ps hatp hp0 (by omega);rw[zWZ hp0] at hX
   repeat' (first|refine zQQ 2596148429269775033553209916653327 ?_|refine zQW ?_|(refine stp ?_;simp only[go_sem,hX,hx0'])|(refine EffW.at (hlen ) [] rfl (by first|(simp[hxt,zQR hxt];done)|fail) ?_;(try simp only[go_sem]))|(refine EffR.at hcl ?_)|(simp only[go_sem])|(simp (disch:=omega) only[zQK])|(refine spl (fun h=>?_) (fun h=>?_)<;>first|omega|((try simp only[zZQ]);(try simp only[go_sem,h])))|fail)
   rintro v bl nx2 ⟨B2,T,cX,rfl,hS2,he2,hTn,hcX,rfl,hrow⟩
   haveI:=hS2;haveI:Big nx2:=⟨hS2.big⟩;have h4:=he2.le;have hA:=hrow.f (p:=p);have hTt:=hrow.lt;have hxn:xx<nx2:=by omega
   have hckl:=zWR ps;have hzl:=xZZ (cX - ps.length);have hg:∀ {i:Nat} {y:Ck},ps[i]? = some y→(ckC ps++xZV (cX - ps.length))[i*3]? = some (.str y.T):=fun {i y} hy=>by
    have:=(List.getElem?_eq_some_iff.1 hy).1;rw[List.getElem?_append_left (by omega)];exact (yQH hy).1
   repeat' (first|refine zQQ 2596148429269775033553209916653327 ?_|refine zQW ?_|(refine stp ?_;simp only[go_sem])|(refine spl (fun h=>?_) (fun h=>?_)<;>first|omega|try simp only[go_sem,h])|fail)
   refine zQM (fun i:Nat=>[(0,.ptr (some ⟨0,0⟩)),(2,.int .i64 a),(3,.str x),(10,.ptr (some ⟨xx,0⟩)),(12,.slice (some ⟨T,0⟩) ps.length cX),(13,.int .i64 i),(14,.int .i64 (zVM (ps.take i)))]) (fun i:Nat=>stB (zXG p s) B2) (fun i:Nat=>nx2) (fun i:Nat=>i<ps.length∧(i=0∨zVM (ps.take i)<a)) (fun i:Nat=>ps.length - i) (0) ?_ ?_ ?_ ?_ ?_
   ·rintro i -
    exact ⟨by simp[zWP,hTt,show xx<nx2 by omega],(show blBelow nx2 (stB (zXG p s) B2) from Bg.below (t:=nx2)),by show t≤nx2;omega⟩
   ·exact ⟨hp0,.inl rfl⟩
   ·simp only[go_sem,zQS,zVM,List.map_nil,List.sum_nil]
   ·show zWG _ (stB (zXG p s) B2);simp only[go_sem]
   ·rintro i ⟨hi,hia⟩
    obtain ⟨y,hy⟩:∃ y,ps[i]? = some y:=⟨ps[i],List.getElem?_eq_getElem _⟩;have hyg:=hg hy;have hts:=zVV hy;have htl:=zKJ ps (i+1);have hpy:=hx.part y (List.mem_of_getElem? hy);have hyl:=hpy.fill;have i3:(i*3+3≤(ckC ps++xZV (cX - ps.length)).length)=True:=eq_true (by rw[List.length_append];omega)
    by_cases hgo:zVM (ps.take i)+y.T.length<a
    ·repeat' (first|refine zQQ 2596148429269775033553209916653327 ?_|refine zQW ?_|(refine stp ?_;simp only[go_sem,hA,hyg])|(simp (disch:=omega) only[zQK])|(refine spl (fun h=>?_) (fun h=>?_)<;>first|omega|try simp only[go_sem,h])|(refine zQT ?_ ?_;focus omega))
     (refine ⟨(i+1),nx2,[],?_,?_,rfl,rfl,?_,⟨?_,rfl,?_,?_,?_,?_,?_⟩⟩;rotate_left;(focus (simp only[];omega));(focus (simp only[go_sem,zQS,hTt,hxn,hts,Int.natCast_add]));(focus (omega));(focus simp);(focus (simp));(focus (simp only[];omega));(focus (simp));(focus (simp));(try simp only[]))
     exact ⟨by
      rcases Nat.lt_or_ge (i+1) ps.length with q | q
      ·exact q
      ·rw[List.take_of_length_le (show ps.length≤i+1 by omega)] at hts;omega,.inr (by omega)⟩
    ·obtain ⟨k,hk⟩:∃ k,a=zVM (ps.take i)+k:=⟨a - zVM (ps.take i),by
      rcases hia with q | q
      ·subst q;rw[List.take_zero];show a=0+(a - 0);omega
      ·omega⟩
     have hky:k≤y.T.length:=by omega
     have hka:((a:Int) - (zVM (ps.take i):Nat))=(k:Int):=by omega
     obtain ⟨b,hb⟩:∃ b:Nat,y.b=b:=⟨y.b.toNat,by have:=hpy.nn;omega⟩;have hg4:((ckC ps++xZV (cX - ps.length)).drop (i*3)).take 3=[.str y.T,.int .i64 y.f,.int .i64 b]:=by
      obtain ⟨q1,q2⟩:=zRV hy;rw[List.drop_append_of_le_length (by omega),List.take_append_of_le_length (by rw[List.length_drop];omega),q1,hb]
     obtain ⟨P,hP⟩:∃ P,y.T.take k++x++y.T.drop k=P:=⟨_,rfl⟩;have hPl:P.length=y.T.length+x.length:=by rw[← hP];simp only[List.length_append,List.length_take,List.length_drop];omega
     have hnp:ySJ y k x=if 252<P.length then yTT P b else [⟨P,k+x.length,b⟩]:=by unfold ySJ;rw[hP,hb,← hPl]
     have hl4:(List.take k y.T).length+x.length≤9223372036854775807∧(List.take k y.T++x).length+(List.drop k y.T).length≤9223372036854775807:=by simp only[List.length_append,List.length_take,List.length_drop];omega
     obtain ⟨n1,n2,n3,n4,n5,n6⟩:=xPG (k:=k) (s:=x) hpy.nn hky hpy.pos hpy.fill;obtain ⟨pc,hpc⟩:∃ pc,pc=EO.cells [.str P,.int .i64 ((k:Int)+(x.length:Int)),.int .i64 (b:Int)] 192 0 true 0:=⟨_,rfl⟩;have hT11:11≤nx2:=hS2.big;have hab:=StL.above (p:=p) (B:=B2) (t:=nx2) (t':=nx2+15) (X:=[(nx2+14,pc),(nx2,pc)]) (by omega) (by simp[zXT]) (by simp[zWN,lkp]) (by rw[hpc];simp);simp only[List.cons_append,List.nil_append] at hab
     have e:stB (zXG p s) ((nx2+14,pc)::(nx2,pc)::B2)=(nx2+14,pc)::(nx2,pc)::stB (zXG p s) B2:=by
      rw[zXK,if_neg (by omega),zXK,if_neg (by omega)]
     have hqat:AtB ((nx2+14,pc)::(nx2,pc)::B2) (nx2+15) (nx2+14) pc:=⟨by omega,by omega,by simp[lkp]⟩;obtain ⟨T3,hT3⟩:∃ T3,T3=nx2+15:=⟨_,rfl⟩;rw[← hT3] at hab hqat
     generalize hB3:(nx2+14,pc)::(nx2,pc)::B2=B3 at hab hqat e
     obtain ⟨hS3,he3⟩:=hab;haveI:=hS3;haveI:Big T3:=⟨hS3.big⟩
     by_cases hlong:252<P.length
     ·rw[if_pos hlong] at hnp
      have hnx:=hnp
      repeat' (first|refine zQQ 2596148429269775033553209916653327 ?_|(refine stp ?_;simp only[go_sem,hA,hyg,hka,i3,hg4])|(refine zWV (id:=19) mixed [(0,[]),(2,[]),(4,[]),(6,[]),(8,[]),(1,[]),(3,[]),(5,[]),(7,[]),(9,[]),(10,[]),(11,[]),(12,[])] (by kernel_rfl) ?_;simp only[go_sem,List.drop_zero])|(simp only[go_sem,hP])|(simp (disch:=omega) only[zQK])|(refine spl (fun h=>?_) (fun h=>?_)<;>first|omega|try simp only[go_sem,h])|(refine zQT ?_ ?_;focus omega))
      rw[← hpc,← e,← hT3];have hcut:=cut_c (p:=p) (t:=T3) B3 G s P b (by omega) (by omega);refine EffR.at hcut ?_
      rintro v bl nxq ⟨Bq,q,rfl,hSq,heq,hTq,capq,Dq,zq,rfl,hrowq,hcapq,hcDq,hzq,hDq,hDoq⟩
      haveI:=hSq;haveI:Big nxq:=⟨hSq.big⟩;have hnl:=n5;have hnle:=n6;rw[hnx] at hnl hnle
      have hle:=(he3.trans heq).le;have hTB:AtB Bq nxq T _:=hrow.mono (he3.trans heq);have hrep:=repl_c (p:=p) (t:=nxq) Bq G s ps (yTT P b) T cX q capq zq i (xZV (cX - ps.length)) Dq hTB (by rw[hzl]) (zFX _) (xJT _) hcX hi (by omega) hrowq (by have:=hrow.lt;omega) hcapq hnl (by omega);rw[show ((i+1:Nat):Int)=(i:Int)+1 by omega] at hrep
      repeat' (first|refine zQQ 2596148429269775033553209916653327 ?_|(refine stp ?_;simp only[go_sem])|(refine EffR.at hrep ?_)|(simp only[go_sem])|(simp (disch:=omega) only[zQK])|fail)
      rintro v bl nx4 ⟨B4,r',cap,D,z,rfl,hS4,h5,hsame4,hr',rfl,hat4,hcap4,hcD4,hz4,hD4,hDo4⟩
      haveI:=hS4;haveI:Big nx4:=⟨hS4.big⟩;obtain ⟨o1,o2,o3⟩:=xRV hx hy hky hxl;have hple:ps.take i++(yTT P b)++ps.drop (i+1)=zTD ps i y k x:=by unfold zTD;rw[hnx]
      have hpll:(zTD ps i y k x).length=ps.length - 1+(yTT P b).length:=by rw[← hple];simp only[List.length_append,List.length_take,List.length_drop];omega
      rw[hple] at hat4
      have hcap5:(zTD ps i y k x).length≤cap:=by rw[hpll];exact hcap4
      have hcD5:cap*3≤(zTD ps i y k x).length*3+D.length:=by rw[hpll];exact hcD4
      have hz5:z=0∨z=3∧cap*3=(zTD ps i y k x).length*3+D.length:=by rw[hpll];exact hz4
      have hTr:∀ j,j<nx2→j ≠ T→j ≠ r'∧lkp B4 j=lkp B2 j:=fun j hj hne=>⟨by omega,by rw[hsame4 j (by have:=(he3.trans heq).le;omega) hne,(he3.trans heq).same j hj]⟩
      obtain ⟨x1,x2⟩:=hTr xx hxn (by omega);obtain ⟨y1,y2⟩:=hTr rp (by omega) (by omega);have hca:=yFX (p:=p) (t:=nx4) B4 G s hp ho hs hr ps tb hx (List.length_pos_iff.1 hp0) xx rp v2 ⟨hxa.hi,by omega,by rw[x2,he2.same xx hxt];exact hxa.lk⟩ ⟨hatp.hi,by omega,by rw[y2,he2.same rp hrt];exact hatp.lk⟩ (zTD ps i y k x) o1 (by omega) (by omega) r' cap z D hat4 hcap5 hcD5 hz5 hD4 hDo4 y1;rw[show (zTD ps i y k x).length=(ps.length - 1+(yTT P b).length) from hpll] at hca
      repeat' (first|(refine EffR.at hca ?_)|(simp only[go_sem])|fail)
      rintro v bl nx5 ⟨B5,s5,rfl,hS5,h6,hsame5,hed⟩
      haveI:=hS5;have hv:∃ r e,v=.tuple [.int .u32 r,.int .i64 e]:=by
       rcases hed with ⟨_,_,rfl,-⟩ | ⟨rfl,-⟩<;>exact ⟨_,_,rfl⟩
      obtain ⟨r'',e'',rfl⟩:=hv
      repeat' (first|(refine stp ?_;simp only[go_sem])|(simp only[go_sem])|fail)
      refine zWX hQ (by omega) (Bg.below (t:=nx5)) (by simp[EV.bel,zQX]) ⟨B5,s5,rfl,hS5,⟨by omega,fun j hj=>?_⟩,?_,fun h=>absurd h (List.length_pos_iff.1 hp0)⟩
      ·obtain ⟨j1,j2⟩:=hTr j (by omega) (by omega);rw[hsame5 j (by omega) j1,j2,he2.same j (by omega),he1.same j hj]
      ·rw[o2,← hk] at hed
       exact hed.le (by omega)
     ·rw[if_neg hlong] at hnp
      have hnx:=hnp;have hqat2:AtB B3 T3 (nx2+14) (.cells (ckC [⟨P,k+x.length,b⟩]++[]) 192 0 true 0):=by
       rw[hpc] at hqat
       simpa [zRK,Int.natCast_add] using hqat
      repeat' (first|refine zQQ 2596148429269775033553209916653327 ?_|(refine stp ?_;simp only[go_sem,hA,hyg,hka,i3,hg4])|(refine zWV (id:=19) mixed [(0,[]),(2,[]),(4,[]),(6,[]),(8,[]),(1,[]),(3,[]),(5,[]),(7,[]),(9,[]),(10,[]),(11,[]),(12,[])] (by kernel_rfl) ?_;simp only[go_sem,List.drop_zero])|(simp only[go_sem,hP])|(simp (disch:=omega) only[zQK])|(refine spl (fun h=>?_) (fun h=>?_)<;>first|omega|try simp only[go_sem,h])|(refine zQT ?_ ?_;focus omega))
      rw[← hpc,← e,← hT3];obtain ⟨q,hq⟩:∃ q,q=nx2+14:=⟨_,rfl⟩;rw[← hq] at hqat2 ⊢
      have hTq:nx2≤q:=by omega
      have hnl:=n5;have hnle:=n6;rw[hnx] at hnl hnle
      have hle:=he3.le;have hTB:AtB B3 T3 T _:=hrow.mono he3;have hrep:=repl_c (p:=p) (t:=T3) B3 G s ps ([⟨P,k+x.length,b⟩]:List Ck) T cX q 1 0 i (xZV (cX - ps.length)) [] hTB (by rw[hzl]) (zFX _) (xJT _) hcX hi (by omega) hqat2 (by have:=hrow.lt;omega) (Nat.le_refl 1) hnl (by omega);rw[show ((i+1:Nat):Int)=(i:Int)+1 by omega] at hrep
      repeat' (first|(refine EffR.at hrep ?_)|(simp only[go_sem])|fail)
      rintro v bl nx4 ⟨B4,r',cap,D,z,rfl,hS4,h5,hsame4,hr',rfl,hat4,hcap4,hcD4,hz4,hD4,hDo4⟩
      haveI:=hS4;haveI:Big nx4:=⟨hS4.big⟩;obtain ⟨o1,o2,o3⟩:=xRV hx hy hky hxl;have hple:ps.take i++([⟨P,k+x.length,b⟩]:List Ck)++ps.drop (i+1)=zTD ps i y k x:=by unfold zTD;rw[hnx]
      have hpll:(zTD ps i y k x).length=ps.length - 1+([⟨P,k+x.length,b⟩]:List Ck).length:=by rw[← hple];simp only[List.length_append,List.length_take,List.length_drop];omega
      rw[hple] at hat4
      have hcap5:(zTD ps i y k x).length≤cap:=by rw[hpll];exact hcap4
      have hcD5:cap*3≤(zTD ps i y k x).length*3+D.length:=by rw[hpll];exact hcD4
      have hz5:z=0∨z=3∧cap*3=(zTD ps i y k x).length*3+D.length:=by rw[hpll];exact hz4
      have hTr:∀ j,j<nx2→j ≠ T→j ≠ r'∧lkp B4 j=lkp B2 j:=fun j hj hne=>⟨by omega,by rw[hsame4 j (by have:=he3.le;omega) hne,he3.same j hj]⟩
      obtain ⟨x1,x2⟩:=hTr xx hxn (by omega);obtain ⟨y1,y2⟩:=hTr rp (by omega) (by omega);have hca:=yFX (p:=p) (t:=nx4) B4 G s hp ho hs hr ps tb hx (List.length_pos_iff.1 hp0) xx rp v2 ⟨hxa.hi,by omega,by rw[x2,he2.same xx hxt];exact hxa.lk⟩ ⟨hatp.hi,by omega,by rw[y2,he2.same rp hrt];exact hatp.lk⟩ (zTD ps i y k x) o1 (by omega) (by omega) r' cap z D hat4 hcap5 hcD5 hz5 hD4 hDo4 y1;rw[show (zTD ps i y k x).length=(ps.length - 1+1) from hpll] at hca
      repeat' (first|(refine EffR.at hca ?_)|(simp only[go_sem])|fail)
      rintro v bl nx5 ⟨B5,s5,rfl,hS5,h6,hsame5,hed⟩
      haveI:=hS5;have hv:∃ r e,v=.tuple [.int .u32 r,.int .i64 e]:=by
       rcases hed with ⟨_,_,rfl,-⟩ | ⟨rfl,-⟩<;>exact ⟨_,_,rfl⟩
      obtain ⟨r'',e'',rfl⟩:=hv
      repeat' (first|(refine stp ?_;simp only[go_sem])|(simp only[go_sem])|fail)
      refine zWX hQ (by omega) (Bg.below (t:=nx5)) (by simp[EV.bel,zQX]) ⟨B5,s5,rfl,hS5,⟨by omega,fun j hj=>?_⟩,?_,fun h=>absurd h (List.length_pos_iff.1 hp0)⟩
      ·obtain ⟨j1,j2⟩:=hTr j (by omega) (by omega);rw[hsame5 j (by omega) j1,j2,he2.same j (by omega),he1.same j hj]
      ·rw[o2,← hk] at hed
       exact hed.le (by omega)
end
section
def zVX (s:List UInt8):List EV:=[.int .i64 s.length,.int .i64 (tlG s 0).1,.int .i64 (tlG s 0).2,.str (zVB s),.str (zXH s)]
theorem zGB (s:List UInt8):zZY s=.agg (zVX s):=rfl
theorem zNM (s:List UInt8) (k:Nat):zQX k (zVX s):=by simp[zVX,zQX,EV.bel]
@[simp] theorem tallyC_belT (s:List UInt8) (k:Nat):zQX k (zVX s)=True:=eq_true (zNM s k)
theorem xSX (s:List UInt8) (π:Nat→Nat):zZG π (zVX s)=zVX s:=rfl
variable {p:Gp} (B:List (Nat × EO)) {t:Nat}
theorem xJB (G:List Gl) (hG:Tabs G) (s:Gs) [Big t] [hS0:StL p B t] (v:EV) (ref:Nat) (ps:List Ck) (tb:List TP) (hv:TxtV B t v ref ps tb) (hs:zVM ps≤1048576) (hn:ps.length≤1000000) (hpos:∀ x∈ps,1≤x.T.length) (b:Nat) (hb:b≤zVM ps) :
  EffW G Tryz.prog 80 [v,.int .i64 b] t [] (gnd p s B) 0 (zZY ((zQP ps).take b)) [] (gnd p s B) 0:=by
 obtain ⟨x,r,v2,rfl,hx,hat,hr,h2⟩:=hv;have hxt:=hx.lt;have hrx:(r<t+6)∧x<t+6:=by omega
 have hxk:∀ k,x<t+k:=fun k=>by omega
 have hX:=hx.f (p:=p);have hall:=all_c (p:=p) B G s x hxt;rw[zGB];refine EffW.enter fun Q hQ=>?_
 simp only[gnd,List.nil_append,Nat.add_zero];refine zQV 32 [.cell 4 81] Tryz.func80 ?_
 repeat' (first|refine zQQ 20219 ?_|refine zQW ?_|(refine stp ?_;simp only[go_sem])|(refine EffW.at (hall ) [] rfl (by simp[hxt,zQR hxt];omega) ?_;(try simp only[go_sem,zQR hxt]))|fail)
 refine zJQ [(3,.ptr (some ⟨t,0⟩)),(4,.ptr (some ⟨t+1,0⟩)),(5,.ptr (some ⟨t+2,0⟩))] 115 [] [.ptr (some ⟨t+3,0⟩)] (by simp only[go_sem]) Tryz.func115 rfl rfl (by simp only[go_sem,zQS]) ?_;intro cd hcd D;simp only[go_sem,List.nil_append,List.cons_append];refine zQV 26 [] Tryz.func115 ?_
 repeat' (first|refine zQQ 532011 ?_|refine zQW ?_|(refine stp ?_;simp only[go_sem,hX])|fail)
 obtain ⟨tl,htm⟩:∃ l,l=tlM 32 [(3,.ptr (some ⟨t,0⟩)),(4,.ptr (some ⟨t+1,0⟩)),(5,.ptr (some ⟨t+2,0⟩))]:=⟨_,rfl⟩;have htlb:zQX (t+3) tl:=by rw[htm];exact zDH (by simp[zWP])
 have htlk:∀ k,zQX (t+3+k) tl=True:=fun k=>eq_true (zQJ (Nat.le_add_right _ _) _ htlb)
 have htlr:∀ q,zZG (nam (t+6) q) tl=tl:=fun q=>zWB (k:=t+3) (i:=3) htlb
 have htl6:zQX (t+6) tl=True:=htlk 3;rw[← htm];obtain ⟨W,hW⟩:∃ W:Nat→List UInt8,W=fun i=>(zQP (ps.take i)).take b:=⟨_,rfl⟩
 have hWl:∀ i,(W i).length≤1048576:=fun i=>by rw[hW];simp only[List.length_take];omega
 refine zQM (fun i:Nat=>[(11,.int .i64 i),(10,.int .i64 ps.length),(9,zVW r ps.length),(3,.int .i64 (zVM (ps.take i))),(0,.fn (.yield (D+1)) [] [])]) (fun i:Nat=>(t+5,.rng (D+1) tl .ready none cd)::(t+4,.raw D (.deferred (some [])))::(t+3,.cells [.ptr (some ⟨x,0⟩)] 182 0 true 0)::(t+2,.cells (zVX (W i)) 81 0 true 0)::(t+1,.cells (zVX []) 81 0 true 0)::(t,.cells [.int .i64 b] 3 0 true 0)::stB (zXG p s) B) (fun i:Nat=>t+6) (fun i:Nat=>i≤ps.length) (fun i:Nat=>ps.length - i) (0) ?_ ?_ ?_ ?_ ?_
 ·rintro i hi
  exact ⟨by simp[zWP,show r<t+6 by omega],by simp[htl6,show x<t+6 by omega],by show t+6≤t+6;omega⟩
 ·exact Nat.zero_le _
 ·simp only[go_sem,zQS,zVM,List.map_nil,List.sum_nil]
 ·have hW0:W 0=[]:=by simp[hW,zQP]
  simp only[hW0];simp only[go_sem,zWG];exact ⟨rfl,rfl⟩
 ·rintro i hi
  have hT5:∀ z:List UInt8,(zVX z).length=5:=fun z=>rfl
  have hT5t:∀ z:List UInt8,(zVX z).take 5=zVX z:=fun z=>rfl
  have hT5o:∀ z:List UInt8,(zVX z).all EV.one=true:=fun z=>rfl
  have htlk2:∀ k,3≤k→zQX (t+k) tl=True:=fun k hk=>eq_true (zQJ (by omega) _ htlb)
  have hWi:=hWl i;have hP:=zQD (ps.take i)
  rcases Nat.lt_or_ge i ps.length with hil | hil
  ·obtain ⟨y,hy⟩:∃ x,ps[i]? = some x:=⟨ps[i],by simp[hil]⟩;have hA:=(hat (List.ne_nil_of_length_pos (by omega))).f (p:=p);have hg3:=zRV hy;have hae:=zWZ (b:=r) (n:=ps.length) (by omega);have hts:=zVV hy;have htl:=zKJ ps (i+1);rw[hae];have hWs:∀ k,W k=(zQP (ps.take k)).take b:=fun k=>by rw[hW]
   have hT5:∀ z:List UInt8,(zVX z).length=5:=fun z=>rfl
   have hT5t:∀ z:List UInt8,(zVX z).take 5=zVX z:=fun z=>rfl
   have hT5o:∀ z:List UInt8,(zVX z).all EV.one=true:=fun z=>rfl
   have hT5r:∀ (z:List UInt8) π,zZG π (zVX z)=zVX z:=xSX;have hT5b:∀ (z:List UInt8) k,zQX k (zVX z)=True:=fun z k=>eq_true (zNM z k)
   have hcE:∀ z:List UInt8,[EV.int .i64 z.length,.int .i64 (tlG z 0).1,.int .i64 (tlG z 0).2,.str (zVB z),.str (zXH z)]=zVX z:=fun z=>rfl
   rcases Nat.lt_or_ge (zVM (ps.take i)) b with hlt | hge
   ·obtain ⟨S,hSd⟩:∃ S,List.take (min (b - zVM (ps.take i)) y.T.length) y.T=S:=⟨_,rfl⟩;have hW1:W (i+1)=W i++S:=by
     rw[hWs,hWs,zMT hy,← hSd,← hP,List.take_append,List.take_of_length_le (l:=zQP (ps.take i)) (by omega)]
     congr 1
     rcases Nat.le_total (b - (zQP (ps.take i)).length) y.T.length with q | q
     ·rw[Nat.min_eq_left q]
     ·rw[Nat.min_eq_right q,List.take_of_length_le q,List.take_length]
    have e2:(min ((b:Int) - (zVM (ps.take i):Int)) (y.T.length:Int)).toNat=min (b - zVM (ps.take i)) y.T.length:=by omega
    have hSl:S.length≤1048576:=by rw[← hSd,List.length_take];omega
    have hof:=tof_c G S (by omega);have hj:=join_c hG (W i) S (by omega) (by omega);rw[zGB,zGB,zGB,← hW1] at hj
    rw[zGB] at hof
    repeat' (first|refine zQQ 532011 ?_|refine zQW ?_|(refine stp ?_;simp only[go_sem,hA,hg3])|(refine spl (fun h=>?_) (fun h=>?_)<;>first|omega|try simp only[go_sem,h])|(refine zQT ?_ ?_;focus omega))
    refine zWD (t+5) 32 [(3,.ptr (some ⟨t,0⟩)),(4,.ptr (some ⟨t+1,0⟩)),(5,.ptr (some ⟨t+2,0⟩))] cd (by simp only[go_sem,← htm]) hcd rfl rfl rfl rfl rfl ?_;rw[← htm];simp only[go_sem,putArgs]
    repeat' (first|refine zQQ 20219 ?_|refine zQW ?_|(refine stp ?_;simp only[go_sem])|(refine zWV (id:=6) mixed [(1,[]),(4,[]),(6,[]),(0,[]),(2,[]),(3,[]),(5,[]),(7,[]),(8,[]),(9,[]),(10,[]),(11,[0]),(12,[]),(13,[]),(14,[]),(15,[]),(16,[])] (by kernel_rfl) ?_;simp only[go_sem,List.drop_zero,hT5,hT5t])|(simp only[zPD,go_sem])|(simp only[zKZ,go_sem])|(refine Pure.at (hof) (by simp) (by simp) rfl ?_;(try simp only[go_sem,hT5,hT5t]))|(refine Pure.at (hj) (by simp) (by simp) rfl ?_;(try simp only[go_sem,hT5,hT5o]))|(simp only[go_sem,e2,hSd])|(simp (disch:=omega) only[zQK])|(refine spl (fun h=>?_) (fun h=>?_)<;>first|omega|try simp only[go_sem,h])|(refine zQT ?_ ?_;focus omega))
    (refine ⟨(i+1),t+6,[],?_,?_,rfl,rfl,?_,⟨?_,rfl,?_,?_,?_,?_,?_⟩⟩;rotate_left;(focus (simp only[];omega));(focus (simp only[go_sem,zQS,hts,hrx,Int.natCast_add]));(focus (omega));(focus simp);(focus (simp));(focus (simp only[];omega));(focus (simp[hrx,htl6,hT5b]));(focus (simp[hrx,htlr,hT5r])))
    all_goals first|rfl|exact hil
   ·repeat' (first|refine zQQ 532011 ?_|refine zQW ?_|(refine stp ?_;simp only[go_sem,hA,hg3])|(refine spl (fun h=>?_) (fun h=>?_)<;>first|omega|try simp only[go_sem,h])|(refine zQT ?_ ?_;focus omega))
    refine zWD (t+5) 32 [(3,.ptr (some ⟨t,0⟩)),(4,.ptr (some ⟨t+1,0⟩)),(5,.ptr (some ⟨t+2,0⟩))] cd (by simp only[go_sem,← htm]) hcd rfl rfl rfl rfl rfl ?_;rw[← htm];simp only[go_sem,putArgs]
    repeat' (first|refine zQQ 20219 ?_|refine zQW ?_|(refine stp ?_;simp only[go_sem])|(simp only[zPD,go_sem])|(simp only[zKZ,go_sem])|(refine spl (fun h=>?_) (fun h=>?_)<;>first|omega|try simp only[go_sem,h])|fail)
    have hfin:W i=(zQP ps).take b:=by
     rw[hWs]
     conv=>rhs;rw[show zQP ps=zQP (ps.take i)++zQP (ps.drop i) by unfold zQP;rw[← List.flatMap_append,List.take_append_drop]]
     rw[List.take_append_of_le_length (by omega)]
    refine zZZ ?_ ?_ ?_ ⟨.done,some (.exit 0),?_,by simp,?_⟩
    ·simp[htlk2,hxk]
    ·simp only[];omega
    ·simp[EV.bel,zQX]
    ·simp only[go_sem]
    ·simp only[zGG,go_sem];simp only[zVX]
     repeat' (first|refine zQQ 20219 ?_|(refine stp ?_;simp only[go_sem])|fail)
     refine ⟨t+4,D,rfl,by simp only[go_sem],?_⟩;simp only[go_sem];rw[← hfin] at hQ
     simp only[zVX] at hQ
     (refine zQN hQ [] ?_ ?_ ?_<;>(simp))
  ·obtain rfl:i=ps.length:=by omega
   have hWf:W ps.length=(zQP ps).take b:=by rw[hW];simp only[List.take_length]
   repeat' (first|refine zQQ 532011 ?_|(refine stp ?_;simp only[go_sem])|(refine spl (fun h=>?_) (fun h=>?_)<;>first|omega|try simp only[go_sem,h])|fail)
   refine zZZ ?_ ?_ ?_ ⟨.ready,none,?_,by simp,?_⟩
   ·simp[htlk2,hxk]
   ·simp only[];omega
   ·simp[EV.bel,zQX]
   ·simp only[go_sem]
   ·simp only[zGG,go_sem];simp only[zVX]
    repeat' (first|refine zQQ 20219 ?_|(refine stp ?_;simp only[go_sem])|fail)
    refine ⟨t+4,D,rfl,by simp only[go_sem],?_⟩;simp only[go_sem];rw[← hWf] at hQ
    simp only[zVX] at hQ
    (refine zQN hQ [] ?_ ?_ ?_<;>(simp))
theorem StL.updT {r:Nat} {c c':List EV} {z f z' f':Nat} {w w':Bool} [h:StL p B t] (hr:AtB B t r (.cells c 81 z w f)) (hc:zQX t c'):StL p (setL B r (.cells c' 81 z' w' f')) t where
 bg:=⟨zRB (o:=.cells c' 81 z' w' f') hc h.bg.below,zTT h.bg.keys⟩
 big:=h.big
 has i hi:=by
  rw[zWF]
  split
  ·rename_i e;have:=hr.hi;omega
  ·exact h.has i hi
 line i hi:=by
  rw[zWF]
  split
  ·rename_i e
   subst e;have:=h.line i hi;rw[hr.lk] at this
   simp at this
  ·exact h.line i hi
 top:=h.top
theorem ctally_c (G:List Gl) (hG:Tabs G) (s:Gs) [Big t] [hS0:StL p B t] (hp:p.ok) (ho:s.over=false) (hr:ovl s.put 64 8=zU 8) (ps:List Ck) (tb:List TP) (hx:TxOK p s ps tb) :
  EffW G Tryz.prog 53 [.ptr (some ⟨0,0⟩),.int .u32 (zWQ tb)] t [] (gnd p s B) 0 (.tuple [zZY (zQP ps),.int .i64 0]) [] (gnd p s B) 0:=by
 have h1:=hp.big;have h2:=hp.fit;have hln:=hx.len;have hsum:=hx.sum;have hT11:11≤t:=hS0.big;refine EffR.drop B ?_ (by simp[EV.bel,zQX,zZY]);refine EffR.enter fun Q hQ=>?_
 refine zQV 22 [.cell 4 81,.tmp 5] Tryz.func53 ?_
 repeat' (first|refine zQQ 33011 ?_|(refine stp ?_;simp only[go_sem])|fail)
 have hab:=StL.above (p:=p) (B:=B) (t:=t) (t':=t+1) (X:=[(t,.cells [.int .i64 0,.int .i64 0,.int .i64 0,.str [],.str []] 81 0 true 0)]) (by omega) (by simp[zXT]) (by simp[zWN,lkp]) (by simp);simp only[List.cons_append,List.nil_append] at hab
 have e:stB (zXG p s) ((t,.cells [.int .i64 0,.int .i64 0,.int .i64 0,.str [],.str []] 81 0 true 0)::B)=(t,.cells [.int .i64 0,.int .i64 0,.int .i64 0,.str [],.str []] 81 0 true 0)::stB (zXG p s) B:=by rw[zXK,if_neg (by omega)]
 obtain ⟨T1,hT1⟩:∃ T,T=t+1:=⟨_,rfl⟩;rw[← hT1] at hab
 rw[← e,← hT1];have hrat:AtB ((t,.cells [.int .i64 0,.int .i64 0,.int .i64 0,.str [],.str []] 81 0 true 0)::B) T1 t (.cells [.int .i64 0,.int .i64 0,.int .i64 0,.str [],.str []] 81 0 true 0):=⟨by omega,by omega,by simp[lkp]⟩;generalize (t,EO.cells [.int .i64 0,.int .i64 0,.int .i64 0,.str [],.str []] 81 0 true 0)::B=B0 at hab hrat ⊢
 obtain ⟨hS,he⟩:=hab;haveI:=hS;haveI:Big T1:=⟨hS.big⟩;refine EffR.at (yZG B0 G s hp ho hr ps tb hx) ?_
 rintro v bl nx ⟨B1,v1,rfl,rfl,hS1,he1,htx⟩
 haveI:=hS1;haveI:Big nx:=⟨hS1.big⟩;have h3:=he1.le;have hlen:=yYR (p:=p) B1 G s v1 _ ps tb htx hsum (by omega);have hta:=xJB (p:=p) B1 G hG s v1 _ ps tb htx hsum (by omega) (fun x hx'=>(hx.part x hx').pos) (zVM ps) (Nat.le_refl _);obtain ⟨x,r,v2,rfl,hxa,-⟩:=htx;have hxt:=hxa.lt;have hA:=(hrat.mono he1).f (p:=p);have hr1:=(hrat.mono he1).hi;rw[List.take_of_length_le (by rw[zQD];exact Nat.le_refl _),zGB] at hta
 simp only[zGB,zVX] at hta hQ
 have hrat1:=hrat.mono he1;haveI hS2:StL p (setL B1 t (.cells (zVX (zQP ps)) 81 0 true 0)) nx:=StL.updT B1 hrat1 (zNM _ _);have hrat2:AtB (setL B1 t (.cells (zVX (zQP ps)) 81 0 true 0)) nx t (.cells (zVX (zQP ps)) 81 0 true 0):=⟨hrat1.hi,hrat1.lt,by rw[zWF,if_pos rfl,hrat1.lk];rfl⟩;have hA2:=hrat2.f (p:=p);have hext:Ext B t (setL B1 t (.cells (zVX (zQP ps)) 81 0 true 0)) nx:=⟨by omega,fun j hj=>by
  rw[zWF,if_neg (by omega),he1.same j (by omega),he.same j hj]⟩
 simp only[zVX] at hS2 hrat2 hA2 hext
 repeat' (first|refine zQQ 33011 ?_|(refine stp ?_;simp only[go_sem,hA,hA2])|(refine EffW.at (hlen ) [] rfl (by first|(simp[hxt,zQR hxt];done)|fail) ?_;(try simp only[go_sem]))|(refine EffW.at (hta ) [] rfl (by first|(simp[hxt,zQR hxt];done)|fail) ?_;(try simp only[go_sem,hA,zYF _ hr1]))|(simp only[go_sem])|fail)
 haveI:=hS2;exact zWX hQ (by omega) (Bg.below (t:=nx)) (by simp[EV.bel,zQX]) ⟨rfl,_,rfl,hS2,hext⟩
end
section
def nthP (s:List UInt8):Nat→Nat→Nat→Option Nat
 | 0,_,n=>if n=0 then some s.length else none
 | f+1,pos,n=>if pos<s.length then (if n=0 then some pos else nthP s f (pos+(zZX (s.drop pos)).2) (n - 1)) else (if n=0 then some s.length else none)
theorem yPB (s:List UInt8):∀ (f g pos n:Nat),s.length - pos≤f→s.length - pos≤g→nthP s f pos n=nthP s g pos n
 | 0,0,_,_,_,_=>rfl
 | 0,g+1,pos,n,h,_=>by simp only[nthP];rw[if_neg (show ¬ pos<s.length by omega)]
 | f+1,0,pos,n,_,h=>by simp only[nthP];rw[if_neg (show ¬ pos<s.length by omega)]
 | f+1,g+1,pos,n,h1,h2=>by
   simp only[nthP];have:=zJM (s.drop pos);rw[yPB s f g _ _ (by omega) (by omega)]
def xPS (s:List UInt8) (pos n:Nat):Option Nat:=nthP s (s.length - pos) pos n
theorem xPT (s:List UInt8) (pos n:Nat) (h:s.length≤pos):xPS s pos n=if n=0 then some s.length else none:=by
 unfold xPS;rw[show s.length - pos=0 by omega];rfl
theorem xQX (s:List UInt8) (pos:Nat) (h:pos<s.length):xPS s pos 0=some pos:=by
 unfold xPS;obtain ⟨d,hd⟩:∃ d,s.length - pos=d+1:=⟨s.length - pos - 1,by omega⟩;rw[hd,nthP,if_pos h,if_pos rfl]
theorem xQZ (s:List UInt8) (pos n:Nat) (h:pos<s.length):xPS s pos (n+1)=xPS s (pos+(zZX (s.drop pos)).2) n:=by
 have h1:=zJM (s.drop pos);unfold xPS;rw[yPB s (s.length - pos) (s.length - pos - 1+1) pos _ (by omega) (by omega)]
 conv=>lhs;rw[nthP,if_pos h,if_neg (by omega),Nat.add_sub_cancel]
 rw[yPB s (s.length - pos - 1) (s.length - (pos+(zZX (s.drop pos)).2)) _ _ (by omega) (by omega)]
def atE:Option Nat→EV
 | some q=>.tuple [.int .i64 q,.int .i64 0]
 | none=>.tuple [.int .i64 0,.int .i64 6]
theorem uat_c (G:List Gl) (s:List UInt8) (hs:s.length≤9000000000) (n:Nat) (hn:n≤9000000000):E.Pure G Tryz.prog 10 [.str s,.int .i64 n] (atE (xPS s 0 n)):=by
 refine zXP fun V hV=>?_
 refine zQV 26 [.tmp 4,.tmp 5] Tryz.func10 ?_
 repeat' (first|refine zQQ 8534771 ?_|refine zQW ?_|(refine stp ?_;simp only[go_sem])|(refine zKT ?_;simp only[go_sem])|(refine spl (fun h=>?_) (fun h=>?_)<;>first|omega|try simp only[go_sem,h])|fail)
 refine zWK (fun z:Nat × Nat=>[(11,.ptr (some ⟨0,0⟩)),(6,.int .i64 z.2),(0,.str s),(1,.int .i64 n)]) (fun z:Nat × Nat=>[(0,.sIter s z.1)]) (fun z:Nat × Nat=>1) (fun z:Nat × Nat=>z.1≤s.length∧z.2≤n∧xPS s z.1 (n - z.2)=xPS s 0 n) (fun z:Nat × Nat=>s.length - z.1) ((0,0)) (fun z hz=>⟨by simp[zWP],by trivial,by exact Nat.zero_le _⟩) (by exact ⟨Nat.zero_le _,Nat.zero_le _,rfl⟩) (by simp only[go_sem,zQS];done) (by trivial) ?_
 rintro ⟨pos,m⟩ ⟨h1,h2,h3⟩
 simp only at h1 h2 h3 ⊢
 rcases Nat.lt_or_ge pos s.length with hp | hp
 ·have hdp:=zJM (s.drop pos);have hdl:=yQG (s.drop pos) (by simp;omega);rw[List.length_drop] at hdl
  rcases Nat.eq_or_lt_of_le h2 with e | e
  ·subst e;rw[Nat.sub_self,xQX s pos hp] at h3
   generalize hd:zZX (s.drop pos)=d at *
   obtain ⟨r,w⟩:=d
   repeat' (first|refine zQQ 8534771 ?_|refine zQW ?_|(refine stp ?_;simp only[go_sem])|(refine zXQ ?_;simp only[go_sem,hd])|(refine spl (fun h=>?_) (fun h=>?_)<;>first|omega|((try simp only[zRM]);(try simp only[go_sem,h])))|fail)
   refine zQH (by simp[EV.bel,zQX]) ?_;rw[hV,← h3];rfl
  ·rw[show n - m=n - (m+1)+1 by omega,xQZ s pos _ hp] at h3
   generalize hd:zZX (s.drop pos)=d at *
   obtain ⟨r,w⟩:=d;simp only at *
   repeat' (first|refine zQQ 8534771 ?_|refine zQW ?_|(refine stp ?_;simp only[go_sem])|(refine zXQ ?_;simp only[go_sem,hd])|(simp (disch:=omega) only[zQK])|(refine spl (fun h=>?_) (fun h=>?_)<;>first|omega|((try simp only[zRM]);(try simp only[go_sem,h])))|fail)
   (refine ⟨(pos+w,m+1),?_,?_,rfl,rfl,?_,?_⟩;rotate_left;(focus (simp only[];omega));(focus ((try simp only[go_sem,zQS]);((repeat' apply And.intro)<;>(rfl))));(focus (trivial));(try simp only[]))
   exact ⟨by omega,by omega,h3⟩
 ·obtain rfl:pos=s.length:=by omega
  rw[xPT s _ _ (Nat.le_refl _)] at h3
  repeat' (first|refine zQQ 8534771 ?_|(refine stp ?_;simp only[go_sem])|(refine zXQ ?_;simp only[go_sem])|(refine spl (fun h=>?_) (fun h=>?_)<;>((try simp only[go_sem,h])))|fail)
  all_goals (
   refine zQH (by simp[EV.bel,zQX]) ?_;rw[hV,← h3]
   first|(rw[if_pos (by omega)];rfl)|(rw[if_neg (by omega)];rfl))
def begK (s:List UInt8) (a:Nat):Nat→Nat→Bool
 | 0,_=>true
 | f+1,k=>if k≤a then (if zRR (s.getD (a - k) 0) then begK s a f (k+1) else decide ((zZX (s.drop (a - k))).2≤k)) else true
def xZW (s:List UInt8) (a:Nat):Bool:=if s.length≤a then decide (a=s.length) else if zRR (s.getD a 0) then begK s a 3 1 else true
theorem zBZ {s:List UInt8} {i:Nat} (h:i<s.length):s[i]? = some (s.getD i 0):=by
 rw[List.getD_eq_getElem?_getD,List.getElem?_eq_getElem h];rfl
theorem begins_c {G:List Gl} (hG:Tabs G) (s:List UInt8) (hs:s.length≤9000000000) (a:Nat) (ha:a≤9000000000):E.Pure G Tryz.prog 125 [.str s,.int .i64 a] (.bool (xZW s a)):=by
 refine zXP fun V hV=>?_
 have e0:((a:Int)).toNat=a:=by omega
 refine zQV 54 [.tmp 4] Tryz.func125 ?_
 rcases Nat.lt_or_ge a s.length with hl | hl
 ·rw[xZW,if_neg (by omega)] at hV
  have hga:=zBZ hl;have hfa:=xRJ G (s.getD a 0)
  cases hc:zRR (s.getD a 0) with
  | false=>
    rw[hc] at hV hfa
    repeat' (first|refine zQQ 1103840215219 ?_|(refine stp ?_;simp only[go_sem,e0])|(refine Pure.at (hfa) (by simp) (by simp) rfl ?_;(try simp only[go_sem]))|(refine spl (fun h=>?_) (fun h=>?_)<;>first|omega|((try simp only[zZQ]);(try simp only[go_sem,h])))|(refine zQT ?_ ?_;focus omega))
    (refine zQH (by simp[EV.bel]) ?_;rw[hV])
    rfl
  | true=>
    rw[hc,if_pos rfl] at hV
    rw[hc] at hfa
    repeat' (first|refine zQQ 1103840215219 ?_|refine zQW ?_|(refine stp ?_;simp only[go_sem,e0])|(refine Pure.at (hfa) (by simp) (by simp) rfl ?_;(try simp only[go_sem]))|(refine spl (fun h=>?_) (fun h=>?_)<;>first|omega|((try simp only[zZQ]);(try simp only[go_sem,h])))|(refine zQT ?_ ?_;focus omega))
    refine zWK (fun k:Nat=>[(5,.int .i64 k),(0,.str s),(1,.int .i64 a)]) (fun k:Nat=>[]) (fun k:Nat=>0) (fun k:Nat=>1≤k∧k≤4∧begK s a (4 - k) k=begK s a 3 1) (fun k:Nat=>5 - k) (1) (fun z hz=>⟨by simp[zWP],by trivial,by exact Nat.le_refl _⟩) (by exact ⟨by omega,by omega,rfl⟩) (by simp only[go_sem,zQS];done) (by trivial) ?_
    rintro k ⟨h1,h4,hk⟩
    rcases Nat.lt_or_ge k 4 with h3 | h3
    ·obtain ⟨f,hf⟩:∃ f,4 - k=f+1:=⟨4 - k - 1,by omega⟩;rw[hf,begK] at hk
     rcases Nat.lt_or_ge a k with h5 | h5
     ·rw[if_neg (by omega)] at hk
      repeat' (first|refine zQQ 1103840215219 ?_|(refine stp ?_;simp only[go_sem])|(refine spl (fun h=>?_) (fun h=>?_)<;>first|omega|((try simp only[zZQ]);(try simp only[go_sem,h])))|fail)
      (refine zQH (by simp[EV.bel]) ?_;rw[hV])
      rw[← hk]
     ·rw[if_pos h5] at hk
      have hgk:=zBZ (s:=s) (i:=a - k) (by omega);have hfk:=xRJ G (s.getD (a - k) 0);have e1:((a:Int) - (k:Int)).toNat=a - k:=by omega
      cases hc2:zRR (s.getD (a - k) 0) with
      | true=>
        rw[hc2,if_pos rfl] at hk
        rw[hc2] at hfk
        repeat' (first|refine zQQ 1103840215219 ?_|refine zQW ?_|(refine stp ?_;simp only[go_sem])|(refine Pure.at (hfk) (by simp) (by simp) rfl ?_;(try simp only[go_sem]))|(simp only[go_sem,e1])|(simp (disch:=omega) only[zQK])|(refine spl (fun h=>?_) (fun h=>?_)<;>first|omega|((try simp only[zZQ]);(try simp only[go_sem,h])))|(refine zQT ?_ ?_;focus omega))
        (refine ⟨(k+1),?_,?_,rfl,rfl,?_,?_⟩;rotate_left;(focus (simp only[];omega));(focus ((try simp only[go_sem,zQS]);((repeat' apply And.intro)<;>(rfl))));(focus (trivial));(try simp only[]))
        exact ⟨by omega,by omega,by rw[show 4 - (k+1)=f by omega];exact hk⟩
      | false=>
        rw[hc2,if_neg Bool.false_ne_true] at hk
        rw[hc2] at hfk
        have hfi:=yRY hG (s.drop (a - k)) (by rw[List.length_drop];omega);have hdl:=yQG (s.drop (a - k)) (by rw[List.length_drop];omega);rw[List.length_drop] at hdl
        generalize zZX (s.drop (a - k))=d at *
        repeat' (first|refine zQQ 1103840215219 ?_|refine zQW ?_|(refine stp ?_;simp only[go_sem])|(refine Pure.at (hfk) (by simp) (by simp) rfl ?_;(try simp only[go_sem]))|(refine Pure.at (hfi) (by simp) (by simp) rfl ?_;(try simp only[go_sem]))|(simp only[go_sem,e1])|(simp (disch:=omega) only[zQK])|(refine spl (fun h=>?_) (fun h=>?_)<;>first|omega|((try simp only[zZQ]);(try simp only[go_sem,h])))|(refine zQT ?_ ?_;focus omega))
        (refine zQH (by simp[EV.bel]) ?_;rw[hV])
        rw[← hk]
        congr 1
        exact decide_eq_decide.2 (by omega)
    ·obtain rfl:k=4:=by omega
     repeat' (first|refine zQQ 1103840215219 ?_|(refine stp ?_;simp only[go_sem])|fail)
     (refine zQH (by simp[EV.bel]) ?_;rw[hV])
     rw[← hk];rfl
 ·rw[xZW,if_pos hl] at hV
  repeat' (first|refine zQQ 1103840215219 ?_|(refine stp ?_;simp only[go_sem])|(refine spl (fun h=>?_) (fun h=>?_)<;>first|omega|((try simp only[zZQ]);(try simp only[go_sem,h])))|fail)
  (refine zQH (by simp[EV.bel]) ?_;rw[hV])
  congr 1
  exact decide_eq_decide.2 (by omega)
def dnB (l:List UInt8):Nat→Nat
 | 0=>0
 | j+1=>if xZW l (j+1) then j+1 else dnB l j
def zSX (s:List UInt8) (a:Nat):List UInt8:=(s.drop (a - 3)).take (min (a+4) s.length - (a - 3))
def zDS (s:List UInt8) (a:Nat):Nat:=(a - 3)+dnB (zSX s a) (a - (a - 3))
theorem dnB_le (l:List UInt8):∀ j,dnB l j≤j
 | 0=>Nat.le_refl _
 | j+1=>by
   rw[dnB]
   split
   ·exact Nat.le_refl _
   ·have:=dnB_le l j;omega
theorem begB_0 (l:List UInt8):xZW l 0=true:=by
 unfold xZW
 split
 ·rename_i h
  simp at h
  subst h
  decide
 ·split
  ·unfold begK;rw[if_neg (by omega)]
  ·rfl
variable {p:Gp} (B:List (Nat × EO)) {t:Nat}
theorem cfirst_c (G:List Gl) (hG:Tabs G) (s:Gs) [Big t] [hS0:StL p B t] (v:EV) (ref:Nat) (ps:List Ck) (tb:List TP) (hv:TxtV B t v ref ps tb) (hs:zVM ps≤1048576) (hn:ps.length≤1000000) (hpos:∀ x∈ps,1≤x.T.length) (a:Nat) (ha:a≤zVM ps) :
  EffW G Tryz.prog 88 [v,.int .i64 a] t [] (gnd p s B) 0 (.int .i64 (zDS (zQP ps) a)) [] (gnd p s B) 0:=by
 have hlen:=yYR (p:=p) B G s v _ ps tb hv hs hn;have hpc:=xZF (p:=p) B G s v _ ps tb hv hs hn hpos (a - 3) (min (a+4) (zVM ps)) (by omega) (by omega);obtain ⟨x,r,v2,rfl,hx,hat,hr,h2⟩:=hv;have hxt:=hx.lt;have hfl:=zQD ps;have e1:max ((a:Int) - 3) 0=((a - 3:Nat):Int):=by omega
 have e2:min ((a:Int)+3+1) ((zVM ps:Nat):Int)=((min (a+4) (zVM ps):Nat):Int):=by omega
 have hne:List.take (min (a+4) (zVM ps) - (a - 3)) (List.drop (a - 3) (zQP ps))=zSX (zQP ps) a:=by unfold zSX;rw[hfl]
 rw[hne] at hpc
 have hnl:(zSX (zQP ps) a).length≤1048576:=by unfold zSX;rw[List.length_take,List.length_drop,hfl];omega
 unfold zDS;refine EffW.enter fun Q hQ=>?_
 simp only[gnd,List.nil_append,Nat.add_zero];refine zQV 28 [.tmp 4] Tryz.func88 ?_
 repeat' (first|refine zQQ 16777331 ?_|refine zQW ?_|(refine stp ?_;simp only[go_sem])|(refine EffW.at (hlen ) [] rfl (by first|(simp[hxt,zQR hxt];done)|fail) ?_;(try simp only[go_sem]))|(refine EffW.at (hpc ) [] rfl (by simp[hxt,zQR hxt];omega) ?_;(try simp only[go_sem,e1,e2]))|(simp (disch:=omega) only[zQK])|fail)
 refine zQM (fun j:Nat=>[(0,.ptr (some ⟨x,0⟩)),(1,.int .i64 (a - 3+j:Nat)),(5,.int .i64 (a - 3:Nat)),(6,.str (zSX (zQP ps) a))]) (fun j:Nat=>stB (zXG p s) B) (fun j:Nat=>t) (fun j:Nat=>j≤a - (a - 3)∧dnB (zSX (zQP ps) a) j=dnB (zSX (zQP ps) a) (a - (a - 3))) (fun j:Nat=>j) (a - (a - 3)) ?_ ?_ ?_ ?_ ?_
 ·rintro j -
  exact ⟨by simp[zWP,hxt],(show blBelow t (stB (zXG p s) B) from Bg.below (t:=t)),Nat.le_refl _⟩
 ·exact ⟨Nat.le_refl _,rfl⟩
 ·simp only[go_sem,zQS,show a - 3+(a - (a - 3))=a by omega]
 ·show zWG _ (stB (zXG p s) B);simp only[go_sem]
 ·rintro j ⟨hj,hd⟩
  have hbe:=begins_c hG (zSX (zQP ps) a) (by omega) j (by omega);have e3:(((a - 3+j:Nat):Int) - ((a - 3:Nat):Int))=(j:Int):=by omega
  cases hb:xZW (zSX (zQP ps) a) j with
  | false=>
    obtain ⟨i,rfl⟩:∃ i,j=i+1:=⟨j - 1,by
     rcases Nat.eq_zero_or_pos j with q | q
     ·subst q;rw[begB_0] at hb;cases hb
     ·omega⟩
    rw[hb] at hbe
    rw[dnB,hb,if_neg Bool.false_ne_true] at hd
    repeat' (first|(simp (disch:=omega) only[zQK,e3])|refine zQQ 16777331 ?_|refine zQW ?_|(refine stp ?_;simp only[go_sem])|(refine Pure.at (hbe) (by simp) (by simp) rfl ?_;(try simp only[go_sem]))|fail)
    (refine ⟨i,t,[],?_,?_,rfl,rfl,?_,⟨?_,rfl,?_,?_,?_,?_,?_⟩⟩;rotate_left;(focus (simp only[];omega));(focus ((try simp only[go_sem,zQS,hxt]);((repeat' apply And.intro)<;>((try simp only[EV.int.injEq,true_and]);omega))));(focus (omega));(focus simp);(focus (simp));(focus (simp only[];omega));(focus (simp));(focus (simp));(try simp only[]))
    exact ⟨by omega,hd⟩
  | true=>
    rw[hb] at hbe
    have hdj:dnB (zSX (zQP ps) a) j=j:=by
     cases j with
     | zero=>rfl
     | succ i=>rw[dnB,hb,if_pos rfl]
    rw[hdj] at hd
    repeat' (first|(simp (disch:=omega) only[zQK,e3])|refine zQQ 16777331 ?_|(refine stp ?_;simp only[go_sem])|(refine Pure.at (hbe) (by simp) (by simp) rfl ?_;(try simp only[go_sem]))|fail)
    rw[← hd] at hQ
    (refine zQN hQ [] ?_ ?_ ?_<;>(simp))
end
section
variable {p:Gp} (B:List (Nat × EO)) {t:Nat}
theorem EffR.drop2 {G:List Gl} {P:Program} {g:FuncId} {args:List EV} {s:Gs} {R:EV→Gs→Prop} [hS0:StL p B t] (h:EffR G P g args (gnd p s B) t (fun v bl nx=>∃ B' s',bl=gnd p s' B'∧StL p B' nx∧Ext B t B' nx∧R v s')) (hv:∀ v s',R v s'→v.bel t):EffR G P g args (gnd p s B) t (fun v bl nx=>∃ s',bl=gnd p s' B∧nx=t∧R v s'):=by
 unfold EffR;refine ECalls.mono h ?_
 rintro x w ⟨π,x0,s0,hC,v,rfl,hg,B',s',hb,hS,he,hR⟩
 refine ⟨π,.ret v,⟨gnd p s' B,t,G⟩,⟨hC.id,fun i j hi hj=>hC.inj i j (Nat.lt_of_lt_of_le hi he.le) (Nat.lt_of_lt_of_le hj he.le),Nat.le_refl _,by rw[← hg];exact hC.gl,hC.x,hv v s' hR,Bg.below,fun i o ho=>?_⟩,v,rfl,rfl,s',rfl,rfl,hR⟩;obtain ⟨hi,hl⟩:=ES.get_lt ho;simp only at hi hl
 refine hC.get i o ?_;have hit:i<s0.nx:=Nat.lt_of_lt_of_le hi he.le;unfold ES.get;rw[if_pos hit,hb]
 rcases Nat.lt_or_ge i 11 with q | q
 ·rw[StG.lkp q] at hl
  rw[StG.lkp q];exact hl
 ·rw[StG.lkp_hi q] at hl
  rw[StG.lkp_hi q,he.same i hi];exact hl
theorem yHH (G:List Gl) (s:Gs) [Big t] [hS0:StL p B t] (hp:p.ok) (ho:s.over=false) (hs:GsOK p s) (hr:ovl s.put 64 8=zU 8) (ps:List Ck) (tb:List TP) (hx:TxOK p s ps tb) (a:Nat) (x:List UInt8) (ha:a≤zVM ps) (hxl:zVM ps+x.length≤1048576) :
  EffR G Tryz.prog 57 [.ptr (some ⟨0,0⟩),.int .u32 (zWQ tb),.int .i64 a,.str x] (gnd p s B) t (fun v bl nx=>∃ s',bl=gnd p s' B∧nx=t∧EdQ p s (tb.map (·.1)++zZN ps) ((zQP ps).take a++x++(zQP ps).drop a) (2*((x.length+251) / 252)) v s'∧(ps=[]→0<x.length→Ed0 p s (yTT x (-1)) v s')):=
 EffR.drop2 B (cinsert_c B G s hp ho hs hr ps tb hx a x ha hxl) (fun v s' h=>by
  rcases h.1 with ⟨_,_,rfl,-⟩ | ⟨rfl,-⟩<;>simp[EV.bel,zQX])
theorem cat_c (G:List Gl) (s:Gs) [Big t] [hS0:StL p B t] (hp:p.ok) (ho:s.over=false) (hr:ovl s.put 64 8=zU 8) (ps:List Ck) (tb:List TP) (hx:TxOK p s ps tb) (n:Nat) (hn:n≤9000000000) :
  EffW G Tryz.prog 52 [.ptr (some ⟨0,0⟩),.int .u32 (zWQ tb),.int .i64 n] t [] (gnd p s B) 0 (atE (xPS (zQP ps) 0 n)) [] (gnd p s B) 0:=by
 have h1:=hp.big;have h2:=hp.fit;have hln:=hx.len;have hsum:=hx.sum;refine EffR.drop B ?_ (by unfold atE;split<;>simp[EV.bel,zQX]);refine EffR.enter fun Q hQ=>?_
 refine zQV 27 [.tmp 6,.tmp 7] Tryz.func52 ?_
 repeat' (first|refine zQQ 132039 ?_|(refine stp ?_;simp only[go_sem])|(refine EffR.at (yZG B G s hp ho hr ps tb hx) ?_)|(simp only[go_sem])|fail)
 rintro v bl nx ⟨B1,v1,rfl,rfl,hS1,he1,htx⟩
 haveI:=hS1;haveI:Big nx:=⟨hS1.big⟩;have h3:=he1.le;have hlen:=yYR (p:=p) B1 G s v1 _ ps tb htx hsum (by omega);have hpc:=xZF (p:=p) B1 G s v1 _ ps tb htx hsum (by omega) (fun x hx'=>(hx.part x hx').pos) 0 (zVM ps) (Nat.zero_le _) (Nat.le_refl _);have hfl:=zQD ps;rw[List.drop_zero,Nat.sub_zero,List.take_of_length_le (by omega),show ((0:Nat):Int)=0 from rfl] at hpc
 have hua:=uat_c G (zQP ps) (by omega) n hn;obtain ⟨x,r,v2,rfl,hxa,-⟩:=htx;have hxt:=hxa.lt
 cases hnt:xPS (zQP ps) 0 n with
 | none=>
   rw[hnt] at hua hQ
   simp only[atE] at hua hQ
   repeat' (first|refine zQQ 132039 ?_|(refine stp ?_;simp only[go_sem])|(refine EffW.at (hlen ) [] rfl (by first|(simp[hxt,zQR hxt];done)|fail) ?_;(try simp only[go_sem]))|(refine EffW.at (hpc ) [] rfl (by first|(simp[hxt,zQR hxt];done)|fail) ?_;(try simp only[go_sem]))|(refine Pure.at (hua) (by simp) (by simp) rfl ?_;(try simp only[go_sem]))|fail)
   exact zWX hQ h3 (Bg.below (t:=nx)) (by simp[EV.bel,zQX]) ⟨rfl,B1,rfl,hS1,he1⟩
 | some q=>
   rw[hnt] at hua hQ
   simp only[atE] at hua hQ
   repeat' (first|refine zQQ 132039 ?_|(refine stp ?_;simp only[go_sem])|(refine EffW.at (hlen ) [] rfl (by first|(simp[hxt,zQR hxt];done)|fail) ?_;(try simp only[go_sem]))|(refine EffW.at (hpc ) [] rfl (by first|(simp[hxt,zQR hxt];done)|fail) ?_;(try simp only[go_sem]))|(refine Pure.at (hua) (by simp) (by simp) rfl ?_;(try simp only[go_sem]))|fail)
   exact zWX hQ h3 (Bg.below (t:=nx)) (by simp[EV.bel,zQX]) ⟨rfl,B1,rfl,hS1,he1⟩
theorem cof_c (G:List Gl) (hG:Tabs G) (s:Gs) [Big t] [hS0:StL p B t] (hp:p.ok) (ho:s.over=false) (hr:ovl s.put 64 8=zU 8) (ps:List Ck) (tb:List TP) (hx:TxOK p s ps tb) (a:Nat) (ha:a≤zVM ps) :
  EffW G Tryz.prog 63 [.ptr (some ⟨0,0⟩),.int .u32 (zWQ tb),.int .i64 a] t [] (gnd p s B) 0 (.tuple [.int .i64 (tlG ((zQP ps).take (zDS (zQP ps) a)) 0).1,.int .i64 0]) [] (gnd p s B) 0:=by
 have h1:=hp.big;have h2:=hp.fit;have hln:=hx.len;have hsum:=hx.sum;refine EffR.drop B ?_ (by simp[EV.bel,zQX]);refine EffR.enter fun Q hQ=>?_
 refine zQV 33 [.tmp 6,.tmp 7] Tryz.func63 ?_
 repeat' (first|refine zQQ 67240903 ?_|(refine stp ?_;simp only[go_sem])|(refine EffR.at (yZG B G s hp ho hr ps tb hx) ?_)|(simp only[go_sem])|fail)
 rintro v bl nx ⟨B1,v1,rfl,rfl,hS1,he1,htx⟩
 haveI:=hS1;haveI:Big nx:=⟨hS1.big⟩;have h3:=he1.le;have hfg:zDS (zQP ps) a≤a:=by
  unfold zDS;have:=dnB_le (zSX (zQP ps) a) (a - (a - 3));omega
 have hlen:=yYR (p:=p) B1 G s v1 _ ps tb htx hsum (by omega);have hfi:=cfirst_c (p:=p) B1 G hG s v1 _ ps tb htx hsum (by omega) (fun x hx'=>(hx.part x hx').pos) a ha;have hta:=xJB (p:=p) B1 G hG s v1 _ ps tb htx hsum (by omega) (fun x hx'=>(hx.part x hx').pos) (zDS (zQP ps) a) (by omega);obtain ⟨x,r,v2,rfl,hxa,-⟩:=htx;have hxt:=hxa.lt;simp only[zGB,zVX] at hta
 generalize zDS (zQP ps) a=f at *
 repeat' (first|refine zQQ 67240903 ?_|(refine stp ?_;simp only[go_sem])|(refine EffW.at (hlen ) [] rfl (by first|(simp[hxt,zQR hxt];done)|fail) ?_;(try simp only[go_sem]))|(refine EffW.at (hfi ) [] rfl (by first|(simp[hxt,zQR hxt];done)|fail) ?_;(try simp only[go_sem]))|(refine EffW.at (hta ) [] rfl (by first|(simp[hxt,zQR hxt];done)|fail) ?_;(try simp only[go_sem]))|(refine spl (fun h=>?_) (fun h=>?_)<;>first|omega|((try simp only[zZQ]);(try simp only[go_sem,h])))|fail)
 exact zWX hQ h3 (Bg.below (t:=nx)) (by simp[EV.bel,zQX]) ⟨rfl,B1,rfl,hS1,he1⟩
end
end Go.Proofs.YtncphnpndkjkaaaGreatDoor
