/-
  Own work: a part of the proof that the last text closes.
-/
import Derived.Test.YtncphnpndkjkaaaGreatDoorHp
namespace Go.Proofs.YtncphnpndkjkaaaGreatDoor
open Go.E
set_option linter.all false
set_option maxRecDepth 100000
set_option maxHeartbeats 16000000
section
theorem cutL_g {B:List (Nat × EO)} {t j:Nat} [h:Bg t B]:E.cutL (t+j) B=B:=yXB (by rw[Bg.blBelow];trivial)
theorem cutL_g0 {B:List (Nat × EO)} {t:Nat} [h:Bg t B]:E.cutL t B=B:=yXB h.below
theorem xRW {B:List (Nat × EO)} {t j:Nat} [h:Bg t B]:zJV (t+j) B=True:=eq_true (yWB (by rw[Bg.blBelow];trivial))
attribute [go_sem] cutL_g cutL_g0 xRW
attribute [simp] xRW
structure AtG (B:List (Nat × EO)) (t b:Nat) (o:EO):Prop where
 lt:b<t
 lk:lkp B b=some o
theorem AtG.mono {B B':List (Nat × EO)} {t t' b:Nat} {o:EO} (h:AtG B t b o) (e:Ext B t B' t'):AtG B' t' b o:=⟨Nat.lt_of_lt_of_le h.lt e.le,(e.same b h.lt).trans h.lk⟩
theorem AtG.f {B:List (Nat × EO)} {t b:Nat} {o:EO} (ha:AtG B t b o):lkp B b=some o∧(∀ k,(b<t+k)=True)∧(b<t)=True∧(t=b)=False∧∀ k,(t+k=b)=False:=by
 have h1:=ha.lt;refine ⟨ha.lk,fun k=>?_,?_,?_,fun k=>?_⟩<;>simp<;>omega
theorem Bg.above {B:List (Nat × EO)} {t:Nat} [h:Bg t B] {t':Nat} {X:List (Nat × EO)} (ht:t≤t') (hX:zXT t X) (hk:zWN X) (hb:blBelow t' X):Bg t' (X++B)∧Ext B t (X++B) t':=by
 refine ⟨⟨zJS hb (zYM fun i o hm=>by
   obtain ⟨h1,h2⟩:=zXY h.below hm;exact ⟨by omega,EO.bel_mono ht o h2⟩),?_⟩,ht,fun i hi=>by rw[zXW,zVF hX hi];rfl⟩
 clear hb
 induction X with
 | nil=>exact h.keys
 | cons y r ih=>
   obtain ⟨b,o⟩:=y;refine ⟨?_,ih hX.2 hk.2⟩;show E.lkp (r++B) b=none;rw[zXW,hk.1];exact h.none hX.1
def lnE (l:List Nat):List EV:=l.flatMap fun b=>[.slice (some ⟨b,0⟩) 1 1,.int .i64 (-1)]
def lzE (n:Nat):List EV:=zWT [.slice none 0 0,.int .i64 0] n
theorem zYB (l:List Nat):(lnE l).length=l.length*2:=by
 induction l with
 | nil=>rfl
 | cons x l ih=>simp only[lnE,List.flatMap_cons,List.length_append,List.length_cons,List.length_nil] at ih ⊢;omega
theorem lzE_length (n:Nat):(lzE n).length=n*2:=by simp[lzE,zZJ]
theorem zSR (a b:List Nat):lnE (a++b)=lnE a++lnE b:=by simp[lnE]
theorem lnE_one (l:List Nat):(lnE l).all EV.one=true:=by
 induction l with
 | nil=>rfl
 | cons x l ih=>simp only[lnE,List.flatMap_cons,List.all_append,ih] at ih ⊢;simp[EV.one]
theorem zTG {l:List Nat} {k:Nat} (h:∀ b∈l,b<k):zQX k (lnE l):=zSP fun b hb=>by simp[zQX,EV.bel];exact h b hb
theorem yPM:∀ (n k:Nat),zQX k (lzE n)
 | 0,_=>trivial
 | n+1,k=>by
   unfold lzE;rw[zWT,zQB];exact ⟨by simp[zQX,EV.bel],yPM n k⟩
theorem yNS {π:Nat→Nat}:∀ {l:List Nat},(∀ b∈l,π b=b)→zZG π (lnE l)=lnE l
 | [],_=>rfl
 | x::l,h=>by
   have:=yNS (π:=π) (l:=l) fun b hb=>h b (List.mem_cons_of_mem _ hb)
   have hx:=h x (List.mem_cons_self ..);unfold lnE at this ⊢
   rw[List.flatMap_cons,zZT,this];simp[EV.ren,zZG,hx]
theorem lzE_ren (π:Nat→Nat):∀ n,zZG π (lzE n)=lzE n
 | 0=>rfl
 | n+1=>by
   have:=lzE_ren π n;unfold lzE at this ⊢
   rw[zWT,zZT,this];rfl
theorem lnE_put (l:List Nat) (T n:Nat):zZH (lnE l++lzE (n+1)) (l.length*2) [.slice (some ⟨T,0⟩) 1 1,.int .i64 (-1)]=lnE (l++[T])++lzE n:=by
 have h1:=zYB l;unfold zZH;rw[List.take_left' h1,List.drop_append,List.drop_of_length_le (by rw[h1];simp),List.nil_append,zSR];have e:lzE (n+1)=[.slice none 0 0,.int .i64 0]++lzE n:=by unfold lzE;rfl
 rw[e,h1];simp[lnE]
variable (B:List (Nat × EO)) {t:Nat}
theorem pfits_c (G:List Gl) (n:Nat) (h1:64≤n) (h2:n≤4194304) (h3:n % 64=0):E.Pure G Tryz.prog 67 [.int .i64 n] (.bool true):=by
 refine zXP fun V hV=>?_
 have e1:((n:Int) % 64)=0:=by omega
 refine zQV 14 [.tmp 2] Tryz.func67 ?_
 repeat' (first|refine zQQ 5 ?_|(refine stp ?_;simp only[go_sem])|(simp only[go_sem,e1])|(simp (disch:=omega) only[zQK,zBG,zYP,zPH,zKG,yQN,zDQ,zFD])|(refine spl (fun h=>?_) (fun h=>?_)<;>first|omega|((try simp only[zZQ]);(try simp only[go_sem,h])))|fail)
 all_goals (refine zQH (by simp[EV.bel]) ?_;rw[hV])
theorem pnew_c (G:List Gl) [hB:Bg t B] (n:Nat) (h1:1≤n) (h2:n≤65536) :
  EffR G Tryz.prog 44 [.int .i64 (64*n:Nat)] B t (fun v bl nx=>∃ B' T lns,v=.tuple [.ptr (some ⟨T+1,0⟩),.int .i64 0]∧nx=T+2∧bl=(T+1,.cells [.slice (some ⟨T,0⟩) n n,.int .i64 0,.slice none 0 0,.int .i64 0,.bool false] 120 0 true 0)::(T,.cells (lnE lns) 127 0 true 0)::B'∧Bg T B'∧Ext B t B' T∧lns.length=n∧(∀ b∈lns,AtG B' T b lineZ∧t≤b)∧lns.Nodup):=by
 have hfi:=pfits_c G (64*n) (by omega) (by omega) (by omega);have e1:((64*n:Nat):Int) / 64=(n:Int):=by omega
 refine EffR.enter fun Q hQ=>?_
 refine zQV 33 [.tmp 2,.tmp 3] Tryz.func44 ?_
 repeat' (first|refine zQQ 1835325 ?_|refine zQW ?_|(refine stp ?_;simp only[go_sem])|(refine Pure.at (hfi) (by simp) (by simp) rfl ?_;(try simp only[go_sem]))|((refine zZW ?_;unfold zZD);simp only[go_sem])|(simp only[go_sem,e1])|(simp (disch:=omega) only[zQK,zDQ])|(refine zQT ?_ ?_;focus omega))
 refine zQM (fun z:Nat × List Nat × List (Nat × EO) × Nat=>[(4,.ptr (some ⟨z.2.2.2+1,0⟩)),(18,.int .i64 n),(19,.int .i64 z.1)]) (fun z:Nat × List Nat × List (Nat × EO) × Nat=>(z.2.2.2+1,.cells [.slice (some ⟨z.2.2.2,0⟩) n n,.int .i64 0,.slice none 0 0,.int .i64 0,.bool false] 120 0 true 0)::(z.2.2.2,.cells (lnE z.2.1++lzE (n - z.1)) 127 0 true 0)::z.2.2.1) (fun z:Nat × List Nat × List (Nat × EO) × Nat=>z.2.2.2+2) (fun z:Nat × List Nat × List (Nat × EO) × Nat=>z.1≤n∧z.2.1.length=z.1∧Bg z.2.2.2 z.2.2.1∧Ext B t z.2.2.1 z.2.2.2∧(∀ b∈z.2.1,AtG z.2.2.1 z.2.2.2 b lineZ∧t≤b)∧z.2.1.Nodup) (fun z:Nat × List Nat × List (Nat × EO) × Nat=>n - z.1) ((0,[],B,t)) ?_ ?_ ?_ ?_ ?_
 ·rintro ⟨i,l,B',T⟩ ⟨hi,hl,hB',he,hal,-⟩
  haveI:=hB';have h5:t≤T:=he.le;refine ⟨by simp[zWP],?_,by show t≤T+2;omega⟩;have hb1:zQX (T+2) (lnE l):=zTG fun b hb=>by have:=(hal b hb).1.lt;simp only at this ⊢;omega
  simp[hb1,yPM,zQB]
 ·exact ⟨Nat.zero_le _,rfl,hB,Ext.refl _ _,fun b hb=>absurd hb (by simp),List.nodup_nil⟩
 ·simp only[go_sem,zQS]
 ·simp only[go_sem,zWG];rfl
 ·rintro ⟨i,l,B',T⟩ ⟨hi,hl,hB',he,hal,hnd⟩
  simp only at hi hl hB' he hal hnd ⊢
  haveI:=hB';have h5:t≤T:=he.le;have hll:=zYB l;have hzl:=lzE_length (n - i)
  rcases Nat.lt_or_ge i n with hin | hin
  ·obtain ⟨d,hd⟩:∃ d,n - i=d+1:=⟨n - i - 1,by omega⟩;have hput:=lnE_put l (T+2) d;rw[hl] at hput
   rw[hd] at hzl ⊢
   have hlt:∀ b∈l,b<T:=fun b hb=>(hal b hb).1.lt
   repeat' (first|refine zQQ 1835325 ?_|refine zQW ?_|(refine stp ?_;simp only[go_sem,hll,hzl,hl,List.length_append])|(simp (disch:=omega) only[zQK])|(refine spl (fun h=>?_) (fun h=>?_)<;>first|omega|try simp only[go_sem,h])|(refine zQT ?_ ?_;focus omega))
   have hd2:n - (i+1)=d:=by omega
   have hre:zZG (nam T [T+2,T,T+1]) (lnE (l++[T]))=lnE (l++[T+2]):=by
    rw[zSR,zSR,zZT,yNS fun b hb=>by simp only[nam];rw[if_pos (hlt b hb)]];simp[lnE,zZG,EV.ren,nam]
   have hbe:∀ k,zQX (T+1+k) (lnE (l++[T]))=True:=fun k=>eq_true (zTG fun b hb=>by
    rcases List.mem_append.1 hb with q | q
    ·have:=hlt b q;omega
    ·simp at q;omega)
   have hbz:∀ k m,zQX k (lzE m)=True:=fun k m=>eq_true (yPM m k)
   have hx:=Bg.above (B:=B') (t:=T) (t':=T+1) (X:=[(T,lineZ)]) (by omega) (by simp[zXT]) (by simp[zWN,lkp]) (by simp);simp only[List.cons_append,List.nil_append] at hx
   haveI:=hx.1;have hT2:T+1+1=T+2:=rfl
   (refine ⟨(i+1,l++[T],(T,lineZ)::B',T+1),T,[T+2,T,T+1],?_,?_,rfl,rfl,?_,⟨?_,rfl,?_,?_,?_,?_,?_⟩⟩;rotate_left;(focus (simp only[];omega));(focus (simp[go_sem,zQS,hT2]));(focus (omega));(focus simp);(focus (simp));(focus (simp only[];omega));(focus (simp[Nat.add_assoc,hT2,hd2,hbe 2,hbz,zQB]));(focus (simp[hT2,hd2,hre,lzE_ren,zZT])))
   ·exact hput
   refine ⟨hin,by rw[List.length_append,hl];rfl,hx.1,he.trans hx.2,fun b hb=>?_,?_⟩
   ·rcases List.mem_append.1 hb with q | q
    ·exact ⟨(hal b q).1.mono hx.2,(hal b q).2⟩
    ·obtain rfl:b=T:=by simpa using q
     exact ⟨⟨Nat.lt_succ_self _,by simp[lkp]⟩,h5⟩
   ·refine List.nodup_append.2 ⟨hnd,by simp,fun a ha c hc e=>?_⟩;have h6:=hlt a ha;obtain rfl:c=T:=by simpa using hc
    omega
  ·obtain rfl:i=n:=by omega
   repeat' (first|refine zQQ 1835325 ?_|(refine stp ?_;simp only[go_sem])|(refine spl (fun h=>?_) (fun h=>?_)<;>first|omega|try simp only[go_sem,h])|fail)
   have hb1:zQX (T+2) (lnE l):=zTG fun b hb=>by have:=(hal b hb).1.lt;omega
   rw[show lnE l++lzE (i - i)=lnE l by rw[Nat.sub_self];show lnE l++[]=_;rw[List.append_nil]];exact zWX hQ (by omega) (by simp[hb1]) (by simp[EV.bel,zQX]) ⟨B',T,l,rfl,rfl,rfl,hB',he,hl,hal,hnd⟩
end
section
structure DevG (B:List (Nat × EO)) (t d a n:Nat) (lns:List Nat):Prop where
 dev:AtG B t d (.cells [.slice (some ⟨a,0⟩) n n,.int .i64 0,.slice none 0 0,.int .i64 0,.bool false] 120 0 true 0)
 arr:AtG B t a (.cells (lnE lns) 127 0 true 0)
 len:lns.length=n
 ln:∀ b∈lns,AtG B t b lineZ
 pos:1≤n
 top:n≤65536
theorem xVP {l:List Nat} {i b:Nat} (h:l[i]? = some b):(lnE l)[2*i]? = some (.slice (some ⟨b,0⟩) 1 1)∧(lnE l)[2*i+1]? = some (.int .i64 (-1)):=by
 induction l generalizing i with
 | nil=>simp at h
 | cons x l ih=>
   have e:lnE (x::l)=.slice (some ⟨x,0⟩) 1 1 :: .int .i64 (-1)::lnE l:=rfl
   cases i with
   | zero=>simp at h;subst h;exact ⟨rfl,rfl⟩
   | succ i=>
     obtain ⟨q1,q2⟩:=ih (by simpa using h);rw[e];exact ⟨by rw[show 2*(i+1)=2*i+1+1 by omega];simpa using q1,by rw[show 2*(i+1)+1=2*i+1+1+1 by omega];simpa using q2⟩
variable (B:List (Nat × EO)) {t d a n:Nat} {lns:List Nat}
theorem xVN (G:List Gl) [hB:Bg t B] (hd:DevG B t d a n lns):EffW G Tryz.prog 69 [.ptr (some ⟨d,0⟩)] t [] B 0 (.bool false) [] B 0:=by
 have h1:=hd.pos;have h2:=hd.top;have hD:=hd.dev.f;refine EffW.enter fun Q hQ=>?_
 simp only[List.nil_append,Nat.add_zero];refine zQV 13 [.tmp 2] Tryz.func69 ?_
 repeat' (first|refine zQQ 5 ?_|(refine stp ?_;simp only[go_sem,hD])|fail)
 (refine zQN hQ [] ?_ ?_ ?_<;>(first|(simp;done)|(simp;omega)))
theorem yMW (G:List Gl) [hB:Bg t B] (hd:DevG B t d a n lns):EffW G Tryz.prog 46 [.ptr (some ⟨d,0⟩)] t [] B 0 (.int .i64 (64*n:Nat)) [] B 0:=by
 have h1:=hd.pos;have h2:=hd.top;have hD:=hd.dev.f;have hdt:=hd.dev.lt;have hno:=xVN B G hd;refine EffW.enter fun Q hQ=>?_
 simp only[List.nil_append,Nat.add_zero];refine zQV 11 [.tmp 2] Tryz.func46 ?_
 repeat' (first|refine zQQ 21 ?_|(refine stp ?_;simp only[go_sem,hD])|(refine EffW.at (hno ) [] rfl (by first|(simp[hdt,zQR hdt];done)|fail) ?_;(try simp only[go_sem]))|(simp (disch:=omega) only[zQK])|fail)
 rw[show (n:Int)*64=((64*n:Nat):Int) by omega]
 (refine zQN hQ [] ?_ ?_ ?_<;>(simp))
theorem goff_c (G:List Gl) [hB:Bg t B] (hd:DevG B t d a n lns):EffW G Tryz.prog 93 [.ptr (some ⟨d,0⟩)] t [] B 0 (.bool false) [] B 0:=by
 have hD:=hd.dev.f;have hdt:=hd.dev.lt;have hno:=xVN B G hd;refine EffW.enter fun Q hQ=>?_
 simp only[List.nil_append,Nat.add_zero];refine zQV 12 [.tmp 2] Tryz.func93 ?_
 repeat' (first|refine zQQ 5 ?_|(refine stp ?_;simp only[go_sem])|(refine EffW.at (hno ) [] rfl (by first|(simp[hdt,zQR hdt];done)|fail) ?_;(try simp only[go_sem,hD]))|fail)
 (refine zQN hQ [] ?_ ?_ ?_<;>(simp))
theorem gready_c (G:List Gl) [hB:Bg t B] (hd:DevG B t d a n lns) (x m:Nat) (hx:x+m≤64*n):EffW G Tryz.prog 96 [.ptr (some ⟨d,0⟩),.int .i64 x,.int .i64 m] t [] B 0 (.int .i64 0) [] B 0:=by
 have h1:=hd.pos;have h2:=hd.top;have hD:=hd.dev.f;have hdt:=hd.dev.lt;have hno:=xVN B G hd;have hsi:=yMW B G hd;refine EffW.enter fun Q hQ=>?_
 simp only[List.nil_append,Nat.add_zero];refine zQV 36 [.tmp 6] Tryz.func96 ?_
 repeat' (first|refine zQQ 33991 ?_|refine zQW ?_|(refine stp ?_;simp only[go_sem,hD])|(refine EffW.at (hno ) [] rfl (by first|(simp[hdt,zQR hdt];done)|fail) ?_;(try simp only[go_sem]))|(refine EffW.at (hsi ) [] rfl (by first|(simp[hdt,zQR hdt];done)|fail) ?_;(try simp only[go_sem]))|(simp (disch:=omega) only[zQK])|(refine spl (fun h=>?_) (fun h=>?_)<;>first|omega|((try simp only[zZQ]);(try simp only[go_sem,h])))|fail)
 all_goals (refine zQN hQ [] ?_ ?_ ?_<;>(simp))
theorem gseen_c (G:List Gl) [hB:Bg t B] (hd:DevG B t d a n lns) (i:Nat) (hi:i<n):EffW G Tryz.prog 97 [.ptr (some ⟨a,2*i⟩)] t [] B 0 (.agg z8) [] B 0:=by
 have h1:=hd.len;obtain ⟨b,hb⟩:∃ b,lns[i]? = some b:=⟨lns[i]'(by omega),List.getElem?_eq_getElem _⟩;have hA:=hd.arr.f;have hl:=(hd.ln b (List.mem_of_getElem? hb)).f;obtain ⟨g1,g2⟩:=xVP hb;have g3:=zYB lns;refine EffW.enter fun Q hQ=>?_
 simp only[List.nil_append,Nat.add_zero];refine zQV 15 [.cell 2 124] Tryz.func97 ?_
 repeat' (first|refine zQQ 5 ?_|(refine stp ?_;simp only[go_sem])|(refine zWV (id:=1) mixed [(0,[]),(1,[]),(2,[]),(4,[]),(5,[]),(6,[]),(3,[]),(7,[]),(8,[]),(9,[]),(10,[]),(11,[]),(12,[])] (by kernel_rfl) ?_;simp only[go_sem,g1,hA,hl])|fail)
 (refine zQN hQ [] ?_ ?_ ?_<;>(simp))
theorem gload_c (G:List Gl) [hB:Bg t B] (hd:DevG B t d a n lns) (x m:Nat) (hx:x+m≤64*n):EffW G Tryz.prog 72 [.ptr (some ⟨d,0⟩),.int .i64 x,.int .i64 m] t [] B 0 (.tuple [.slice (some ⟨t,0⟩) m m,.int .i64 0]) [(t,.cells (zQZ (zU m)) 5 0 true 0)] B 1:=by
 have h1:=hd.pos;have h2:=hd.top;have hD:=hd.dev.f;have hdt:=hd.dev.lt;have hat:=hd.arr.lt;have hre:=gready_c B G hd x m hx;refine EffW.enter fun Q hQ=>?_
 simp only[List.nil_append,Nat.add_zero];refine zQV 48 [.tmp 6,.tmp 7] Tryz.func72 ?_
 repeat' (first|refine zQQ 17047495 ?_|refine zQW ?_|(refine stp ?_;simp only[go_sem])|(refine EffW.at (hre ) [] rfl (by first|(simp[hdt,zQR hdt];done)|fail) ?_;(try simp only[go_sem]))|((refine zZW ?_;unfold zZD);simp only[go_sem])|(refine zQT ?_ ?_;focus omega))
 refine zWK (fun z:Nat=>[(0,.ptr (some ⟨d,0⟩)),(1,.int .i64 x),(2,.int .i64 m),(9,.slice (some ⟨t,0⟩) m m),(10,.int .i64 z)]) (fun z:Nat=>(t,.cells (zQZ (zU m)) 5 0 true 0)::B) (fun z:Nat=>t+1) (fun z:Nat=>z≤m) (fun z:Nat=>m - z) (0) (fun z hz=>⟨by simp[zWP,show d<t+1 by omega],by simp,by show t≤t+1;omega⟩) (by omega) (by simp only[go_sem,zQS];done) ?_ ?_
 ·simp only[go_sem,zWG]
 intro z hz
 rcases Nat.lt_or_ge z m with hzn | hzn
 ·have e1:((x:Int)+z) / 64=(((x+z) / 64:Nat):Int):=by omega
  have e2:((x:Int)+z) % 64=(((x+z) % 64:Nat):Int):=by omega
  have e3:(x+z) / 64*2=2*((x+z) / 64):=by omega
  have e4:(lnE lns).length=2*n:=by rw[zYB,hd.len];omega
  have e6:(x+z) % 64+(64 - (x+z) % 64)=64:=by omega
  have e7:List.take (64 - (x+z) % 64) (List.drop ((x+z) % 64) (zQZ (zU 64)))=zQZ (zU (64 - (x+z) % 64)):=by
   rw[zZP,zNB,List.take_of_length_le];simp[zQY]
  have e8:List.take (min (64 - (x+z) % 64) (m - z)) (zQZ (zU (64 - (x+z) % 64)))=zQZ (zU (min (64 - (x+z) % 64) (m - z))):=by
   rw[zVQ];congr 1;simp only[zU,List.take_replicate];congr 1;omega
  have e9:=xZN m z (min (64 - (x+z) % 64) (m - z)) (by omega);have e5:=gseen_c B G hd ((x+z) / 64) (by omega)
  repeat' (first|refine zQQ 17047495 ?_|refine zQW ?_|(refine stp ?_;simp only[go_sem,hD,e6,e7,e8,e9,zQY,zXV])|(refine zWV (id:=9) mixed [(0,[]),(1,[]),(2,[]),(4,[]),(5,[]),(6,[]),(3,[]),(7,[]),(8,[]),(9,[]),(10,[])] (by kernel_rfl) ?_;simp only[go_sem])|(refine EffW.at (e5 ) [] rfl (by first|(simp[hat,zQR hat];done)|fail) ?_;(try simp only[go_sem]))|(refine Eff.at2 (bytes_c G ) [] rfl (by first|(simp;done)|fail) rfl ?_;(try simp only[go_sem]))|(simp only[go_sem,e1,e2,e3])|(simp (disch:=omega) only[zQK,zDQ,zFD])|(refine spl (fun h=>?_) (fun h=>?_)<;>first|omega|try simp only[go_sem,h])|(refine zQT ?_ ?_;focus omega))
  (refine ⟨(z+min (64 - (x+z) % 64) (m - z)),?_,?_,rfl,rfl,?_,?_⟩;rotate_left;(focus (simp only[];omega));(focus ((try simp only[go_sem,zQS]);((repeat' apply And.intro)<;>(rfl))));(focus (simp only[go_sem,zWG]));(try simp only[]))
  omega
 ·obtain rfl:z=m:=by omega
  repeat' (first|refine zQQ 17047495 ?_|(refine stp ?_;simp only[go_sem])|(refine spl (fun h=>?_) (fun h=>?_)<;>first|omega|try simp only[go_sem,h])|fail)
  all_goals (refine zQN hQ [t] ?_ ?_ ?_<;>(simp))
end
section
theorem leN_zU:∀ n,leN (zU n)=0
 | 0=>rfl
 | n+1=>by
   have:=leN_zU n;simp only[zU,List.replicate_succ,leN] at this ⊢
   rw[this];rfl
theorem take64Z (m q:Nat) (h:q+8≤m):yYT (zU m) q=.tuple [.int .u64 0,.int .i64 0]:=by
 unfold yYT;rw[if_pos (by rw[zXV];exact h)];have e:((zU m).drop q).take 8=zU 8:=by
  simp only[zU,List.drop_replicate,List.take_replicate]
  congr 1;omega
 rw[e,leN_zU];rfl
theorem z8_set {k:Nat} (hk:k<8):z8.set k (.int .u64 0)=z8:=by
 rcases (show k=0∨k=1∨k=2∨k=3∨k=4∨k=5∨k=6∨k=7 by omega) with rfl | rfl | rfl | rfl | rfl | rfl | rfl | rfl<;>rfl
variable (B:List (Nat × EO)) {t:Nat}
theorem pfrom_c (G:List Gl) [hB:Bg t B] (n im cap z:Nat) (h1:1≤n) (h2:n≤65536) (him:AtG B t im (.cells (zQZ (zU (64*n))) 5 z true 0)) :
  EffR G Tryz.prog 20 [.slice (some ⟨im,0⟩) (64*n) cap] B t (fun v bl nx=>∃ B' d a lns,v=.tuple [.ptr (some ⟨d,0⟩),.int .i64 0]∧bl=B'∧Bg nx B'∧Ext B t B' nx∧DevG B' nx d a n lns∧(∀ b∈lns,t≤b∧b<a)∧a<d∧t≤a∧lns.Nodup):=by
 have himt:=him.lt;refine EffR.enter fun Q hQ=>?_
 refine zQV 55 [.tmp 2,.tmp 3] Tryz.func20 ?_
 repeat' (first|refine zQQ 103108641277 ?_|(refine stp ?_;simp only[go_sem])|(refine EffR.at (pnew_c B G n h1 h2) ?_)|(simp only[go_sem])|fail)
 rintro v bl nx ⟨B',T,lns,rfl,hnx,rfl,hB',he,hlen,hal,hnd⟩
 subst nx;haveI:=hB';have h3:=he.le;have hb1:zQX (T+2) (lnE lns):=zTG fun b hb=>by have:=(hal b hb).1.lt;omega
 have hx:=Bg.above (B:=B') (t:=T) (t':=T+2) (X:=[(T+1,.cells [.slice (some ⟨T,0⟩) n n,.int .i64 0,.slice none 0 0,.int .i64 0,.bool false] 120 0 true 0),(T,.cells (lnE lns) 127 0 true 0)]) (by omega) (by simp[zXT]) (by simp[zWN,lkp]) (by simp[hb1]);simp only[List.cons_append,List.nil_append] at hx
 have hdev:DevG ((T+1,.cells [.slice (some ⟨T,0⟩) n n,.int .i64 0,.slice none 0 0,.int .i64 0,.bool false] 120 0 true 0)::(T,.cells (lnE lns) 127 0 true 0)::B') (T+2) (T+1) T n lns:=
  ⟨⟨by omega,by simp[lkp]⟩,⟨by omega,by simp[lkp]⟩,hlen,fun b hb=>(hal b hb).1.mono hx.2,h1,h2⟩
 generalize (T+1,EO.cells [.slice (some ⟨T,0⟩) n n,.int .i64 0,.slice none 0 0,.int .i64 0,.bool false] 120 0 true 0)::(T,EO.cells (lnE lns) 127 0 true 0)::B'=B2 at hx hdev ⊢
 obtain ⟨T2,hT2⟩:∃ X,X=T+2:=⟨_,rfl⟩;rw[← hT2] at hx hdev ⊢
 obtain ⟨hB2,he2⟩:=hx;haveI:=hB2;have hdt:=hdev.dev.lt;have hatt:=hdev.arr.lt;have himt2:im<T2:=by omega
 have hD:=hdev.dev.f;have hA:=hdev.arr.f;have hI:=(him.mono (he.trans he2)).f;have g3:=zYB lns
 repeat' (first|refine zQQ 103108641277 ?_|refine zQW ?_|(refine stp ?_;simp only[go_sem,hD])|fail)
 refine zQM (fun i:Nat=>[(0,.slice (some ⟨im,0⟩) (64*n) cap),(4,.ptr (some ⟨T+1,0⟩)),(22,.int .i64 n),(23,.int .i64 i)]) (fun i:Nat=>B2) (fun i:Nat=>T2) (fun i:Nat=>i≤n) (fun i:Nat=>n - i) (0) ?_ ?_ ?_ ?_ ?_
 ·rintro i -
  exact ⟨by simp[zWP,hdt,himt2],(show blBelow T2 B2 from hB2.below),by show t≤T2;omega⟩
 ·exact Nat.zero_le _
 ·simp only[go_sem,zQS]
 ·show zWG _ B2;simp only[go_sem]
 ·rintro i hi
  simp only at hi ⊢
  rcases Nat.lt_or_ge i n with hin | hin
  ·obtain ⟨b,hb⟩:∃ b,lns[i]? = some b:=⟨lns[i]'(by omega),List.getElem?_eq_getElem _⟩;have hbm:=List.mem_of_getElem? hb;have hl:=(hdev.ln b hbm).f;have hbt:=(hdev.ln b hbm).lt;obtain ⟨g1,g2⟩:=xVP hb;rw[Nat.mul_comm 2 i] at g1 g2
   repeat' (first|refine zQQ 103108641277 ?_|refine zQW ?_|(refine stp ?_;simp only[go_sem,hD,hA,g1])|(refine spl (fun h=>?_) (fun h=>?_)<;>first|omega|try simp only[go_sem,h])|(refine zQT ?_ ?_;focus omega))
   refine zQM (fun k:Nat=>[(0,.slice (some ⟨im,0⟩) (64*n) cap),(4,.ptr (some ⟨T+1,0⟩)),(22,.int .i64 n),(23,.int .i64 i),(6,.int .i64 i),(7,.ptr (some ⟨b,0⟩)),(35,.int .i64 k)]) (fun k:Nat=>B2) (fun k:Nat=>T2) (fun k:Nat=>k≤8) (fun k:Nat=>8 - k) (0) ?_ ?_ ?_ ?_ ?_
   ·rintro k -
    exact ⟨by simp[zWP,hdt,himt2,hbt],(show blBelow T2 B2 from hB2.below),by show t≤T2;omega⟩
   ·exact Nat.zero_le _
   ·simp only[go_sem,zQS]
   ·show zWG _ B2;simp only[go_sem]
   ·rintro k hk
    simp only at hk ⊢
    rcases Nat.lt_or_ge k 8 with hk8 | hk8
    ·have htk:=xYW G (zU (64*n)) [] (64*i+8*k) cap z 0 true (by omega) (by rw[zXV];omega);rw[zWH,List.append_nil,take64Z _ _ (by omega),zXV] at htk
     have e1:(i:Int)*64+(k:Int)*8=((64*i+8*k:Nat):Int):=by omega
     have hz:=z8_set hk8;have hse:=yWZ (hdev.ln b hbm).lk
     repeat' (first|(simp (disch:=omega) only[zQK,e1])|refine zQQ 103108641277 ?_|refine zQW ?_|(refine stp ?_;simp only[go_sem])|(refine zWV (id:=11) mixed [(0,[]),(1,[]),(2,[]),(3,[]),(4,[]),(5,[]),(6,[]),(7,[]),(12,[]),(8,[]),(9,[]),(10,[]),(11,[]),(13,[]),(14,[])] (by kernel_rfl) ?_;simp only[go_sem])|(refine Eff.atR (htk ) rfl [im] rfl (by first|(simp[hI];done)|fail) rfl ?_;(try simp only[go_sem,hl,hz,hse]))|(refine spl (fun h=>?_) (fun h=>?_)<;>first|omega|try simp only[go_sem,h])|(refine zQT ?_ ?_;focus omega))
     (refine ⟨(k+1),T2,[],?_,?_,rfl,rfl,?_,⟨?_,rfl,?_,?_,?_,?_,?_⟩⟩;rotate_left;(focus (simp only[];omega));(focus (simp[go_sem,zQS,hdt,himt2,hbt]));(focus (omega));(focus simp);(focus (simp));(focus (simp only[];omega));(focus (simp));(focus (simp));(try simp only[]))
     exact hk8
    ·obtain rfl:k=8:=by omega
     repeat' (first|refine zQQ 103108641277 ?_|(refine stp ?_;simp only[go_sem])|(simp (disch:=omega) only[zQK])|fail)
     (refine ⟨(i+1),T2,[],?_,?_,rfl,rfl,?_,⟨?_,rfl,?_,?_,?_,?_,?_⟩⟩;rotate_left;(focus (simp only[];omega));(focus (simp[go_sem,zQS,hdt,himt2]));(focus (omega));(focus simp);(focus (simp));(focus (simp only[];omega));(focus (simp));(focus (simp));(try simp only[]))
     exact hin
  ·obtain rfl:i=n:=by omega
   repeat' (first|refine zQQ 103108641277 ?_|(refine stp ?_;simp only[go_sem])|(refine spl (fun h=>?_) (fun h=>?_)<;>first|omega|try simp only[go_sem,h])|fail)
   exact zWX hQ (by omega) hB2.below (by simp[EV.bel,zQX,hdt]) ⟨B2,T+1,T,lns,rfl,rfl,hB2,he.trans he2,hdev,fun b hb=>⟨(hal b hb).2,(hal b hb).1.lt⟩,by omega,h3,hnd⟩
end
section
variable (B:List (Nat × EO)) {t d a n:Nat} {lns:List Nat}
theorem lopen_c (G:List Gl) [hB:Bg t B] (hd:DevG B t d a n lns) (x m:Nat) (h1:64≤x) (h2:x % 64=0) (h3:128≤m) (h4:m % 64=0) (h5:x+m≤64*n) :
  EffW G Tryz.prog 21 [.ptr (some ⟨d,0⟩),.int .i64 x,.int .i64 m] t [] B 0 (.tuple [.ptr (some ⟨t,0⟩),.int .i64 0]) [(t,.cells [.ptr (some ⟨d,0⟩),.int .i64 x,.int .i64 m] 131 0 true 0)] B 1:=by
 have q1:=hd.pos;have q2:=hd.top;have hdt:=hd.dev.lt;have hsi:=yMW B G hd;have e1:(x:Int) % 64=0:=by omega
 have e2:(m:Int) % 64=0:=by omega
 refine EffW.enter fun Q hQ=>?_
 simp only[List.nil_append,Nat.add_zero];refine zQV 48 [.tmp 6,.tmp 7] Tryz.func21 ?_
 repeat' (first|refine zQQ 18887 ?_|refine zQW ?_|(refine stp ?_;simp only[go_sem])|(refine EffW.at (hsi ) [] rfl (by first|(simp[hdt,zQR hdt];done)|fail) ?_;(try simp only[go_sem]))|(simp only[go_sem,e1,e2])|(simp (disch:=omega) only[zQK,zFD])|(refine spl (fun h=>?_) (fun h=>?_)<;>first|omega|((try simp only[zZQ]);(try simp only[go_sem,h])))|fail)
 refine zQN hQ [t] ?_ ?_ ?_<;>(first|(simp[hdt];done)|(simp;omega))
theorem alive_c (G:List Gl) [hB:Bg t B] (hd:DevG B t d a n lns):EffW G Tryz.prog 94 [.ptr (some ⟨d,0⟩)] t [] B 0 (.int .i64 0) [] B 0:=by
 have hdt:=hd.dev.lt;have hlo:=gload_c B G hd 0 0 (by omega);refine EffW.enter fun Q hQ=>?_
 simp only[List.nil_append,Nat.add_zero];refine zQV 11 [.tmp 2] Tryz.func94 ?_
 repeat' (first|refine zQQ 21 ?_|(refine stp ?_;simp only[go_sem])|(refine EffW.at (hlo ) [] rfl (by first|(simp[hdt,zQR hdt];done)|fail) ?_;(try simp only[go_sem]))|fail)
 (refine zQN hQ [] ?_ ?_ ?_<;>(simp))
theorem field_c (G:List Gl) [hB:Bg t B] (hd:DevG B t d a n lns) (x:Nat) (hx:x+8≤64*n):EffW G Tryz.prog 95 [.agg [.int .i64 x],.ptr (some ⟨d,0⟩)] t [] B 0 (.tuple [.int .u64 0,.int .i64 0]) [] B 0:=by
 have hdt:=hd.dev.lt;have q2:=hd.top;have hlo:=gload_c B G hd x 8 hx;have hpu:=putN64_c G 0 (by omega);have htk:=xYW G (zU 8) [] 0 8 0 0 true (by omega) (by decide);rw[zWH,List.append_nil,take64Z _ _ (by omega),zXV,show ((0:Nat):Int)=0 from rfl] at htk
 refine EffW.enter fun Q hQ=>?_
 simp only[List.nil_append,Nat.add_zero];refine zQV 26 [.tmp 4,.tmp 5] Tryz.func95 ?_
 repeat' (first|refine zQQ 1049079 ?_|(refine stp ?_;simp only[go_sem])|(refine zWV (id:=2) mixed [(0,[]),(1,[]),(3,[]),(2,[]),(4,[2]),(5,[]),(6,[]),(7,[]),(8,[]),(9,[]),(10,[]),(11,[])] (by kernel_rfl) ?_;simp only[go_sem])|(refine Eff.at2 (hpu ) [] rfl (by first|(simp;done)|fail) rfl ?_;(try simp only[go_sem]))|(refine EffW.at (hlo ) [] rfl (by first|(simp[hdt,zQR hdt];done)|fail) ?_;(try simp only[go_sem]))|(refine Eff.atR (htk ) rfl [t+14] rfl (by first|(simp;done)|fail) rfl ?_;(try simp only[go_sem]))|fail)
 (refine zQN hQ [] ?_ ?_ ?_<;>(simp))
theorem word_c (G:List Gl) [hB:Bg t B] (hd:DevG B t d a n lns) (x:Nat) (hx:x+8≤64*n) (h8:x % 8=0):EffW G Tryz.prog 71 [.ptr (some ⟨d,0⟩),.int .i64 x] t [] B 0 (.tuple [.int .u64 0,.int .i64 0]) [] B 0:=by
 have hdt:=hd.dev.lt;have q2:=hd.top;have hal:=alive_c B G hd;have hfi:=field_c B G hd x hx;have e1:(x:Int) % 8=0:=by omega
 refine EffW.enter fun Q hQ=>?_
 simp only[List.nil_append,Nat.add_zero];refine zQV 21 [.tmp 4,.tmp 5] Tryz.func71 ?_
 repeat' (first|refine zQQ 17523 ?_|(refine stp ?_;simp only[go_sem])|(refine EffW.at (hal ) [] rfl (by first|(simp[hdt,zQR hdt];done)|fail) ?_;(try simp only[go_sem]))|(refine EffW.at (hfi ) [] rfl (by first|(simp[hdt,zQR hdt];done)|fail) ?_;(try simp only[go_sem]))|(simp only[go_sem,e1])|(simp (disch:=omega) only[zQK,zBG,zYP,zPH,zKG,yQN,zDQ,zFD])|fail)
 (refine zQN hQ [] ?_ ?_ ?_<;>(simp))
def xTG (B:List (Nat × EO)) (t d lg x m:Nat):Prop:=AtG B t lg (.cells [.ptr (some ⟨d,0⟩),.int .i64 x,.int .i64 m] 131 0 true 0)
theorem lready_c (G:List Gl) [hB:Bg t B] (hd:DevG B t d a n lns) {lg x m:Nat} (hl:xTG B t d lg x m):EffW G Tryz.prog 70 [.ptr (some ⟨lg,0⟩)] t [] B 0 (.int .i64 0) [] B 0:=by
 have hdt:=hd.dev.lt;have hlt:=hl.lt;have hL:=AtG.f hl;have hof:=goff_c B G hd;refine EffW.enter fun Q hQ=>?_
 simp only[List.nil_append,Nat.add_zero];refine zQV 19 [.tmp 2] Tryz.func70 ?_
 repeat' (first|refine zQQ 8205 ?_|refine zQW ?_|(refine stp ?_;simp only[go_sem,hL])|(refine EffW.at (hof ) [] rfl (by first|(simp[hdt,zQR hdt];done)|fail) ?_;(try simp only[go_sem]))|fail)
 (refine zQN hQ [] ?_ ?_ ?_<;>(simp))
theorem lrecs_c (G:List Gl) [hB:Bg t B] (hd:DevG B t d a n lns) {lg x m:Nat} (hl:xTG B t d lg x m) (hx:x+8≤64*n) (h8:x % 8=0):EffW G Tryz.prog 47 [.ptr (some ⟨lg,0⟩)] t [] B 0 (.tuple [.slice none 0 0,.int .i64 0]) [] B 0:=by
 have hdt:=hd.dev.lt;have q2:=hd.top;have hlt:=hl.lt;have hL:=AtG.f hl;have hre:=lready_c B G hd hl;have hwo:=word_c B G hd x hx h8;refine EffW.enter fun Q hQ=>?_
 simp only[List.nil_append,Nat.add_zero];refine zQV 78 [.tmp 2,.tmp 3] Tryz.func47 ?_
 repeat' (first|refine zQQ 590457939964618416125 ?_|(refine stp ?_;simp only[go_sem])|(refine zWV (id:=4) mixed [(0,[]),(1,[]),(2,[]),(4,[]),(5,[]),(6,[]),(3,[]),(7,[]),(8,[]),(9,[]),(10,[]),(11,[]),(12,[]),(13,[])] (by kernel_rfl) ?_;simp only[go_sem,hL])|(refine EffW.at (hre ) [] rfl (by first|(simp[hlt,zQR hlt];done)|fail) ?_;(try simp only[go_sem]))|(refine EffW.at (hwo ) [] rfl (by first|(simp[hdt,zQR hdt];done)|fail) ?_;(try simp only[go_sem]))|fail)
 (refine zQN hQ [] ?_ ?_ ?_<;>(simp))
def zFW (B:List (Nat × EO)) (t d lg pl:Nat) (op:EV):Prop:=AtG B t pl (.cells [.ptr (some ⟨d,0⟩),.ptr (some ⟨lg,0⟩),op] 137 0 true 0)
theorem tnew_c (G:List Gl) [hB:Bg t B] (hd:DevG B t d a n lns) {lg x m:Nat} (hl:xTG B t d lg x m) (hx:x+8≤64*n) (h8:x % 8=0):EffW G Tryz.prog 22 [.ptr (some ⟨d,0⟩),.ptr (some ⟨lg,0⟩)] t [] B 0 (.tuple [.ptr (some ⟨t,0⟩),.int .i64 0]) [(t,.cells [.ptr (some ⟨d,0⟩),.ptr (some ⟨lg,0⟩),.ptr none] 137 0 true 0)] B 1:=by
 have hdt:=hd.dev.lt;have q1:=hd.pos;have q2:=hd.top;have hlt:=AtG.lt hl;have hsi:=yMW B G hd;have hre:=lrecs_c B G hd hl hx h8;refine EffW.enter fun Q hQ=>?_
 simp only[List.nil_append,Nat.add_zero];refine zQV 22 [.tmp 4,.tmp 5] Tryz.func22 ?_
 repeat' (first|refine zQQ 132275 ?_|(refine stp ?_;simp only[go_sem])|(refine EffW.at (hsi ) [] rfl (by first|(simp[hdt,zQR hdt];done)|fail) ?_;(try simp only[go_sem]))|(refine EffW.at (hre ) [] rfl (by first|(simp[hlt,zQR hlt];done)|fail) ?_;(try simp only[go_sem]))|(refine spl (fun h=>?_) (fun h=>?_)<;>first|omega|try simp only[go_sem,h])|fail)
 refine zQN hQ [t] ?_ ?_ ?_<;>(first|(simp[hdt,hlt];done)|(simp;omega))
theorem xZM (G:List Gl) [hB:Bg t B] (hd:DevG B t d a n lns) {lg pl:Nat} {op:EV} (hp:zFW B t d lg pl op):EffW G Tryz.prog 74 [.ptr (some ⟨pl,0⟩)] t [] B 0 (.bool true) [] B 0:=by
 have hP:=AtG.f hp;refine EffW.enter fun Q hQ=>?_
 simp only[List.nil_append,Nat.add_zero];refine zQV 12 [.tmp 2] Tryz.func74 ?_
 repeat' (first|refine zQQ 5 ?_|(refine stp ?_;simp only[go_sem,hP])|fail)
 (refine zQN hQ [] ?_ ?_ ?_<;>(simp))
theorem psize_c (G:List Gl) [hB:Bg t B] (hd:DevG B t d a n lns) {lg pl:Nat} {op:EV} (hp:zFW B t d lg pl op):EffW G Tryz.prog 48 [.ptr (some ⟨pl,0⟩)] t [] B 0 (.int .i64 (64*n:Nat)) [] B 0:=by
 have hdt:=hd.dev.lt;have hpt:=AtG.lt hp;have hP:=AtG.f hp;have hma:=xZM B G hd hp;have hsi:=yMW B G hd;refine EffW.enter fun Q hQ=>?_
 simp only[List.nil_append,Nat.add_zero];refine zQV 11 [.tmp 2] Tryz.func48 ?_
 repeat' (first|refine zQQ 37 ?_|(refine stp ?_;simp only[go_sem,hP])|(refine EffW.at (hma ) [] rfl (by first|(simp[hpt,zQR hpt];done)|fail) ?_;(try simp only[go_sem]))|(refine EffW.at (hsi ) [] rfl (by first|(simp[hdt,zQR hdt];done)|fail) ?_;(try simp only[go_sem]))|fail)
 (refine zQN hQ [] ?_ ?_ ?_<;>(simp))
theorem pidle_c (G:List Gl) [hB:Bg t B] (hd:DevG B t d a n lns) {lg pl:Nat} (hp:zFW B t d lg pl (.ptr none)):EffW G Tryz.prog 105 [.ptr (some ⟨pl,0⟩)] t [] B 0 (.int .i64 0) [] B 0:=by
 have hdt:=hd.dev.lt;have hpt:=AtG.lt hp;have hP:=AtG.f hp;have hma:=xZM B G hd hp;have hof:=goff_c B G hd;refine EffW.enter fun Q hQ=>?_
 simp only[List.nil_append,Nat.add_zero];refine zQV 19 [.tmp 2] Tryz.func105 ?_
 repeat' (first|refine zQQ 8333 ?_|refine zQW ?_|(refine stp ?_;simp only[go_sem,hP])|(refine EffW.at (hma ) [] rfl (by first|(simp[hpt,zQR hpt];done)|fail) ?_;(try simp only[go_sem]))|(refine EffW.at (hof ) [] rfl (by first|(simp[hdt,zQR hdt];done)|fail) ?_;(try simp only[go_sem]))|fail)
 (refine zQN hQ [] ?_ ?_ ?_<;>(simp))
theorem pstate_c (G:List Gl) [hB:Bg t B] (hd:DevG B t d a n lns) {lg pl x m:Nat} {op:EV} (hl:xTG B t d lg x m) (hx:x+8≤64*n) (h8:x % 8=0) (hp:zFW B t d lg pl op):EffW G Tryz.prog 106 [.ptr (some ⟨pl,0⟩)] t [] B 0 (.int .i64 0) [] B 0:=by
 have hdt:=hd.dev.lt;have hlt:=AtG.lt hl;have hpt:=AtG.lt hp;have hP:=AtG.f hp;have hma:=xZM B G hd hp;have hre:=lrecs_c B G hd hl hx h8;refine EffW.enter fun Q hQ=>?_
 simp only[List.nil_append,Nat.add_zero];refine zQV 24 [.tmp 2] Tryz.func106 ?_
 repeat' (first|refine zQQ 4194461 ?_|(refine stp ?_;simp only[go_sem,hP])|(refine EffW.at (hma ) [] rfl (by first|(simp[hpt,zQR hpt];done)|fail) ?_;(try simp only[go_sem]))|(refine EffW.at (hre ) [] rfl (by first|(simp[hlt,zQR hlt];done)|fail) ?_;(try simp only[go_sem]))|fail)
 (refine zQN hQ [] ?_ ?_ ?_<;>(simp))
end
section
variable (B:List (Nat × EO)) {t d a n:Nat} {lns:List Nat}
theorem hnew_c (G:List Gl) [hB:Bg t B] (hd:DevG B t d a n lns) {lg pl:Nat} {op:EV} (hp:zFW B t d lg pl op) (x m:Nat) (h1:128≤x) (h2:x % 64=0) (h3:x+256*m≤64*n):EffW G Tryz.prog 23 [.ptr (some ⟨pl,0⟩),.int .i64 x,.int .i64 m] t [] B 0 (.tuple [.ptr (some ⟨t,0⟩),.int .i64 0]) [(t+1,.map []),(t,.cells [.ptr (some ⟨pl,0⟩),.int .i64 x,.int .i64 m,.map (some (t+1)),.ptr none] 141 0 true 0)] B 2:=by
 have q1:=hd.pos;have q2:=hd.top;have hpt:=AtG.lt hp;have hsi:=psize_c B G hd hp;have e1:(x:Int) % 64=0:=by omega
 have e2:(((64*n:Nat):Int) - x) / 256=(((64*n - x) / 256:Nat):Int):=by omega
 have e3:m≤(64*n - x) / 256:=by omega
 refine EffW.enter fun Q hQ=>?_
 simp only[List.nil_append,Nat.add_zero];refine zQV 43 [.tmp 6,.tmp 7] Tryz.func23 ?_
 repeat' (first|refine zQQ 68719477959 ?_|(refine stp ?_;simp only[go_sem])|(refine EffW.at (hsi ) [] rfl (by first|(simp[hpt,zQR hpt];done)|fail) ?_;(try simp only[go_sem]))|((refine zYK ?_);simp only[go_sem])|(simp only[go_sem,e1,e2])|(simp (disch:=omega) only[zQK,zDQ,zFD])|(refine spl (fun h=>?_) (fun h=>?_)<;>first|omega|((try simp only[zZQ]);(try simp only[go_sem,h])))|fail)
 refine zQN hQ [t+1,t] ?_ ?_ ?_<;>(first|(simp[hpt];done)|(simp;omega))
def yJJ (B:List (Nat × EO)) (t pl hp x m lv:Nat) (op:EV):Prop:=AtG B t hp (.cells [.ptr (some ⟨pl,0⟩),.int .i64 x,.int .i64 m,.map (some lv),op] 141 0 true 0)
theorem xRK (G:List Gl) [hB:Bg t B] {pl hp x m lv:Nat} {op:EV} (hh:yJJ B t pl hp x m lv op):EffW G Tryz.prog 49 [.ptr (some ⟨hp,0⟩)] t [] B 0 (.bool true) [] B 0:=by
 have hH:=AtG.f hh;refine EffW.enter fun Q hQ=>?_
 simp only[List.nil_append,Nat.add_zero];refine zQV 12 [.tmp 2] Tryz.func49 ?_
 repeat' (first|refine zQQ 5 ?_|(refine stp ?_;simp only[go_sem,hH])|fail)
 (refine zQN hQ [] ?_ ?_ ?_<;>(simp))
theorem Bg.turn {B:List (Nat × EO)} {t:Nat} [h:Bg t B] {t' r:Nat} {o:EO} {X:List (Nat × EO)} (ht:t≤t') (hX:zXT t X) (hk:zWN X) (hb:blBelow t' X) (ho:o.bel t'):Bg t' (X++setL B r o)∧(∀ j,j<t→j ≠ r→lkp (X++setL B r o) j=lkp B j)∧(∀ o0,r<t→lkp B r=some o0→lkp (X++setL B r o) r=some o):=by
 refine ⟨⟨zJS hb (zRB ho (zYM fun i x hm=>by
   obtain ⟨h1,h2⟩:=zXY h.below hm;exact ⟨by omega,EO.bel_mono ht x h2⟩)),?_⟩,fun j hj hne=>?_,fun o0 hr hl=>?_⟩
 ·clear hb
  induction X with
  | nil=>exact zTT h.keys
  | cons y r' ih=>
    obtain ⟨b,x⟩:=y;refine ⟨?_,ih hX.2 hk.2⟩;show E.lkp (r' ++ setL B r o) b=none;have hn:lkp B b=none:=h.none hX.1;rw[zXW,hk.1,zWF]
    split
    ·rename_i e
     rw[e,hn];rfl
    ·rw[hn];rfl
 ·rw[zXW,zVF hX hj,zWF,if_neg (fun e=>hne e.symm)];rfl
 ·rw[zXW,zVF hX hr,zWF,if_pos rfl,hl];rfl
theorem hload_c (G:List Gl) [hB:Bg t B] {pl hp x m lv:Nat} (hh:yJJ B t pl hp x m lv (.ptr none)) (hpt:pl<t):EffR G Tryz.prog 24 [.ptr (some ⟨hp,0⟩),.slice none 0 0] B t (fun v bl nx=>∃ B',v=.int .i64 0∧bl=B'∧Bg nx B'∧nx=t+1∧(∀ j,j<t→j ≠ hp→lkp B' j=lkp B j)∧yJJ B' nx pl hp x m t (.ptr none)∧AtG B' nx t (.map [])):=by
 have hH:=AtG.f hh;have hht:=AtG.lt hh;have hth:=xRK B G hh;refine EffR.enter fun Q hQ=>?_
 refine zQV 45 [.tmp 4] Tryz.func24 ?_
 repeat' (first|refine zQQ 137440953523 ?_|refine zQW ?_|(refine stp ?_;simp only[go_sem,hH])|(refine EffW.at (hth ) [] rfl (by first|(simp[hht,zQR hht];done)|fail) ?_;(try simp only[go_sem]))|((refine zYK ?_);simp only[go_sem])|(refine zZM 137440953523 1 ?_;simp only[go_sem])|fail)
 obtain ⟨b1,b2,b3⟩:=Bg.turn (B:=B) (t:=t) (t':=t+1) (r:=hp) (o:=.cells [.ptr (some ⟨pl,0⟩),.int .i64 x,.int .i64 m,.map (some t),.ptr none] 141 0 true 0) (X:=[(t,.map [])]) (by omega) (by simp[zXT]) (by simp[zWN,lkp]) (by simp) (by simp[EO.bel,zQX,EV.bel];omega);exact zWX hQ (by omega) b1.below (by simp[EV.bel]) ⟨_,rfl,rfl,b1,rfl,b2,⟨by omega,b3 _ hht hh.lk⟩,⟨by omega,by simp[lkp]⟩⟩
theorem tbegin_c (G:List Gl) [hB:Bg t B] (hd:DevG B t d a n lns) {lg pl x m:Nat} (hl:xTG B t d lg x m) (hx:x+8≤64*n) (h8:x % 8=0) (hp:zFW B t d lg pl (.ptr none)):EffR G Tryz.prog 75 [.ptr (some ⟨pl,0⟩)] B t (fun v bl nx=>∃ B',v=.tuple [.ptr (some ⟨t+1,0⟩),.int .i64 0]∧bl=B'∧Bg nx B'∧nx=t+2∧(∀ j,j<t→j ≠ pl→lkp B' j=lkp B j)∧zFW B' nx d lg pl (.ptr (some ⟨t+1,0⟩))∧AtG B' nx t (.map [])∧AtG B' nx (t+1) (.cells [.ptr (some ⟨pl,0⟩),.map (some t),.bool false] 221 0 true 0)):=by
 have hP:=AtG.f hp;have hpt:=AtG.lt hp;have hid:=pidle_c B G hd hp;have hst:=pstate_c B G hd hl hx h8 hp;refine EffR.enter fun Q hQ=>?_
 refine zQV 27 [.tmp 2,.tmp 3] Tryz.func75 ?_
 repeat' (first|refine zQQ 16957 ?_|(refine stp ?_;simp only[go_sem,hP,zWF,Option.map_some])|(refine EffW.at (hid ) [] rfl (by first|(simp[hpt,zQR hpt];done)|fail) ?_;(try simp only[go_sem]))|(refine EffW.at (hst ) [] rfl (by first|(simp[hpt,zQR hpt];done)|fail) ?_;(try simp only[go_sem]))|((refine zYK ?_);simp only[go_sem,hP])|fail)
 have hdt:=hd.dev.lt;have hlt:=AtG.lt hl;obtain ⟨b1,b2,b3⟩:=Bg.turn (B:=B) (t:=t) (t':=t+2) (r:=pl) (o:=.cells [.ptr (some ⟨d,0⟩),.ptr (some ⟨lg,0⟩),.ptr (some ⟨t+1,0⟩)] 137 0 true 0) (X:=[(t+1,.cells [.ptr (some ⟨pl,0⟩),.map (some t),.bool false] 221 0 true 0),(t,.map [])]) (by omega) (by simp[zXT]) (by simp[zWN,lkp]) (by simp;omega) (by simp[EO.bel,zQX,EV.bel];omega);exact zWX hQ (by omega) b1.below (by simp[EV.bel,zQX]) ⟨_,rfl,rfl,b1,rfl,b2,⟨by omega,b3 _ hpt hp.lk⟩,⟨by omega,by simp[lkp]⟩,⟨by omega,by simp[lkp]⟩⟩
theorem hbegin_c (G:List Gl) [hB:Bg t B] (hd:DevG B t d a n lns) {lg pl hp x m y k lv:Nat} (hl:xTG B t d lg x m) (hx:x+8≤64*n) (h8:x % 8=0) (hp_:zFW B t d lg pl (.ptr none)) (hh:yJJ B t pl hp y k lv (.ptr none)) (hlv:lv<t) (hne:hp ≠ pl):EffR G Tryz.prog 50 [.ptr (some ⟨hp,0⟩)] B t (fun v bl nx=>∃ B',v=.tuple [.ptr (some ⟨t+4,0⟩),.int .i64 0]∧bl=B'∧Bg nx B'∧nx=t+5∧(∀ j,j<t→j ≠ pl→j ≠ hp→lkp B' j=lkp B j)∧zFW B' nx d lg pl (.ptr (some ⟨t+1,0⟩))∧yJJ B' nx pl hp y k lv (.ptr (some ⟨t+4,0⟩))∧AtG B' nx t (.map [])∧AtG B' nx (t+1) (.cells [.ptr (some ⟨pl,0⟩),.map (some t),.bool false] 221 0 true 0) ∧
   AtG B' nx (t+2) (.map [])∧AtG B' nx (t+3) (.map [])∧AtG B' nx (t+4) (.cells [.ptr (some ⟨hp,0⟩),.ptr (some ⟨t+1,0⟩),.map (some (t+2)),.map (some (t+3)),.int .i64 0,.bool false] 179 0 true 0)):=by
 have hH:=AtG.f hh;have hht:=AtG.lt hh;have hpt:=AtG.lt hp_;have hth:=xRK B G hh;have htb:=tbegin_c B G hd hl hx h8 hp_;refine EffR.enter fun Q hQ=>?_
 refine zQV 33 [.tmp 2,.tmp 3] Tryz.func50 ?_
 repeat' (first|refine zQQ 262461 ?_|(refine stp ?_;simp only[go_sem,hH])|(refine EffW.at (hth ) [] rfl (by first|(simp[hht,zQR hht];done)|fail) ?_;(try simp only[go_sem]))|(refine EffR.at htb ?_)|(simp only[go_sem])|fail)
 rintro v B1 nx ⟨_,rfl,rfl,hB1,hnx,hsame,hpo,hmp,htx⟩
 haveI:=hB1;have hh1:yJJ B1 nx pl hp y k lv (.ptr none):=⟨by omega,by rw[hsame hp hht hne];exact hh.lk⟩;have hH1:=AtG.f hh1;obtain rfl:=hnx;obtain ⟨T,hT⟩:∃ X,X=t+2:=⟨_,rfl⟩;rw[← hT] at hB1 hpo hmp htx hh1 hH1 ⊢
 haveI:=hB1
 repeat' (first|refine zQQ 262461 ?_|(refine stp ?_;simp only[go_sem,hH1,zWF,Option.map_some])|((refine zYK ?_);simp only[go_sem,hH1])|fail)
 obtain ⟨b1,b2,b3⟩:=Bg.turn (B:=B1) (t:=T) (t':=T+3) (r:=hp) (o:=.cells [.ptr (some ⟨pl,0⟩),.int .i64 y,.int .i64 k,.map (some lv),.ptr (some ⟨T+2,0⟩)] 141 0 true 0) (X:=[(T+2,.cells [.ptr (some ⟨hp,0⟩),.ptr (some ⟨t+1,0⟩),.map (some T),.map (some (T+1)),.int .i64 0,.bool false] 179 0 true 0),(T+1,.map []),(T,.map [])]) (by omega) (by simp[zXT]) (by simp[zWN,lkp]) (by simp;omega) (by simp[EO.bel,zQX,EV.bel];omega);simp only[List.cons_append,List.nil_append] at b1 b2 b3
 refine zWX hQ (by omega) b1.below (by simp[EV.bel,zQX]) ⟨_,by rw[hT],rfl,b1,by omega,fun j hj h6 h7=>(b2 j (by omega) h7).trans (hsame j hj h6),⟨by omega,by rw[b2 pl (by omega) (fun e=>hne e.symm)];exact hpo.lk⟩,⟨by omega,by rw[b3 _ (by omega) hh1.lk,hT]⟩,⟨by omega,by rw[b2 t (by omega) (by omega)];exact hmp.lk⟩,⟨by omega,by rw[b2 (t+1) (by omega) (by omega)];exact htx.lk⟩,⟨by omega,by rw[← hT];simp[lkp]⟩,⟨by omega,by rw[show t+3=T+1 by omega];simp[lkp]⟩,⟨by omega,by rw[show t+4=T+2 by omega,show t+2=T by omega,show t+3=T+1 by omega];simp[lkp]⟩⟩
end
section
theorem zU_get {m i:Nat} (h:i<m):(zQZ (zU m))[i]? = some (.int .u8 0):=by
 unfold zQZ zU;rw[List.getElem?_map,List.getElem?_replicate,if_pos h];rfl
theorem zU_set {m i:Nat} (h:i<m):zZH (zQZ (zU m)) i [.int .u8 0]=zQZ (zU m):=by
 have:=xZN m i 1 (by omega);exact this
theorem copyb_c (G:List Gl) (m o n cap z f:Nat) (w:Bool) (h:o+n≤m) (hm:m≤70000000):Eff G Tryz.prog 41 [.slice (some ⟨0,o⟩) n cap] [(0,.cells (zQZ (zU m)) 5 z w f)] 1 (.slice (some ⟨1,0⟩) n n) [(0,.cells (zQZ (zU m)) 5 z w f),(1,.cells (zQZ (zU n)) 5 0 true 0)] 2:=by
 have hl1:(zQZ (zU n)).length=n:=by rw[zQY,zXV]
 have hl2:(zQZ (zU m)).length=m:=by rw[zQY,zXV]
 unfold Eff;refine zQV 22 [.tmp 2] Tryz.func41 ?_
 repeat' (first|refine zQQ 2077 ?_|refine zQW ?_|(refine stp ?_;simp only[go_sem])|((refine zZW ?_;unfold zZD);simp only[go_sem])|(refine zQT ?_ ?_;focus omega))
 refine zWK (fun i:Nat=>[(0,.slice (some ⟨0,o⟩) n cap),(3,.slice (some ⟨1,0⟩) i n),(4,.int .i64 i)]) (fun i:Nat=>[(1,.cells (zQZ (zU n)) 5 0 true 0),(0,.cells (zQZ (zU m)) 5 z w f)]) (fun i:Nat=>2) (fun i:Nat=>i≤n) (fun i:Nat=>n - i) (0) (fun z hz=>⟨by simp[zWP],by simp,by omega⟩) (by omega) (by simp only[go_sem,zQS];done) (by trivial) ?_;intro i hi
 rcases Nat.lt_or_ge i n with hin | hin
 ·have hg:=zU_get (m:=m) (i:=o+i) (by omega);have hs:=zU_set (m:=n) hin
  repeat' (first|refine zQQ 2077 ?_|refine zQW ?_|(refine stp ?_;simp only[go_sem,hl1,hg,hs])|(simp (disch:=omega) only[zQK])|(refine spl (fun h=>?_) (fun h=>?_)<;>first|omega|try simp only[go_sem,h])|(refine zQT ?_ ?_;focus omega))
  (refine ⟨(i+1),?_,?_,rfl,rfl,?_,?_⟩;rotate_left;(focus (simp only[];omega));(focus ((try simp only[go_sem,zQS]);((repeat' apply And.intro)<;>(rfl))));(focus (trivial));(try simp only[]))
  exact hin
 ·obtain rfl:i=n:=by omega
  repeat' (first|refine zQQ 2077 ?_|(refine stp ?_;simp only[go_sem])|(refine spl (fun h=>?_) (fun h=>?_)<;>first|omega|try simp only[go_sem,h])|fail)
  exact zWW [1] (by simp) (by simp) (by simp) (by simp) (by simp) (by simp) rfl (by simp) (by simp)
theorem rfits_c (G:List Gl) (n:Nat) (h1:64≤n) (h2:n≤4194304) (h3:n % 64=0):E.Pure G Tryz.prog 40 [.int .i64 n] (.bool true):=by
 refine zXP fun V hV=>?_
 have e1:((n:Int) % 64)=0:=by omega
 refine zQV 14 [.tmp 2] Tryz.func40 ?_
 repeat' (first|refine zQQ 5 ?_|(refine stp ?_;simp only[go_sem])|(simp only[go_sem,e1])|(simp (disch:=omega) only[zQK,zBG,zYP,zPH,zKG,yQN,zDQ,zFD])|(refine spl (fun h=>?_) (fun h=>?_)<;>first|omega|((try simp only[zZQ]);(try simp only[go_sem,h])))|fail)
 all_goals (refine zQH (by simp[EV.bel]) ?_;rw[hV])
structure RefG (B:List (Nat × EO)) (t r la n:Nat) (xs:List Nat):Prop where
 dev:AtG B t r (.cells [.int .i64 (64*n:Nat),.slice (some ⟨la,0⟩) n n,.int .i64 0,.slice none 0 0,.int .i64 0,.bool false] 103 0 true 0)
 arr:AtG B t la (.cells (lnE xs) 107 2 true 0)
 len:xs.length=n
 ln:∀ x∈xs,∃ y,AtG B t x (.cells [.slice (some ⟨y,0⟩) 64 64] 56 0 true 0)∧AtG B t y (.cells (zQZ (zU 64)) 5 0 true 0)
 pos:1≤n
 top:n≤65536
variable (B:List (Nat × EO)) {t:Nat}
theorem rfrom_c (G:List Gl) [hB:Bg t B] (n im cap z f:Nat) (w:Bool) (h1:1≤n) (h2:n≤65536) (him:AtG B t im (.cells (zQZ (zU (64*n))) 5 z w f)) (hcap:64*n≤cap) (hz:z=0∨z=1) :
  EffR G Tryz.prog 15 [.slice (some ⟨im,0⟩) (64*n) cap] B t (fun v bl nx=>∃ B' r la xs,v=.tuple [.ptr (some ⟨r,0⟩),.int .i64 0]∧bl=B'∧Bg nx B'∧Ext B t B' nx∧RefG B' nx r la n xs):=by
 have himt:=him.lt;have hfi:=rfits_c G (64*n) (by omega) (by omega) (by omega);have hil:(zQZ (zU (64*n))).length=64*n:=by rw[zQY,zXV]
 refine EffR.enter fun Q hQ=>?_
 refine zQV 38 [.tmp 2,.tmp 3] Tryz.func15 ?_
 repeat' (first|refine zQQ 131645 ?_|refine zQW ?_|(refine stp ?_;simp only[go_sem])|(refine Pure.at (hfi) (by simp) (by simp) rfl ?_;(try simp only[go_sem]))|fail)
 refine zQM (fun z:Nat × List Nat × List (Nat × EO) × Nat=>[(0,.slice (some ⟨im,0⟩) (64*n) cap),(4,.ptr (some ⟨z.2.2.2,0⟩)),(5,.int .i64 (64*z.1:Nat))]) (fun z:Nat × List Nat × List (Nat × EO) × Nat=>zVY (z.2.2.2+1) (lnE z.2.1) 107 2++((z.2.2.2,.cells [.int .i64 (64*n:Nat),zVW (z.2.2.2+1) z.1,.int .i64 0,.slice none 0 0,.int .i64 0,.bool false] 103 0 true 0)::z.2.2.1)) (fun z:Nat × List Nat × List (Nat × EO) × Nat=>z.2.2.2+2) (fun z:Nat × List Nat × List (Nat × EO) × Nat=>z.1≤n∧z.2.1.length=z.1∧Bg z.2.2.2 z.2.2.1∧Ext B t z.2.2.1 z.2.2.2∧(∀ x∈z.2.1,x<z.2.2.2∧∃ y,AtG z.2.2.1 z.2.2.2 x (.cells [.slice (some ⟨y,0⟩) 64 64] 56 0 true 0)∧AtG z.2.2.1 z.2.2.2 y (.cells (zQZ (zU 64)) 5 0 true 0))) (fun z:Nat × List Nat × List (Nat × EO) × Nat=>n - z.1) ((0,[],B,t)) ?_ ?_ ?_ ?_ ?_
 ·rintro ⟨i,l,B',T⟩ ⟨hi,hl,hB',he,hal⟩
  haveI:=hB';have h5:t≤T:=he.le;refine ⟨by simp[zWP,show im<T+2 by omega],?_,by show t≤T+2;omega⟩;have hb1:zQX (T+2) (lnE l):=zTG fun b hb=>by have:=(hal b hb).1;simp only at this ⊢;omega
  rw[zXS (by simp) hb1];simp
 ·exact ⟨Nat.zero_le _,rfl,hB,Ext.refl _ _,fun b hb=>absurd hb (by simp)⟩
 ·simp only[go_sem,zQS,Nat.mul_zero]
 ·show zWG _ ((t,.cells [.int .i64 (64*n:Nat),.slice none 0 0,.int .i64 0,.slice none 0 0,.int .i64 0,.bool false] 103 0 true 0)::B);simp only[go_sem,zWG]
 ·rintro ⟨i,l,B',T⟩ ⟨hi,hl,hB',he,hal⟩
  simp only at hi hl hB' he hal ⊢
  haveI:=hB';have h5:t≤T:=he.le;have hll:=zYB l;have hlo:=lnE_one l;have hI:=(him.mono he).f;have himT:im<T:=by omega
  rcases Nat.lt_or_ge i n with hin | hin
  ·have hcb:=copyb_c G (64*n) (64*i) 64 (cap - 64*i) z f w (by omega) (by omega);have e1:((64*i:Nat):Int)+64=((64*(i+1):Nat):Int):=by omega
   have e2:64*(i+1) - 64*i=64:=by omega
   have e3:((64*i:Nat):Int).toNat=64*i:=by omega
   have e4:((64*(i+1):Nat):Int).toNat=64*(i+1):=by omega
   have hlt:∀ b∈l,b<T:=fun b hb=>(hal b hb).1
   rcases Nat.eq_zero_or_pos i with h0 | h0
   ·subst h0;obtain rfl:l=[]:=List.eq_nil_of_length_eq_zero hl;rw[Nat.mul_zero,Nat.sub_zero] at hcb
    rw[show lnE []=[] from rfl,zVT,zWY,List.nil_append]
    repeat' (first|refine zQQ 131645 ?_|refine zQW ?_|(refine stp ?_;simp only[go_sem,Nat.zero_add])|(refine zWV (id:=7) mixed [(0,[]),(1,[]),(2,[]),(3,[]),(5,[]),(6,[]),(7,[]),(8,[]),(4,[]),(9,[]),(10,[4]),(11,[]),(12,[]),(13,[]),(14,[]),(15,[]),(16,[]),(17,[])] (by kernel_rfl) ?_;simp only[go_sem,hI,e2,Nat.zero_add])|(refine Eff.atR (hcb ) rfl [im] rfl (by first|(simp[hI];done)|fail) rfl ?_;(try simp only[go_sem,Nat.zero_add]))|(refine spl (fun h=>?_) (fun h=>?_)<;>first|omega|try simp only[go_sem,h])|(refine zQT ?_ ?_;focus omega))
    have hx:=Bg.above (B:=B') (t:=T) (t':=T+2) (X:=[(T+1,.cells [.slice (some ⟨T,0⟩) 64 64] 56 0 true 0),(T,.cells (zQZ (zU 64)) 5 0 true 0)]) (by omega) (by simp[zXT]) (by simp[zWN,lkp]) (by simp);simp only[List.cons_append,List.nil_append] at hx
    haveI:=hx.1;have hre:zZG (nam T [T+20,T+13,T,T+21]) (lnE ([T+1]))=lnE ([]:List Nat)++[.slice (some ⟨T+13,0⟩) 1 1,.int .i64 (-1)]:=by
     show zZG _ (lnE (([]:List Nat)++[T+1]))=_;rw[zSR,zZT,yNS fun b hb=>by simp only[nam];rw[if_pos (hlt b hb)]];simp[lnE,zZG,EV.ren,nam]
    have hbe:∀ k,zQX (T+2+k) (lnE ([T+1]))=True:=fun k=>eq_true (zTG (l:=([]:List Nat)++[T+1]) fun b hb=>by
     rcases List.mem_append.1 hb with q | q
     ·have:=hlt b q;omega
     ·simp at q;omega)
    have hT3:T+2+1=T+3∧T+2+2=T+4∧((64*(0+1):Nat):Int)=64∧((64*1:Nat):Int)=64:=⟨rfl,rfl,rfl,rfl⟩;have hab:∀ k,zVY k (lnE ([T+1])) 107 2=[(k,.cells (lnE ([T+1])) 107 2 true 0)]:=fun k=>zXR (by show 0<(lnE (([]:List Nat)++[T+1])).length;rw[zYB,List.length_append];show 0<(_+1)*2;omega)
    have hbr:∀ π,zZG π (zQZ (zU 64))=zQZ (zU 64):=fun π=>zSG _ _
    have hbb:∀ k,zQX k (zQZ (zU 64))=True:=fun k=>eq_true (zPG _ _)
    (refine ⟨(0+1,[T+1],(T+1,.cells [.slice (some ⟨T,0⟩) 64 64] 56 0 true 0)::(T,.cells (zQZ (zU 64)) 5 0 true 0)::B',T+2),T,[T+20,T+13,T,T+21],?_,?_,rfl,rfl,?_,⟨?_,rfl,?_,?_,?_,?_,?_⟩⟩;rotate_left;(focus (simp only[];omega));(focus (simp only[go_sem,zQS,hT3,show im<T+4 by omega,himT]));(focus (omega));(focus simp);(focus (simp));(focus (simp only[];omega));(focus (simp[hT3,hab,zZK,hbe 2,hbb,show im<T+4 by omega]));(focus (simp[hT3,hab,zZK,hre,hbr,show im<T+4 by omega])))
    all_goals (first|rfl|skip)
    refine ⟨hin,by show (([]:List Nat)++[T+1]).length=_;rw[List.length_append,hl];rfl,hx.1,he.trans hx.2,fun b hb=>?_⟩
    rcases List.mem_append.1 (show b∈([]:List Nat)++[T+1] from hb) with q | q
    ·obtain ⟨q1,y,q2,q3⟩:=hal b q;exact ⟨by show b<T+2;omega,y,q2.mono hx.2,q3.mono hx.2⟩
    ·obtain rfl:b=T+1:=by simpa using q
     exact ⟨Nat.lt_succ_self _,T,⟨Nat.lt_succ_self _,by simp[lkp]⟩,⟨by show T<T+2;omega,by simp[lkp]⟩⟩
   ·have htk:List.take (i*2) (lnE l)=lnE l:=List.take_of_length_le (by omega);rw[zXR (by omega),zWZ h0,List.cons_append,List.nil_append]
    repeat' (first|refine zQQ 131645 ?_|refine zQW ?_|(refine stp ?_;simp only[go_sem,e1,hll,hl,htk])|(refine zWV (id:=7) mixed [(0,[]),(1,[]),(2,[]),(3,[]),(5,[]),(6,[]),(7,[]),(8,[]),(4,[]),(9,[]),(10,[4]),(11,[]),(12,[]),(13,[]),(14,[]),(15,[]),(16,[]),(17,[])] (by kernel_rfl) ?_;simp only[go_sem,hI,e1,e3])|(refine Eff.atR (hcb ) rfl [im] rfl (by first|(simp[hI];done)|fail) rfl ?_;(try simp only[go_sem]))|(simp only[go_sem,e2,e4])|(simp (disch:=omega) only[zQK])|(refine spl (fun h=>?_) (fun h=>?_)<;>first|omega|try simp only[go_sem,h])|(refine zQT ?_ ?_;focus omega))
    have hx:=Bg.above (B:=B') (t:=T) (t':=T+2) (X:=[(T+1,.cells [.slice (some ⟨T,0⟩) 64 64] 56 0 true 0),(T,.cells (zQZ (zU 64)) 5 0 true 0)]) (by omega) (by simp[zXT]) (by simp[zWN,lkp]) (by simp);simp only[List.cons_append,List.nil_append] at hx
    haveI:=hx.1;have hre:zZG (nam T [T+20,T+13,T,T+21]) (lnE (l++[T+1]))=lnE l++[.slice (some ⟨T+13,0⟩) 1 1,.int .i64 (-1)]:=by
     show zZG _ (lnE (l++[T+1]))=_;rw[zSR,zZT,yNS fun b hb=>by simp only[nam];rw[if_pos (hlt b hb)]];simp[lnE,zZG,EV.ren,nam]
    have hbe:∀ k,zQX (T+2+k) (lnE (l++[T+1]))=True:=fun k=>eq_true (zTG (l:=l++[T+1]) fun b hb=>by
     rcases List.mem_append.1 hb with q | q
     ·have:=hlt b q;omega
     ·simp at q;omega)
    have hT3:T+2+1=T+3∧T+2+2=T+4∧((64*(0+1):Nat):Int)=64∧((64*1:Nat):Int)=64:=⟨rfl,rfl,rfl,rfl⟩;have hab:∀ k,zVY k (lnE (l++[T+1])) 107 2=[(k,.cells (lnE (l++[T+1])) 107 2 true 0)]:=fun k=>zXR (by show 0<(lnE (l++[T+1])).length;rw[zYB,List.length_append];show 0<(_+1)*2;omega)
    have hbr:∀ π,zZG π (zQZ (zU 64))=zQZ (zU 64):=fun π=>zSG _ _
    have hbb:∀ k,zQX k (zQZ (zU 64))=True:=fun k=>eq_true (zPG _ _)
    (refine ⟨(i+1,l++[T+1],(T+1,.cells [.slice (some ⟨T,0⟩) 64 64] 56 0 true 0)::(T,.cells (zQZ (zU 64)) 5 0 true 0)::B',T+2),T,[T+20,T+13,T,T+21],?_,?_,rfl,rfl,?_,⟨?_,rfl,?_,?_,?_,?_,?_⟩⟩;rotate_left;(focus (simp only[];omega));(focus (simp only[go_sem,zQS,show im<T+4 by omega,himT]));(focus (omega));(focus simp);(focus (simp));(focus (simp only[];omega));(focus (simp[hT3,hab,zZK,hbe 2,hbb,show im<T+4 by omega]));(focus (simp[hT3,hab,zZK,hre,hbr,show im<T+4 by omega]));(try simp only[]))
    all_goals (skip)
    refine ⟨hin,by show (l++[T+1]).length=_;rw[List.length_append,hl];rfl,hx.1,he.trans hx.2,fun b hb=>?_⟩
    rcases List.mem_append.1 (show b∈l++[T+1] from hb) with q | q
    ·obtain ⟨q1,y,q2,q3⟩:=hal b q;exact ⟨by show b<T+2;omega,y,q2.mono hx.2,q3.mono hx.2⟩
    ·obtain rfl:b=T+1:=by simpa using q
     exact ⟨Nat.lt_succ_self _,T,⟨Nat.lt_succ_self _,by simp[lkp]⟩,⟨by show T<T+2;omega,by simp[lkp]⟩⟩
  ·obtain rfl:i=n:=by omega
   rw[zXR (by omega),zWZ (by omega),List.cons_append,List.nil_append]
   repeat' (first|refine zQQ 131645 ?_|(refine stp ?_;simp only[go_sem])|(refine spl (fun h=>?_) (fun h=>?_)<;>first|omega|try simp only[go_sem,h])|fail)
   have hb1:zQX (T+2) (lnE l):=zTG fun b hb=>by have:=(hal b hb).1;omega
   have hx:=Bg.above (B:=B') (t:=T) (t':=T+2) (X:=[(T+1,.cells (lnE l) 107 2 true 0),(T,.cells [.int .i64 (64*i:Nat),.slice (some ⟨T+1,0⟩) i i,.int .i64 0,.slice none 0 0,.int .i64 0,.bool false] 103 0 true 0)]) (by omega) (by simp[zXT]) (by simp[zWN,lkp]) (by simp[hb1]);simp only[List.cons_append,List.nil_append] at hx
   refine zWX hQ (by omega) hx.1.below (by simp[EV.bel,zQX]) ⟨_,T,T+1,l,rfl,rfl,hx.1,he.trans hx.2,⟨⟨by omega,by simp[lkp]⟩,⟨by omega,by simp[lkp]⟩,hl,fun x hx'=>?_,h1,h2⟩⟩;obtain ⟨q1,y,q2,q3⟩:=hal x hx';exact ⟨y,q2.mono hx.2,q3.mono hx.2⟩
end
section
theorem xKN {T:Nat} {c:List EV} {ty z:Nat} {B:List (Nat × EO)} [h:Bg T B]:dropL (zVY T c ty z++B) T=B:=by
 rw[zHZ,Bg.dropL0 (B:=B)];unfold zVY;split
 ·rfl
 ·simp[dropL]
variable (B:List (Nat × EO)) {t r la n:Nat} {xs:List Nat}
theorem rlopen_c (G:List Gl) [hB:Bg t B] (hd:RefG B t r la n xs) (x m:Nat) (h1:64≤x) (h2:x % 64=0) (h3:128≤m) (h4:m % 64=0) (h5:x+m≤64*n) :
  EffW G Tryz.prog 16 [.ptr (some ⟨r,0⟩),.int .i64 x,.int .i64 m] t [] B 0 (.tuple [.ptr (some ⟨t,0⟩),.int .i64 0]) [(t,.cells [.ptr (some ⟨r,0⟩),.int .i64 x,.int .i64 m] 109 0 true 0)] B 1:=by
 have q1:=hd.pos;have q2:=hd.top;have hdt:=hd.dev.lt;have hD:=hd.dev.f;have e1:(x:Int) % 64=0:=by omega
 have e2:(m:Int) % 64=0:=by omega
 refine EffW.enter fun Q hQ=>?_
 simp only[List.nil_append,Nat.add_zero];refine zQV 49 [.tmp 6,.tmp 7] Tryz.func16 ?_
 repeat' (first|refine zQQ 8796093022919 ?_|(refine stp ?_;simp only[go_sem])|(simp only[go_sem,hD,e1,e2])|(simp (disch:=omega) only[zQK,zFD])|(refine spl (fun h=>?_) (fun h=>?_)<;>first|omega|((try simp only[zZQ]);(try simp only[go_sem,hD,h])))|fail)
 refine zQN hQ [t] ?_ ?_ ?_<;>(first|(simp[hdt];done)|(simp;omega))
def yXD (B:List (Nat × EO)) (t r lg x m:Nat):Prop:=AtG B t lg (.cells [.ptr (some ⟨r,0⟩),.int .i64 x,.int .i64 m] 109 0 true 0)
theorem rseen_c (G:List Gl) [hB:Bg t B] (hd:RefG B t r la n xs) (i y:Nat) (hi:i<n) (x:Nat) (hx:xs[i]? = some x) (hy:AtG B t x (.cells [.slice (some ⟨y,0⟩) 64 64] 56 0 true 0)):EffW G Tryz.prog 204 [.ptr (some ⟨r,0⟩),.int .i64 i] t [] B 0 (.slice (some ⟨y,0⟩) 64 64) [] B 0:=by
 have q2:=hd.top;have hD:=hd.dev.f;have hA:=hd.arr.f;have hX:=hy.f;obtain ⟨g1,g2⟩:=xVP hx;rw[Nat.mul_comm 2 i] at g1 g2
 have g3:=zYB xs;have g4:=hd.len;obtain ⟨y',q3,q4⟩:=hd.ln x (List.mem_of_getElem? hx);have hyt:y<t:=by
  have e:=q3.lk.symm.trans hy.lk;simp at e
  rw[← e];exact q4.lt
 refine EffW.enter fun Q hQ=>?_
 simp only[List.nil_append,Nat.add_zero];refine zQV 20 [.tmp 4] Tryz.func204 ?_
 repeat' (first|refine zQQ 51 ?_|(refine stp ?_;simp only[go_sem,hD,hA,hX,g1])|(refine zQT ?_ ?_;focus omega))
 refine zQN hQ [] ?_ ?_ ?_<;>(simp[hyt])
theorem rinside_c (G:List Gl) [hB:Bg t B] (hd:RefG B t r la n xs) (x m:Nat) (h:x+m≤64*n):EffW G Tryz.prog 203 [.ptr (some ⟨r,0⟩),.int .i64 x,.int .i64 m] t [] B 0 (.bool true) [] B 0:=by
 have q2:=hd.top;have hD:=hd.dev.f;refine EffW.enter fun Q hQ=>?_
 simp only[List.nil_append,Nat.add_zero];refine zQV 31 [.tmp 6] Tryz.func203 ?_
 repeat' (first|refine zQQ 71 ?_|(refine stp ?_;simp only[go_sem])|(simp (disch:=omega) only[zQK])|(refine spl (fun h=>?_) (fun h=>?_)<;>first|omega|((try simp only[zZQ]);(try simp only[go_sem,hD,h])))|fail)
 all_goals (refine zQN hQ [] ?_ ?_ ?_<;>(first|(simp;done)|(simp;omega)))
theorem rload_c (G:List Gl) [hB:Bg t B] (hd:RefG B t r la n xs) (x m:Nat) (h:x+m≤64*n) (h0:0<m):EffW G Tryz.prog 190 [.ptr (some ⟨r,0⟩),.int .i64 x,.int .i64 m] t [] B 0 (.tuple [.slice (some ⟨t,0⟩) m m,.int .i64 0]) [(t,.cells (zQZ (zU m)) 5 1 true 0)] B 1:=by
 have q2:=hd.top;have hD:=hd.dev.f;have hdt:=hd.dev.lt;have hin:=rinside_c B G hd x m h;have hzl:∀ k,(zQZ (zU k)).length=k:=fun k=>by rw[zQY,zXV]
 have hz1:∀ k,zQZ (zU (k+1))=zQZ (zU k)++[.int .u8 0]:=fun k=>by
  rw[show ([EV.int .u8 0]:List EV)=zQZ (zU 1) from rfl,← zWJ]
  congr 1
  simp only[zU,List.replicate_append_replicate]
 have hzo:∀ k,(zQZ (zU k)).all EV.one=true:=fun k=>by rw[List.all_eq_true];intro v hv;unfold zQZ at hv;obtain ⟨_,_,rfl⟩:=List.mem_map.1 hv;rfl
 refine EffW.enter fun Q hQ=>?_
 simp only[List.nil_append,Nat.add_zero];refine zQV 39 [.tmp 6,.tmp 7] Tryz.func190 ?_
 repeat' (first|refine zQQ 17048519 ?_|refine zQW ?_|(refine stp ?_;simp only[go_sem,hD])|(refine EffW.at (hin ) [] rfl (by first|(simp[hdt,zQR hdt];done)|fail) ?_;(try simp only[go_sem]))|fail)
 refine zQM (fun i:Nat=>[(0,.ptr (some ⟨r,0⟩)),(1,.int .i64 x),(2,.int .i64 m),(8,zVW t i),(9,.int .i64 (x+i:Nat))]) (fun i:Nat=>zVY t (zQZ (zU i)) 5 1++B) (fun i:Nat=>t+1) (fun i:Nat=>i≤m) (fun i:Nat=>m - i) (0) ?_ ?_ ?_ ?_ ?_
 ·rintro i -
  refine ⟨by simp[zWP,show r<t+1 by omega],?_,by show t≤t+1;omega⟩;rw[zXS (by simp) (zPG _ _)];simp
 ·exact Nat.zero_le _
 ·simp only[go_sem,zQS,Nat.add_zero,zWY]
 ·show zWG _ B;simp only[go_sem]
 ·rintro i hi
  simp only at hi ⊢
  rcases Nat.lt_or_ge i m with him | him
  ·obtain ⟨b,hb⟩:∃ b,xs[(x+i) / 64]? = some b:=⟨xs[(x+i) / 64]'(by have:=hd.len;omega),List.getElem?_eq_getElem _⟩;obtain ⟨y,q3,q4⟩:=hd.ln b (List.mem_of_getElem? hb);have hse:=rseen_c B G hd ((x+i) / 64) y (by omega) b hb q3;have hyt:=q4.lt;have hY:=q4.f;have e1:((x+i:Nat):Int) / 64=(((x+i) / 64:Nat):Int):=by omega
   have e2:((x+i:Nat):Int) % 64=(((x+i) % 64:Nat):Int):=by omega
   have e3:((x:Int)+(m:Int))=((x+m:Nat):Int):=by omega
   have hg:=zU_get (m:=64) (i:=(x+i) % 64) (by omega);have hbr:∀ k π,zZG π (zQZ (zU k))=zQZ (zU k):=fun k π=>zSG _ _
   have hbb:∀ k j,zQX j (zQZ (zU k))=True:=fun k j=>eq_true (zPG _ _)
   repeat' (first|refine zQQ 17048519 ?_|refine zQW ?_|(refine stp ?_;simp only[go_sem,e3])|(refine EffW.at (hse ) [] rfl (by first|(simp[hdt,zQR hdt,zQR hyt];done)|fail) ?_;(try simp only[go_sem,hY,e1,zQR hdt,zQR hyt]))|(refine zJJ (c:=zQZ (zU i)) (by omega) (by first|(simp[hzl];done)|fail) (by first|(simp;done)|fail) (by first|(simp;done)|fail) (by omega) (by first|(simp;done)|fail) (by first|(simp[EV.one];done)|fail) (by simp;omega) ?_;(try simp only[go_sem]))|(simp only[go_sem,e2,hg])|(simp (disch:=omega) only[zQK,zDQ,zFD])|(refine spl (fun h=>?_) (fun h=>?_)<;>first|omega|try simp only[go_sem,h])|(refine zQT ?_ ?_;focus omega))
   rw[xKN];have hab:∀ k,zVY k (zQZ (zU i)++[.int .u8 0]) 5 1=[(k,.cells (zQZ (zU i)++[.int .u8 0]) 5 1 true 0)]:=fun k=>zXR (by simp)
   have hsub:[t+2].getD (t - t) 0=t+2:=by rw[Nat.sub_self];rfl
   (refine ⟨(i+1),t,[t+2],?_,?_,rfl,rfl,?_,⟨?_,rfl,?_,?_,?_,?_,?_⟩⟩;rotate_left;(focus (simp only[];omega));(focus ((try simp only[go_sem,zQS,hsub,zZK,hdt]);((repeat' apply And.intro)<;>(rfl))));(focus (omega));(focus simp);(focus (simp));(focus (simp only[];omega));(focus (simp[hz1,hab,hbb,zQB]));(focus (simp[hz1,hab,hbr,zZT]));(try simp only[]))
   exact him
  ·obtain rfl:i=m:=by omega
   rw[zXR (by rw[hzl];exact h0),zWZ h0,List.cons_append,List.nil_append]
   repeat' (first|refine zQQ 17048519 ?_|(refine stp ?_;simp only[go_sem])|(simp (disch:=omega) only[zQK])|(refine spl (fun h=>?_) (fun h=>?_)<;>first|omega|try simp only[go_sem,h])|fail)
   (refine zQN hQ [t] ?_ ?_ ?_<;>(simp))
end
section
theorem rtake_c (G:List Gl) (z f:Nat) (w:Bool):Eff G Tryz.prog 191 [.slice (some ⟨0,0⟩) 8 8,.int .i64 0,.int .i64 8] [(0,.cells (zQZ (zU 8)) 5 z w f)] 1 (.tuple [.int .u64 0,.int .i64 0]) [(0,.cells (zQZ (zU 8)) 5 z w f)] 1:=by
 unfold Eff;refine zQV 43 [.tmp 6,.tmp 7] Tryz.func191 ?_;have e8:zQZ (zU 8)=[.int .u8 0,.int .u8 0,.int .u8 0,.int .u8 0,.int .u8 0,.int .u8 0,.int .u8 0,.int .u8 0]:=rfl;rw[e8]
 repeat' (first|refine zQQ 570426311 ?_|refine zQW ?_|(refine stp ?_;simp only[go_sem])|(simp only[go_sem])|(refine zZM 570426311 9 ?_;simp only[go_sem])|(simp (disch:=omega) only[zKG])|fail)
 all_goals exact zWW [] (by simp) (by simp) (by simp) (by simp) (by simp) (by simp) rfl (by simp) (by simp)
variable (B:List (Nat × EO)) {t r la n:Nat} {xs:List Nat}
theorem rnumber_c (G:List Gl) [hB:Bg t B] (hd:RefG B t r la n xs) {lg x m:Nat} (hl:yXD B t r lg x m) (hx:x+8≤64*n):EffW G Tryz.prog 159 [.ptr (some ⟨lg,0⟩),.int .i64 x] t [] B 0 (.int .u64 0) [] B 0:=by
 have hdt:=hd.dev.lt;have hL:=AtG.f hl;have hlo:=rload_c B G hd x 8 hx (by omega);have htk:=rtake_c G 1 0 true;refine EffW.enter fun Q hQ=>?_
 simp only[List.nil_append,Nat.add_zero];refine zQV 24 [.tmp 4] Tryz.func159 ?_
 repeat' (first|refine zQQ 179 ?_|(refine stp ?_;simp only[go_sem,hL])|(refine EffW.at (hlo ) [] rfl (by first|(simp[hdt,zQR hdt];done)|fail) ?_;(try simp only[go_sem]))|(refine Eff.atR (htk ) rfl [t] rfl (by first|(simp;done)|fail) rfl ?_;(try simp only[go_sem]))|fail)
 all_goals (refine zQN hQ [] ?_ ?_ ?_<;>(simp))
theorem rrecs_c (G:List Gl) [hB:Bg t B] (hd:RefG B t r la n xs) {lg x m:Nat} (hl:yXD B t r lg x m) (hx:x+8≤64*n) (hm:m≤4194304):EffW G Tryz.prog 132 [.ptr (some ⟨lg,0⟩)] t [] B 0 (.tuple [.slice none 0 0,.int .i64 0]) [] B 0:=by
 have q2:=hd.top;have hD:=hd.dev.f;have hlt:=AtG.lt hl;have hL:=AtG.f hl;have hnu:=rnumber_c B G hd hl hx;refine EffW.enter fun Q hQ=>?_
 simp only[List.nil_append,Nat.add_zero];refine zQV 59 [.tmp 2,.tmp 3] Tryz.func132 ?_
 repeat' (first|refine zQQ 1126450736531453 ?_|refine zQW ?_|(refine stp ?_;simp only[go_sem,hL,hD])|(refine EffW.at (hnu ) [] rfl (by first|(simp[hlt,zQR hlt];done)|fail) ?_;(try simp only[go_sem]))|(refine zZM 1126450736531453 1 ?_;simp only[go_sem])|(simp (disch:=omega) only[zKG])|(refine spl (fun h=>?_) (fun h=>?_)<;>first|omega|try simp only[go_sem,h])|fail)
 all_goals (refine zQN hQ [] ?_ ?_ ?_<;>(simp))
def zBS (B:List (Nat × EO)) (t r lg pl:Nat) (op:EV):Prop:=AtG B t pl (.cells [.ptr (some ⟨r,0⟩),.ptr (some ⟨lg,0⟩),op] 112 0 true 0)
theorem rpnew_c (G:List Gl) [hB:Bg t B] {lg:Nat} (hr:r<t) (hl:lg<t):EffW G Tryz.prog 17 [.ptr (some ⟨r,0⟩),.ptr (some ⟨lg,0⟩)] t [] B 0 (.tuple [.ptr (some ⟨t,0⟩),.int .i64 0]) [(t,.cells [.ptr (some ⟨r,0⟩),.ptr (some ⟨lg,0⟩),.ptr none] 112 0 true 0)] B 1:=by
 refine EffW.enter fun Q hQ=>?_
 simp only[List.nil_append,Nat.add_zero];refine zQV 16 [.tmp 4,.tmp 5] Tryz.func17 ?_
 repeat' (first|refine zQQ 2099 ?_|(refine stp ?_;simp only[go_sem])|fail)
 refine zQN hQ [t] ?_ ?_ ?_<;>(first|(simp[hr,hl];done)|(simp;omega))
theorem rstate_c (G:List Gl) [hB:Bg t B] (hd:RefG B t r la n xs) {lg x m pl:Nat} {op:EV} (hl:yXD B t r lg x m) (hx:x+8≤64*n) (hm:m≤4194304) (hp:zBS B t r lg pl op):EffW G Tryz.prog 107 [.ptr (some ⟨pl,0⟩)] t [] B 0 (.int .i64 0) [] B 0:=by
 have hlt:=AtG.lt hl;have hP:=AtG.f hp;have hre:=rrecs_c B G hd hl hx hm;refine EffW.enter fun Q hQ=>?_
 simp only[List.nil_append,Nat.add_zero];refine zQV 19 [.tmp 2] Tryz.func107 ?_
 repeat' (first|refine zQQ 278557 ?_|(refine stp ?_;simp only[go_sem,hP])|(refine EffW.at (hre ) [] rfl (by first|(simp[hlt,zQR hlt];done)|fail) ?_;(try simp only[go_sem]))|fail)
 (refine zQN hQ [] ?_ ?_ ?_<;>(simp))
theorem rtbegin_c (G:List Gl) [hB:Bg t B] (hd:RefG B t r la n xs) {lg x m pl:Nat} (hl:yXD B t r lg x m) (hx:x+8≤64*n) (hm:m≤4194304) (hp:zBS B t r lg pl (.ptr none)):EffR G Tryz.prog 76 [.ptr (some ⟨pl,0⟩)] B t (fun v bl nx=>v=.tuple [.ptr (some ⟨t,0⟩),.int .i64 0]∧Bg nx bl∧nx=t+1∧(∀ j,j<t→j ≠ pl→lkp bl j=lkp B j)):=by
 have hdt:=hd.dev.lt;have hlt:=AtG.lt hl;have hpt:=AtG.lt hp;have hD:=hd.dev.f;have hP:=AtG.f hp;have hst:=rstate_c B G hd hl hx hm hp;refine EffR.enter fun Q hQ=>?_
 refine zQV 32 [.tmp 2,.tmp 3] Tryz.func76 ?_
 repeat' (first|refine zQQ 1116189 ?_|(refine stp ?_;simp only[go_sem,hP,hD,zWF,Option.map_some])|(refine EffW.at (hst ) [] rfl (by first|(simp[hpt,zQR hpt];done)|fail) ?_;(try simp only[go_sem]))|fail)
 obtain ⟨b1,b2,b3⟩:=Bg.turn (B:=B) (t:=t) (t':=t+1) (r:=pl) (o:=.cells [.ptr (some ⟨r,0⟩),.ptr (some ⟨lg,0⟩),.ptr (some ⟨t,0⟩)] 112 0 true 0) (X:=[(t,.cells [.ptr (some ⟨pl,0⟩),.slice none 0 0,.bool false] 224 0 true 0)]) (by omega) (by simp[zXT]) (by simp[zWN,lkp]) (by simp;omega) (by simp[EO.bel,zQX,EV.bel];omega);simp only[List.cons_append,List.nil_append] at b1 b2 b3
 exact zWX hQ (by omega) b1.below (by simp[EV.bel,zQX]) ⟨rfl,b1,rfl,b2⟩
theorem rhsize_c (G:List Gl) [hB:Bg t B] (hd:RefG B t r la n xs) {lg pl:Nat} {op:EV} (hp:zBS B t r lg pl op):EffW G Tryz.prog 42 [.ptr (some ⟨pl,0⟩)] t [] B 0 (.int .i64 (64*n:Nat)) [] B 0:=by
 have hD:=hd.dev.f;have hP:=AtG.f hp;refine EffW.enter fun Q hQ=>?_
 simp only[List.nil_append,Nat.add_zero];refine zQV 10 [.tmp 2] Tryz.func42 ?_
 repeat' (first|refine zQQ 5 ?_|(refine stp ?_;simp only[go_sem,hP,hD])|fail)
 (refine zQN hQ [] ?_ ?_ ?_<;>(simp))
def blsE (m:Nat):List EV:=zWT [.bool false] m
theorem zFM:∀ (m k:Nat),zQX k (blsE m)=True
 | 0,_=>eq_true trivial
 | m+1,k=>by
   unfold blsE;rw[zWT,zQB,show zWT [.bool false] m=blsE m from rfl,zFM m k];simp[zQX,EV.bel]
def zFQ (B:List (Nat × EO)) (t pl hp y m lv:Nat) (op:EV):Prop:=AtG B t hp (.cells [.ptr (some ⟨pl,0⟩),.int .i64 y,.int .i64 m,.slice (some ⟨lv,0⟩) m m,op] 116 0 true 0)
theorem rhnew_c (G:List Gl) [hB:Bg t B] (hd:RefG B t r la n xs) {lg pl:Nat} {op:EV} (hp:zBS B t r lg pl op) (x m:Nat) (h1:128≤x) (h2:x % 64=0) (h3:x+256*m≤64*n):EffR G Tryz.prog 18 [.ptr (some ⟨pl,0⟩),.int .i64 x,.int .i64 m] B t (fun v bl nx=>v=.tuple [.ptr (some ⟨t+1,0⟩),.int .i64 0]∧Bg nx bl∧Ext B t bl nx∧nx=t+2∧zFQ bl nx pl (t+1) x m t (.ptr none)):=by
 have q1:=hd.pos;have q2:=hd.top;have hpt:=AtG.lt hp;have hsi:=rhsize_c B G hd hp;have e1:(x:Int) % 64=0:=by omega
 have e2:(((64*n:Nat):Int) - x) / 256=(((64*n - x) / 256:Nat):Int):=by omega
 have e3:m≤(64*n - x) / 256:=by omega
 refine EffR.enter fun Q hQ=>?_
 refine zQV 43 [.tmp 6,.tmp 7] Tryz.func18 ?_
 repeat' (first|refine zQQ 34359739079 ?_|(refine stp ?_;simp only[go_sem])|(refine EffW.at (hsi ) [] rfl (by first|(simp[hpt,zQR hpt];done)|fail) ?_;(try simp only[go_sem]))|((refine zZW ?_;unfold zZD);simp only[go_sem])|(simp only[go_sem,e1,e2])|(simp (disch:=omega) only[zQK,zDQ,zFD])|(refine spl (fun h=>?_) (fun h=>?_)<;>first|omega|((try simp only[zZQ]);(try simp only[go_sem,h])))|(refine zQT ?_ ?_;focus omega))
 have hbz:=zFM m;have hx:=Bg.above (B:=B) (t:=t) (t':=t+2) (X:=[(t+1,.cells [.ptr (some ⟨pl,0⟩),.int .i64 x,.int .i64 m,.slice (some ⟨t,0⟩) m m,.ptr none] 116 0 true 0),(t,.cells (blsE m) 4 0 true 0)]) (by omega) (by simp[zXT]) (by simp[zWN,lkp]) (by simp[hbz];omega);simp only[List.cons_append,List.nil_append] at hx
 exact zWX hQ (by omega) hx.1.below (by simp[EV.bel,zQX]) ⟨rfl,hx.1,hx.2,rfl,⟨by omega,by simp[lkp]⟩⟩
theorem rhopen_c (G:List Gl) [hB:Bg t B] {pl hp y m lv:Nat} (hh:zFQ B t pl hp y m lv (.ptr none)):EffW G Tryz.prog 43 [.ptr (some ⟨hp,0⟩)] t [] B 0 (.bool false) [] B 0:=by
 have hH:=AtG.f hh;refine EffW.enter fun Q hQ=>?_
 simp only[List.nil_append,Nat.add_zero];refine zQV 18 [.tmp 2] Tryz.func43 ?_
 repeat' (first|refine zQQ 5 ?_|(refine stp ?_;simp only[go_sem,hH])|fail)
 (refine zQN hQ [] ?_ ?_ ?_<;>(simp))
theorem rhload_c (G:List Gl) [hB:Bg t B] {pl hp y m lv:Nat} (hh:zFQ B t pl hp y m lv (.ptr none)) (hm:m≤100000) (hpt:pl<t):EffR G Tryz.prog 19 [.ptr (some ⟨hp,0⟩),.slice none 0 0] B t (fun v bl nx=>v=.int .i64 0∧Bg nx bl∧nx=t+1∧(∀ j,j<t→j ≠ hp→lkp bl j=lkp B j)∧zFQ bl nx pl hp y m t (.ptr none)):=by
 have hH:=AtG.f hh;have hht:=AtG.lt hh;have hop:=rhopen_c B G hh;refine EffR.enter fun Q hQ=>?_
 refine zQV 55 [.tmp 4] Tryz.func19 ?_
 repeat' (first|refine zQQ 17592186175859 ?_|refine zQW ?_|(refine stp ?_;simp only[go_sem,hH])|(refine EffW.at (hop ) [] rfl (by first|(simp[hht,zQR hht];done)|fail) ?_;(try simp only[go_sem]))|((refine zZW ?_;unfold zZD);simp only[go_sem])|(refine zZM 17592186175859 1 ?_;simp only[go_sem])|(refine zQT ?_ ?_;focus omega))
 have hbz:=zFM m;obtain ⟨b1,b2,b3⟩:=Bg.turn (B:=B) (t:=t) (t':=t+1) (r:=hp) (o:=.cells [.ptr (some ⟨pl,0⟩),.int .i64 y,.int .i64 m,.slice (some ⟨t,0⟩) m m,.ptr none] 116 0 true 0) (X:=[(t,.cells (blsE m) 4 0 true 0)]) (by omega) (by simp[zXT]) (by simp[zWN,lkp]) (by simp[hbz]) (by simp[EO.bel,zQX,EV.bel];omega);simp only[List.cons_append,List.nil_append] at b1 b2 b3
 exact zWX hQ (by omega) b1.below (by simp[EV.bel]) ⟨rfl,b1,rfl,b2,⟨by omega,b3 _ hht hh.lk⟩⟩
theorem rhbegin_c (G:List Gl) [hB:Bg t B] (hd:RefG B t r la n xs) {lg pl hp x m y k lv:Nat} (hl:yXD B t r lg x m) (hx:x+8≤64*n) (hm:m≤4194304) (hp_:zBS B t r lg pl (.ptr none)) (hh:zFQ B t pl hp y k lv (.ptr none)) (hk:k≤100000) (hlv:lv<t) (hne:hp ≠ pl):EffR G Tryz.prog 51 [.ptr (some ⟨hp,0⟩)] B t (fun v bl nx=>(∃ w,v=.tuple [.ptr (some ⟨w,0⟩),.int .i64 0]∧w<nx)∧Bg nx bl∧t≤nx∧(∀ j,j<t→j ≠ pl→j ≠ hp→lkp bl j=lkp B j)):=by
 have hH:=AtG.f hh;have hht:=AtG.lt hh;have hpt:=AtG.lt hp_;have htb:=rtbegin_c B G hd hl hx hm hp_;refine EffR.enter fun Q hQ=>?_
 refine zQV 38 [.tmp 2,.tmp 3] Tryz.func51 ?_
 repeat' (first|refine zQQ 32829 ?_|(refine stp ?_;simp only[go_sem,hH])|(refine EffR.at htb ?_)|(simp only[go_sem])|fail)
 rintro v B1 nx ⟨rfl,hB1,hnx,hsame⟩
 haveI:=hB1;have hh1:zFQ B1 nx pl hp y k lv (.ptr none):=⟨by omega,by rw[hsame hp hht hne];exact hh.lk⟩;have hH1:=AtG.f hh1;have htn:t<nx:=by omega
 repeat' (first|refine zQQ 32829 ?_|(refine stp ?_;simp only[go_sem,hH1,zWF,Option.map_some])|(refine zWV (id:=4) mixed [(0,[]),(1,[]),(2,[]),(3,[]),(4,[]),(5,[]),(8,[]),(9,[]),(10,[]),(6,[]),(11,[]),(7,[]),(12,[]),(13,[]),(14,[]),(15,[]),(16,[]),(17,[])] (by kernel_rfl) ?_;simp only[go_sem,hH1])|(refine zQT ?_ ?_;focus omega))
 have hbz:=zFM k;obtain ⟨b1,b2,b3⟩:=Bg.turn (B:=B1) (t:=nx) (t':=nx+18) (r:=hp) (o:=.cells [.ptr (some ⟨pl,0⟩),.int .i64 y,.int .i64 k,.slice (some ⟨lv,0⟩) k k,.ptr (some ⟨nx+14,0⟩)] 116 0 true 0) (X:=[(nx+14,.cells [.ptr (some ⟨hp,0⟩),.ptr (some ⟨t,0⟩),.slice (some ⟨nx+7,0⟩) k k,.slice (some ⟨nx+12,0⟩) k k,.bool false] 166 0 true 0),(nx+12,.cells (blsE k) 4 0 true 0),(nx+7,.cells (blsE k) 4 0 true 0)]) (by omega) (by simp[zXT]) (by simp[zWN,lkp]) (by simp[hbz];omega) (by simp[EO.bel,zQX,EV.bel];omega);simp only[List.cons_append,List.nil_append] at b1 b2 b3
 exact zWX hQ (by omega) b1.below (by simp[EV.bel,zQX]) ⟨⟨_,rfl,by omega⟩,b1,by omega,fun j hj h1 h2=>(b2 j (by omega) h2).trans (hsame j hj h1)⟩
end
section
variable (B:List (Nat × EO)) {t:Nat}
def tyE:EO→Nat
 | .cells _ ty _ true _=>ty
 | _=>0
structure Keep (bad:List Nat) (B:List (Nat × EO)) (t:Nat) (B':List (Nat × EO)) (t':Nat):Prop where
 le:t≤t'
 keep:∀ {b:Nat} {o:EO},AtG B t b o→tyE o ∉ bad→AtG B' t' b o
theorem Keep.of {bad:List Nat} {B B':List (Nat × EO)} {t t':Nat} (e:Ext B t B' t'):Keep bad B t B' t':=⟨e.le,fun h _=>h.mono e⟩
theorem Keep.trans {bad:List Nat} {B B1 B2:List (Nat × EO)} {t t1 t2:Nat} (h:Keep bad B t B1 t1) (k:Keep bad B1 t1 B2 t2):Keep bad B t B2 t2:=⟨Nat.le_trans h.le k.le,fun a hb=>k.keep (h.keep a hb) hb⟩
theorem Keep.of1 {bad:List Nat} {B B':List (Nat × EO)} {t t' p:Nat} {o1:EO} (h1:AtG B t p o1) (ht:t≤t') (hs:∀ j,j<t→j ≠ p→lkp B' j=lkp B j) (hb:tyE o1∈bad):Keep bad B t B' t':=
 ⟨ht,fun {b o} h hn=>⟨Nat.lt_of_lt_of_le h.lt ht,(hs b h.lt fun e=>hn (by
  have:o1=o:=by have:=h1.lk;rw[← e,h.lk] at this;exact (Option.some.inj this).symm
  rw[← this];exact hb)).trans h.lk⟩⟩
theorem Keep.of2 {bad:List Nat} {B B':List (Nat × EO)} {t t' p q:Nat} {o1 o2:EO} (h1:AtG B t p o1) (h2:AtG B t q o2) (ht:t≤t') (hs:∀ j,j<t→j ≠ p→j ≠ q→lkp B' j=lkp B j) (hb1:tyE o1∈bad) (hb2:tyE o2∈bad):Keep bad B t B' t':=
 ⟨ht,fun {b o} h hn=>⟨Nat.lt_of_lt_of_le h.lt ht,(hs b h.lt (fun e=>hn (by
  have:o1=o:=by have:=h1.lk;rw[← e,h.lk] at this;exact (Option.some.inj this).symm
  rw[← this];exact hb1)) (fun e=>hn (by
  have:o2=o:=by have:=h2.lk;rw[← e,h.lk] at this;exact (Option.some.inj this).symm
  rw[← this];exact hb2))).trans h.lk⟩⟩
theorem DevG.keep {bad:List Nat} {B B':List (Nat × EO)} {t t' d a n:Nat} {lns:List Nat} (h:DevG B t d a n lns) (k:Keep bad B t B' t') (hb:∀ y∈[120,127,124],y ∉ bad):DevG B' t' d a n lns:=
 ⟨k.keep h.dev (hb _ (by simp[tyE])),k.keep h.arr (hb _ (by simp[tyE])),h.len,fun b hb'=>k.keep (h.ln b hb') (hb _ (by simp[tyE])),h.pos,h.top⟩
theorem RefG.keep {bad:List Nat} {B B':List (Nat × EO)} {t t' r la n:Nat} {xs:List Nat} (h:RefG B t r la n xs) (k:Keep bad B t B' t') (hb:∀ y∈[103,107,56,5],y ∉ bad):RefG B' t' r la n xs:=
 ⟨k.keep h.dev (hb _ (by simp[tyE])),k.keep h.arr (hb _ (by simp[tyE])),h.len,fun x hx=>by
  obtain ⟨y,q1,q2⟩:=h.ln x hx;exact ⟨y,k.keep q1 (hb _ (by simp[tyE])),k.keep q2 (hb _ (by simp[tyE]))⟩,h.pos,h.top⟩
abbrev pE (b:Nat):EV:=.ptr (some ⟨b,0⟩)
end
section
theorem Keep.wk {bad bad':List Nat} {B B':List (Nat × EO)} {t t':Nat} (h:Keep bad B t B' t') (hb:∀ x∈bad,x∈bad'):Keep bad' B t B' t':=⟨h.le,fun a hn=>h.keep a fun q=>hn (hb _ q)⟩
structure WorkG (B:List (Nat × EO)) (t d a n:Nat) (lns:List Nat) (lg pl hp nb lv pu:Nat):Prop where
 dev:DevG B t d a n lns
 log:xTG B t d lg 128 16384
 pool:zFW B t d lg pl (.ptr (some ⟨pu+1,0⟩))
 heap:yJJ B t pl hp 16512 nb lv (.ptr (some ⟨pu+4,0⟩))
 live:AtG B t lv (.map [])
 put:AtG B t pu (.map [])
 txn:AtG B t (pu+1) (.cells [.ptr (some ⟨pl,0⟩),.map (some pu),.bool false] 221 0 true 0)
 tk:AtG B t (pu+2) (.map [])
 gv:AtG B t (pu+3) (.map [])
 wk:AtG B t (pu+4) (.cells [.ptr (some ⟨hp,0⟩),.ptr (some ⟨pu+1,0⟩),.map (some (pu+2)),.map (some (pu+3)),.int .i64 0,.bool false] 179 0 true 0)
 ord:(∀ b∈lns,b<a)∧a<d∧d<lg∧lg<pl∧pl<hp∧hp<lv∧lv<pu
 nd:lns.Nodup
variable (B:List (Nat × EO)) {t:Nat}
end
end Go.Proofs.YtncphnpndkjkaaaGreatDoor
