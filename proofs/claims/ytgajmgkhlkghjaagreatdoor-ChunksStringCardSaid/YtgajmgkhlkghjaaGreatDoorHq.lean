/-
  Own work: a part of the proof that the last text closes.
-/
import Derived.Test.YtgajmgkhlkghjaaGreatDoorHp
namespace Go.Proofs.YtgajmgkhlkghjaaGreatDoor
open Go.E
set_option linter.all false
set_option maxRecDepth 100000
set_option maxHeartbeats 16000000
section
theorem cutL_g {B:List (Nat × EO)} {t j:Nat} [h:Bg t B]:E.cutL (t+j) B=B:=cutL_all (by rw[Bg.blBelow];trivial)
theorem cutL_g0 {B:List (Nat × EO)} {t:Nat} [h:Bg t B]:E.cutL t B=B:=cutL_all h.below
theorem keysLt_g {B:List (Nat × EO)} {t j:Nat} [h:Bg t B]:keysLt (t+j) B=True:=eq_true (keysLt_of (by rw[Bg.blBelow];trivial))
attribute [go_sem] cutL_g cutL_g0 keysLt_g
attribute [simp] keysLt_g
structure AtG (B:List (Nat × EO)) (t b:Nat) (o:EO):Prop where
 lt:b<t
 lk:lkp B b=some o
theorem AtG.mono {B B':List (Nat × EO)} {t t' b:Nat} {o:EO} (h:AtG B t b o) (e:Ext B t B' t'):AtG B' t' b o:=⟨Nat.lt_of_lt_of_le h.lt e.le,(e.same b h.lt).trans h.lk⟩
theorem AtG.f {B:List (Nat × EO)} {t b:Nat} {o:EO} (ha:AtG B t b o):lkp B b=some o∧(∀ k,(b<t+k)=True)∧(b<t)=True∧(t=b)=False∧∀ k,(t+k=b)=False:=by
 have h1:=ha.lt;refine ⟨ha.lk,fun k=>?_,?_,?_,fun k=>?_⟩<;>simp<;>omega
theorem Bg.above {B:List (Nat × EO)} {t:Nat} [h:Bg t B] {t':Nat} {X:List (Nat × EO)} (ht:t≤t') (hX:keysGe t X) (hk:keysOK X) (hb:blBelow t' X):Bg t' (X++B)∧Ext B t (X++B) t':=by
 refine ⟨⟨blBelow_append hb (blBelow_of fun i o hm=>by
   obtain ⟨h1,h2⟩:=blBelow_mem h.below hm;exact ⟨by omega,EO.bel_mono ht o h2⟩),?_⟩,ht,fun i hi=>by rw[lkp_append,keysGe_none hX hi];rfl⟩
 clear hb
 induction X with
 | nil=>exact h.keys
 | cons y r ih=>
   obtain ⟨b,o⟩:=y;refine ⟨?_,ih hX.2 hk.2⟩;show E.lkp (r++B) b=none;rw[lkp_append,hk.1];exact h.none hX.1
theorem Bg.up {B:List (Nat × EO)} {t:Nat} [h:Bg t B] {t':Nat} (ht:t≤t'):Bg t' B∧Ext B t B t':=by
 have:=Bg.above (B:=B) (t:=t) (t':=t') (X:=[]) ht trivial trivial trivial
 rwa [List.nil_append] at this
def lnE (l:List Nat):List EV:=l.flatMap fun b=>[.slice (some ⟨b,0⟩) 1 1,.int .i64 (-1)]
def lzE (n:Nat):List EV:=zerosE [.slice none 0 0,.int .i64 0] n
theorem lnE_length (l:List Nat):(lnE l).length=l.length*2:=by
 induction l with
 | nil=>rfl
 | cons x l ih=>simp only[lnE,List.flatMap_cons,List.length_append,List.length_cons,List.length_nil] at ih ⊢;omega
theorem lzE_length (n:Nat):(lzE n).length=n*2:=by simp[lzE,zerosE_length]
theorem lnE_append (a b:List Nat):lnE (a++b)=lnE a++lnE b:=by simp[lnE]
theorem lnE_one (l:List Nat):(lnE l).all EV.one=true:=by
 induction l with
 | nil=>rfl
 | cons x l ih=>simp only[lnE,List.flatMap_cons,List.all_append,ih] at ih ⊢;simp[EV.one]
theorem lnE_below {l:List Nat} {k:Nat} (h:∀ b∈l,b<k):zQX k (lnE l):=allBelow_flat fun b hb=>by simp[zQX,EV.bel];exact h b hb
theorem lzE_below:∀ (n k:Nat),zQX k (lzE n)
 | 0,_=>trivial
 | n+1,k=>by
   unfold lzE;rw[zerosE,zWX];exact ⟨by simp[zQX,EV.bel],lzE_below n k⟩
theorem lnE_ren {π:Nat→Nat}:∀ {l:List Nat},(∀ b∈l,π b=b)→renL π (lnE l)=lnE l
 | [],_=>rfl
 | x::l,h=>by
   have:=lnE_ren (π:=π) (l:=l) fun b hb=>h b (List.mem_cons_of_mem _ hb)
   have hx:=h x (List.mem_cons_self ..);unfold lnE at this ⊢
   rw[List.flatMap_cons,renL_append,this];simp[EV.ren,renL,hx]
theorem lzE_ren (π:Nat→Nat):∀ n,renL π (lzE n)=lzE n
 | 0=>rfl
 | n+1=>by
   have:=lzE_ren π n;unfold lzE at this ⊢
   rw[zerosE,renL_append,this];rfl
theorem lnE_put (l:List Nat) (T n:Nat):putL (lnE l++lzE (n+1)) (l.length*2) [.slice (some ⟨T,0⟩) 1 1,.int .i64 (-1)]=lnE (l++[T])++lzE n:=by
 have h1:=lnE_length l;unfold putL;rw[List.take_left' h1,List.drop_append,List.drop_of_length_le (by rw[h1];simp),List.nil_append,lnE_append];have e:lzE (n+1)=[.slice none 0 0,.int .i64 0]++lzE n:=by unfold lzE;rfl
 rw[e,h1];simp[lnE]
variable (B:List (Nat × EO)) {t:Nat}
theorem pfits_c (G:List Gl) (n:Nat) (h1:64≤n) (h2:n≤4194304) (h3:n % 64=0):E.Pure G Tryz.prog 129 [.int .i64 n] (.bool true):=by
 refine pure_hid fun V hV=>?_
 have e1:((n:Int) % 64)=0:=by omega
 refine zQV 14 [.tmp 2] Tryz.func129 ?_
 repeat' (first|refine zQQ 5 ?_|(refine stp ?_;simp only[go_sem])|(simp only[go_sem,e1])|(simp (disch:=omega) only[zQK,wrapU8E,wrapU16E,wrapU32E,wrapU64E,wrapI32E,tdivE,tmodE])|(refine spl (fun h=>?_) (fun h=>?_)<;>first|omega|((try simp only[opRun]);(try simp only[go_sem,h])))|fail)
 all_goals (refine done_zero (by simp[EV.bel]) ?_;rw[hV])
theorem pnew_c (G:List Gl) [hB:Bg t B] (n:Nat) (h1:1≤n) (h2:n≤65536) :
  EffR G Tryz.prog 90 [.int .i64 (64*n:Nat)] B t (fun v bl nx=>∃ B' T lns,v=.tuple [.ptr (some ⟨T+1,0⟩),.int .i64 0]∧nx=T+2∧bl=(T+1,.cells [.slice (some ⟨T,0⟩) n n,.int .i64 0,.slice none 0 0,.int .i64 0,.bool false] 179 0 true 0)::(T,.cells (lnE lns) 185 0 true 0)::B'∧Bg T B'∧Ext B t B' T∧lns.length=n∧(∀ b∈lns,AtG B' T b lineZ∧t≤b)∧lns.Nodup):=by
 have hfi:=pfits_c G (64*n) (by omega) (by omega) (by omega);have e1:((64*n:Nat):Int) / 64=(n:Int):=by omega
 refine EffR.enter fun Q hQ=>?_
 refine zQV 33 [.tmp 2,.tmp 3] Tryz.func90 ?_
 repeat' (first|refine zQQ 1835325 ?_|refine zQW ?_|(refine stp ?_;simp only[go_sem])|(refine Pure.at (hfi) (by simp) (by simp) rfl ?_;(try simp only[go_sem]))|((refine eop_makeSlice ?_;unfold eMakeSlice);simp only[go_sem])|(simp only[go_sem,e1])|(simp (disch:=omega) only[zQK,tdivE])|(refine zQP ?_ ?_;focus omega))
 refine zWV (fun z:Nat × List Nat × List (Nat × EO) × Nat=>[(4,.ptr (some ⟨z.2.2.2+1,0⟩)),(18,.int .i64 n),(19,.int .i64 z.1)]) (fun z:Nat × List Nat × List (Nat × EO) × Nat=>(z.2.2.2+1,.cells [.slice (some ⟨z.2.2.2,0⟩) n n,.int .i64 0,.slice none 0 0,.int .i64 0,.bool false] 179 0 true 0)::(z.2.2.2,.cells (lnE z.2.1++lzE (n - z.1)) 185 0 true 0)::z.2.2.1) (fun z:Nat × List Nat × List (Nat × EO) × Nat=>z.2.2.2+2) (fun z:Nat × List Nat × List (Nat × EO) × Nat=>z.1≤n∧z.2.1.length=z.1∧Bg z.2.2.2 z.2.2.1∧Ext B t z.2.2.1 z.2.2.2∧(∀ b∈z.2.1,AtG z.2.2.1 z.2.2.2 b lineZ∧t≤b)∧z.2.1.Nodup) (fun z:Nat × List Nat × List (Nat × EO) × Nat=>n - z.1) ((0,[],B,t)) ?_ ?_ ?_ ?_ ?_
 ·rintro ⟨i,l,B',T⟩ ⟨hi,hl,hB',he,hal,-⟩
  haveI:=hB';have h5:t≤T:=he.le;refine ⟨by simp[frBel],?_,by show t≤T+2;omega⟩;have hb1:zQX (T+2) (lnE l):=lnE_below fun b hb=>by have:=(hal b hb).1.lt;simp only at this ⊢;omega
  simp[hb1,lzE_below,zWX]
 ·exact ⟨Nat.zero_le _,rfl,hB,Ext.refl _ _,fun b hb=>absurd hb (by simp),List.nodup_nil⟩
 ·simp only[go_sem,zWQ]
 ·simp only[go_sem,lessL];rfl
 ·rintro ⟨i,l,B',T⟩ ⟨hi,hl,hB',he,hal,hnd⟩
  simp only at hi hl hB' he hal hnd ⊢
  haveI:=hB';have h5:t≤T:=he.le;have hll:=lnE_length l;have hzl:=lzE_length (n - i)
  rcases Nat.lt_or_ge i n with hin | hin
  ·obtain ⟨d,hd⟩:∃ d,n - i=d+1:=⟨n - i - 1,by omega⟩;have hput:=lnE_put l (T+2) d;rw[hl] at hput
   rw[hd] at hzl ⊢
   have hlt:∀ b∈l,b<T:=fun b hb=>(hal b hb).1.lt
   repeat' (first|refine zQQ 1835325 ?_|refine zQW ?_|(refine stp ?_;simp only[go_sem,hll,hzl,hl,List.length_append])|(simp (disch:=omega) only[zQK])|(refine spl (fun h=>?_) (fun h=>?_)<;>first|omega|try simp only[go_sem,h])|(refine zQP ?_ ?_;focus omega))
   have hd2:n - (i+1)=d:=by omega
   have hre:renL (nam T [T+2,T,T+1]) (lnE (l++[T]))=lnE (l++[T+2]):=by
    rw[lnE_append,lnE_append,renL_append,lnE_ren fun b hb=>by simp only[nam];rw[if_pos (hlt b hb)]];simp[lnE,renL,EV.ren,nam]
   have hbe:∀ k,zQX (T+1+k) (lnE (l++[T]))=True:=fun k=>eq_true (lnE_below fun b hb=>by
    rcases List.mem_append.1 hb with q | q
    ·have:=hlt b q;omega
    ·simp at q;omega)
   have hbz:∀ k m,zQX k (lzE m)=True:=fun k m=>eq_true (lzE_below m k)
   have hx:=Bg.above (B:=B') (t:=T) (t':=T+1) (X:=[(T,lineZ)]) (by omega) (by simp[keysGe]) (by simp[keysOK,lkp]) (by simp);simp only[List.cons_append,List.nil_append] at hx
   haveI:=hx.1;have hT2:T+1+1=T+2:=rfl
   (refine ⟨(i+1,l++[T],(T,lineZ)::B',T+1),T,[T+2,T,T+1],?_,?_,rfl,rfl,?_,⟨?_,rfl,?_,?_,?_,?_,?_⟩⟩;rotate_left;(focus (simp only[];omega));(focus (simp[go_sem,zWQ,hT2]));(focus (omega));(focus simp);(focus (simp));(focus (simp only[];omega));(focus (simp[Nat.add_assoc,hT2,hd2,hbe 2,hbz,zWX]));(focus (simp[hT2,hd2,hre,lzE_ren,renL_append])))
   ·exact hput
   refine ⟨hin,by rw[List.length_append,hl];rfl,hx.1,he.trans hx.2,fun b hb=>?_,?_⟩
   ·rcases List.mem_append.1 hb with q | q
    ·exact ⟨(hal b q).1.mono hx.2,(hal b q).2⟩
    ·obtain rfl:b=T:=by simpa using q
     exact ⟨⟨Nat.lt_succ_self _,by simp[lkp]⟩,h5⟩
   ·refine List.nodup_append.2 ⟨hnd,by simp,fun a ha c hc e=>?_⟩;have h6:=hlt a ha;obtain rfl:c=T:=by simpa using hc
    omega
  ·obtain rfl:i=n:=by omega
   repeat' (first|refine zQQ 1835325 ?_|(refine stp ?_;simp only[go_sem])|(refine spl (fun h=>?_) (fun h=>?_)<;>first|omega|try simp only[go_sem,h])|fail)
   have hb1:zQX (T+2) (lnE l):=lnE_below fun b hb=>by have:=(hal b hb).1.lt;omega
   rw[show lnE l++lzE (i - i)=lnE l by rw[Nat.sub_self];show lnE l++[]=_;rw[List.append_nil]];exact zWJ hQ (by omega) (by simp[hb1]) (by simp[EV.bel,zQX]) ⟨B',T,l,rfl,rfl,rfl,hB',he,hl,hal,hnd⟩
end
section
structure DevG (B:List (Nat × EO)) (t d a n:Nat) (lns:List Nat):Prop where
 dev:AtG B t d (.cells [.slice (some ⟨a,0⟩) n n,.int .i64 0,.slice none 0 0,.int .i64 0,.bool false] 179 0 true 0)
 arr:AtG B t a (.cells (lnE lns) 185 0 true 0)
 len:lns.length=n
 ln:∀ b∈lns,AtG B t b lineZ
 pos:1≤n
 top:n≤65536
theorem DevG.mono {B B':List (Nat × EO)} {t t' d a n:Nat} {lns:List Nat} (h:DevG B t d a n lns) (e:Ext B t B' t'):DevG B' t' d a n lns:=⟨h.dev.mono e,h.arr.mono e,h.len,fun b hb=>(h.ln b hb).mono e,h.pos,h.top⟩
theorem lnE_get {l:List Nat} {i b:Nat} (h:l[i]? = some b):(lnE l)[2*i]? = some (.slice (some ⟨b,0⟩) 1 1)∧(lnE l)[2*i+1]? = some (.int .i64 (-1)):=by
 induction l generalizing i with
 | nil=>simp at h
 | cons x l ih=>
   have e:lnE (x::l)=.slice (some ⟨x,0⟩) 1 1 :: .int .i64 (-1)::lnE l:=rfl
   cases i with
   | zero=>simp at h;subst h;exact ⟨rfl,rfl⟩
   | succ i=>
     obtain ⟨q1,q2⟩:=ih (by simpa using h);rw[e];exact ⟨by rw[show 2*(i+1)=2*i+1+1 by omega];simpa using q1,by rw[show 2*(i+1)+1=2*i+1+1+1 by omega];simpa using q2⟩
variable (B:List (Nat × EO)) {t d a n:Nat} {lns:List Nat}
theorem gnone_c (G:List Gl) [hB:Bg t B] (hd:DevG B t d a n lns):EffW G Tryz.prog 131 [.ptr (some ⟨d,0⟩)] t [] B 0 (.bool false) [] B 0:=by
 have h1:=hd.pos;have h2:=hd.top;have hD:=hd.dev.f;refine EffW.enter fun Q hQ=>?_
 simp only[List.nil_append,Nat.add_zero];refine zQV 13 [.tmp 2] Tryz.func131 ?_
 repeat' (first|refine zQQ 5 ?_|(refine stp ?_;simp only[go_sem,hD])|fail)
 (refine done_W2 hQ [] ?_ ?_ ?_<;>(first|(simp;done)|(simp;omega)))
theorem gsize_c (G:List Gl) [hB:Bg t B] (hd:DevG B t d a n lns):EffW G Tryz.prog 92 [.ptr (some ⟨d,0⟩)] t [] B 0 (.int .i64 (64*n:Nat)) [] B 0:=by
 have h1:=hd.pos;have h2:=hd.top;have hD:=hd.dev.f;have hdt:=hd.dev.lt;have hno:=gnone_c B G hd;refine EffW.enter fun Q hQ=>?_
 simp only[List.nil_append,Nat.add_zero];refine zQV 11 [.tmp 2] Tryz.func92 ?_
 repeat' (first|refine zQQ 21 ?_|(refine stp ?_;simp only[go_sem,hD])|(refine EffW.at (hno ) [] rfl (by first|(simp[hdt,zWW hdt];done)|fail) ?_;(try simp only[go_sem]))|(simp (disch:=omega) only[zQK])|fail)
 rw[show (n:Int)*64=((64*n:Nat):Int) by omega]
 (refine done_W2 hQ [] ?_ ?_ ?_<;>(simp))
theorem goff_c (G:List Gl) [hB:Bg t B] (hd:DevG B t d a n lns):EffW G Tryz.prog 167 [.ptr (some ⟨d,0⟩)] t [] B 0 (.bool false) [] B 0:=by
 have hD:=hd.dev.f;have hdt:=hd.dev.lt;have hno:=gnone_c B G hd;refine EffW.enter fun Q hQ=>?_
 simp only[List.nil_append,Nat.add_zero];refine zQV 12 [.tmp 2] Tryz.func167 ?_
 repeat' (first|refine zQQ 5 ?_|(refine stp ?_;simp only[go_sem])|(refine EffW.at (hno ) [] rfl (by first|(simp[hdt,zWW hdt];done)|fail) ?_;(try simp only[go_sem,hD]))|fail)
 (refine done_W2 hQ [] ?_ ?_ ?_<;>(simp))
theorem gready_c (G:List Gl) [hB:Bg t B] (hd:DevG B t d a n lns) (x m:Nat) (hx:x+m≤64*n):EffW G Tryz.prog 170 [.ptr (some ⟨d,0⟩),.int .i64 x,.int .i64 m] t [] B 0 (.int .i64 0) [] B 0:=by
 have h1:=hd.pos;have h2:=hd.top;have hD:=hd.dev.f;have hdt:=hd.dev.lt;have hno:=gnone_c B G hd;have hsi:=gsize_c B G hd;refine EffW.enter fun Q hQ=>?_
 simp only[List.nil_append,Nat.add_zero];refine zQV 36 [.tmp 6] Tryz.func170 ?_
 repeat' (first|refine zQQ 33991 ?_|refine zQW ?_|(refine stp ?_;simp only[go_sem,hD])|(refine EffW.at (hno ) [] rfl (by first|(simp[hdt,zWW hdt];done)|fail) ?_;(try simp only[go_sem]))|(refine EffW.at (hsi ) [] rfl (by first|(simp[hdt,zWW hdt];done)|fail) ?_;(try simp only[go_sem]))|(simp (disch:=omega) only[zQK])|(refine spl (fun h=>?_) (fun h=>?_)<;>first|omega|((try simp only[opRun]);(try simp only[go_sem,h])))|fail)
 all_goals (refine done_W2 hQ [] ?_ ?_ ?_<;>(simp))
theorem gseen_c (G:List Gl) [hB:Bg t B] (hd:DevG B t d a n lns) (i:Nat) (hi:i<n):EffW G Tryz.prog 171 [.ptr (some ⟨a,2*i⟩)] t [] B 0 (.agg z8) [] B 0:=by
 have h1:=hd.len;obtain ⟨b,hb⟩:∃ b,lns[i]? = some b:=⟨lns[i]'(by omega),List.getElem?_eq_getElem _⟩;have hA:=hd.arr.f;have hl:=(hd.ln b (List.mem_of_getElem? hb)).f;obtain ⟨g1,g2⟩:=lnE_get hb;have g3:=lnE_length lns;refine EffW.enter fun Q hQ=>?_
 simp only[List.nil_append,Nat.add_zero];refine zQV 15 [.cell 2 182] Tryz.func171 ?_
 repeat' (first|refine zQQ 5 ?_|(refine stp ?_;simp only[go_sem])|(refine drawQ (id:=1) mixed [(0,[]),(1,[]),(2,[]),(4,[]),(5,[]),(6,[]),(3,[]),(7,[]),(8,[]),(9,[]),(10,[]),(11,[]),(12,[])] (by kernel_rfl) ?_;simp only[go_sem,g1,hA,hl])|fail)
 (refine done_W2 hQ [] ?_ ?_ ?_<;>(simp))
theorem gload_c (G:List Gl) [hB:Bg t B] (hd:DevG B t d a n lns) (x m:Nat) (hx:x+m≤64*n):EffW G Tryz.prog 134 [.ptr (some ⟨d,0⟩),.int .i64 x,.int .i64 m] t [] B 0 (.tuple [.slice (some ⟨t,0⟩) m m,.int .i64 0]) [(t,.cells (zQZ (zU m)) 5 0 true 0)] B 1:=by
 have h1:=hd.pos;have h2:=hd.top;have hD:=hd.dev.f;have hdt:=hd.dev.lt;have hat:=hd.arr.lt;have hre:=gready_c B G hd x m hx;refine EffW.enter fun Q hQ=>?_
 simp only[List.nil_append,Nat.add_zero];refine zQV 48 [.tmp 6,.tmp 7] Tryz.func134 ?_
 repeat' (first|refine zQQ 17047495 ?_|refine zQW ?_|(refine stp ?_;simp only[go_sem])|(refine EffW.at (hre ) [] rfl (by first|(simp[hdt,zWW hdt];done)|fail) ?_;(try simp only[go_sem]))|((refine eop_makeSlice ?_;unfold eMakeSlice);simp only[go_sem])|(refine zQP ?_ ?_;focus omega))
 refine esem_loopS (fun z:Nat=>[(0,.ptr (some ⟨d,0⟩)),(1,.int .i64 x),(2,.int .i64 m),(9,.slice (some ⟨t,0⟩) m m),(10,.int .i64 z)]) (fun z:Nat=>(t,.cells (zQZ (zU m)) 5 0 true 0)::B) (fun z:Nat=>t+1) (fun z:Nat=>z≤m) (fun z:Nat=>m - z) (0) (fun z hz=>⟨by simp[frBel,show d<t+1 by omega],by simp,by show t≤t+1;omega⟩) (by omega) (by simp only[go_sem,zWQ];done) ?_ ?_
 ·simp only[go_sem,lessL]
 intro z hz
 rcases Nat.lt_or_ge z m with hzn | hzn
 ·have e1:((x:Int)+z) / 64=(((x+z) / 64:Nat):Int):=by omega
  have e2:((x:Int)+z) % 64=(((x+z) % 64:Nat):Int):=by omega
  have e3:(x+z) / 64*2=2*((x+z) / 64):=by omega
  have e4:(lnE lns).length=2*n:=by rw[lnE_length,hd.len];omega
  have e6:(x+z) % 64+(64 - (x+z) % 64)=64:=by omega
  have e7:List.take (64 - (x+z) % 64) (List.drop ((x+z) % 64) (zQZ (zU 64)))=zQZ (zU (64 - (x+z) % 64)):=by
   rw[bytesE_drop,zU_drop,List.take_of_length_le];simp[zQY]
  have e8:List.take (min (64 - (x+z) % 64) (m - z)) (zQZ (zU (64 - (x+z) % 64)))=zQZ (zU (min (64 - (x+z) % 64) (m - z))):=by
   rw[bytesE_take];congr 1;simp only[zU,List.take_replicate];congr 1;omega
  have e9:=putL_zU m z (min (64 - (x+z) % 64) (m - z)) (by omega);have e5:=gseen_c B G hd ((x+z) / 64) (by omega)
  repeat' (first|refine zQQ 17047495 ?_|refine zQW ?_|(refine stp ?_;simp only[go_sem,hD,e6,e7,e8,e9,zQY,zU_length])|(refine drawQ (id:=9) mixed [(0,[]),(1,[]),(2,[]),(4,[]),(5,[]),(6,[]),(3,[]),(7,[]),(8,[]),(9,[]),(10,[])] (by kernel_rfl) ?_;simp only[go_sem])|(refine EffW.at (e5 ) [] rfl (by first|(simp[hat,zWW hat];done)|fail) ?_;(try simp only[go_sem]))|(refine Eff.at2 (bytes_c G ) [] rfl (by first|(simp;done)|fail) rfl ?_;(try simp only[go_sem]))|(simp only[go_sem,e1,e2,e3])|(simp (disch:=omega) only[zQK,tdivE,tmodE])|(refine spl (fun h=>?_) (fun h=>?_)<;>first|omega|try simp only[go_sem,h])|(refine zQP ?_ ?_;focus omega))
  (refine ⟨(z+min (64 - (x+z) % 64) (m - z)),?_,?_,rfl,rfl,?_,?_⟩;rotate_left;(focus (simp only[];omega));(focus ((try simp only[go_sem,zWQ]);((repeat' apply And.intro)<;>(rfl))));(focus (simp only[go_sem,lessL]));(try simp only[]))
  omega
 ·obtain rfl:z=m:=by omega
  repeat' (first|refine zQQ 17047495 ?_|(refine stp ?_;simp only[go_sem])|(refine spl (fun h=>?_) (fun h=>?_)<;>first|omega|try simp only[go_sem,h])|fail)
  all_goals (refine done_W2 hQ [t] ?_ ?_ ?_<;>(simp))
end
section
theorem leN_zU:∀ n,leN (zU n)=0
 | 0=>rfl
 | n+1=>by
   have:=leN_zU n;simp only[zU,List.replicate_succ,leN] at this ⊢
   rw[this];rfl
theorem take64Z (m q:Nat) (h:q+8≤m):take64E (zU m) q=.tuple [.int .u64 0,.int .i64 0]:=by
 unfold take64E;rw[if_pos (by rw[zU_length];exact h)];have e:((zU m).drop q).take 8=zU 8:=by
  simp only[zU,List.drop_replicate,List.take_replicate]
  congr 1;omega
 rw[e,leN_zU];rfl
theorem z8_set {k:Nat} (hk:k<8):z8.set k (.int .u64 0)=z8:=by
 rcases (show k=0∨k=1∨k=2∨k=3∨k=4∨k=5∨k=6∨k=7 by omega) with rfl | rfl | rfl | rfl | rfl | rfl | rfl | rfl<;>rfl
variable (B:List (Nat × EO)) {t:Nat}
theorem pfrom_c (G:List Gl) [hB:Bg t B] (n im cap z:Nat) (h1:1≤n) (h2:n≤65536) (him:AtG B t im (.cells (zQZ (zU (64*n))) 5 z true 0)) :
  EffR G Tryz.prog 54 [.slice (some ⟨im,0⟩) (64*n) cap] B t (fun v bl nx=>∃ B' d a lns,v=.tuple [.ptr (some ⟨d,0⟩),.int .i64 0]∧bl=B'∧Bg nx B'∧Ext B t B' nx∧DevG B' nx d a n lns∧(∀ b∈lns,t≤b∧b<a)∧a<d∧t≤a∧lns.Nodup):=by
 have himt:=him.lt;refine EffR.enter fun Q hQ=>?_
 refine zQV 55 [.tmp 2,.tmp 3] Tryz.func54 ?_
 repeat' (first|refine zQQ 103108641277 ?_|(refine stp ?_;simp only[go_sem])|(refine EffR.at (pnew_c B G n h1 h2) ?_)|(simp only[go_sem])|fail)
 rintro v bl nx ⟨B',T,lns,rfl,hnx,rfl,hB',he,hlen,hal,hnd⟩
 subst nx;haveI:=hB';have h3:=he.le;have hb1:zQX (T+2) (lnE lns):=lnE_below fun b hb=>by have:=(hal b hb).1.lt;omega
 have hx:=Bg.above (B:=B') (t:=T) (t':=T+2) (X:=[(T+1,.cells [.slice (some ⟨T,0⟩) n n,.int .i64 0,.slice none 0 0,.int .i64 0,.bool false] 179 0 true 0),(T,.cells (lnE lns) 185 0 true 0)]) (by omega) (by simp[keysGe]) (by simp[keysOK,lkp]) (by simp[hb1]);simp only[List.cons_append,List.nil_append] at hx
 have hdev:DevG ((T+1,.cells [.slice (some ⟨T,0⟩) n n,.int .i64 0,.slice none 0 0,.int .i64 0,.bool false] 179 0 true 0)::(T,.cells (lnE lns) 185 0 true 0)::B') (T+2) (T+1) T n lns:=
  ⟨⟨by omega,by simp[lkp]⟩,⟨by omega,by simp[lkp]⟩,hlen,fun b hb=>(hal b hb).1.mono hx.2,h1,h2⟩
 generalize (T+1,EO.cells [.slice (some ⟨T,0⟩) n n,.int .i64 0,.slice none 0 0,.int .i64 0,.bool false] 179 0 true 0)::(T,EO.cells (lnE lns) 185 0 true 0)::B'=B2 at hx hdev ⊢
 obtain ⟨T2,hT2⟩:∃ X,X=T+2:=⟨_,rfl⟩;rw[← hT2] at hx hdev ⊢
 obtain ⟨hB2,he2⟩:=hx;haveI:=hB2;have hdt:=hdev.dev.lt;have hatt:=hdev.arr.lt;have himt2:im<T2:=by omega
 have hD:=hdev.dev.f;have hA:=hdev.arr.f;have hI:=(him.mono (he.trans he2)).f;have g3:=lnE_length lns
 repeat' (first|refine zQQ 103108641277 ?_|refine zQW ?_|(refine stp ?_;simp only[go_sem,hD])|fail)
 refine zWV (fun i:Nat=>[(0,.slice (some ⟨im,0⟩) (64*n) cap),(4,.ptr (some ⟨T+1,0⟩)),(22,.int .i64 n),(23,.int .i64 i)]) (fun i:Nat=>B2) (fun i:Nat=>T2) (fun i:Nat=>i≤n) (fun i:Nat=>n - i) (0) ?_ ?_ ?_ ?_ ?_
 ·rintro i -
  exact ⟨by simp[frBel,hdt,himt2],(show blBelow T2 B2 from hB2.below),by show t≤T2;omega⟩
 ·exact Nat.zero_le _
 ·simp only[go_sem,zWQ]
 ·show lessL _ B2;simp only[go_sem]
 ·rintro i hi
  simp only at hi ⊢
  rcases Nat.lt_or_ge i n with hin | hin
  ·obtain ⟨b,hb⟩:∃ b,lns[i]? = some b:=⟨lns[i]'(by omega),List.getElem?_eq_getElem _⟩;have hbm:=List.mem_of_getElem? hb;have hl:=(hdev.ln b hbm).f;have hbt:=(hdev.ln b hbm).lt;obtain ⟨g1,g2⟩:=lnE_get hb;rw[Nat.mul_comm 2 i] at g1 g2
   repeat' (first|refine zQQ 103108641277 ?_|refine zQW ?_|(refine stp ?_;simp only[go_sem,hD,hA,g1])|(refine spl (fun h=>?_) (fun h=>?_)<;>first|omega|try simp only[go_sem,h])|(refine zQP ?_ ?_;focus omega))
   refine zWV (fun k:Nat=>[(0,.slice (some ⟨im,0⟩) (64*n) cap),(4,.ptr (some ⟨T+1,0⟩)),(22,.int .i64 n),(23,.int .i64 i),(6,.int .i64 i),(7,.ptr (some ⟨b,0⟩)),(35,.int .i64 k)]) (fun k:Nat=>B2) (fun k:Nat=>T2) (fun k:Nat=>k≤8) (fun k:Nat=>8 - k) (0) ?_ ?_ ?_ ?_ ?_
   ·rintro k -
    exact ⟨by simp[frBel,hdt,himt2,hbt],(show blBelow T2 B2 from hB2.below),by show t≤T2;omega⟩
   ·exact Nat.zero_le _
   ·simp only[go_sem,zWQ]
   ·show lessL _ B2;simp only[go_sem]
   ·rintro k hk
    simp only at hk ⊢
    rcases Nat.lt_or_ge k 8 with hk8 | hk8
    ·have htk:=take64_c G (zU (64*n)) [] (64*i+8*k) cap z 0 true (by omega) (by rw[zU_length];omega);rw[bytesE_nil,List.append_nil,take64Z _ _ (by omega),zU_length] at htk
     have e1:(i:Int)*64+(k:Int)*8=((64*i+8*k:Nat):Int):=by omega
     have hz:=z8_set hk8;have hse:=setL_same (hdev.ln b hbm).lk
     repeat' (first|(simp (disch:=omega) only[zQK,e1])|refine zQQ 103108641277 ?_|refine zQW ?_|(refine stp ?_;simp only[go_sem])|(refine drawQ (id:=11) mixed [(0,[]),(1,[]),(2,[]),(3,[]),(4,[]),(5,[]),(6,[]),(7,[]),(12,[]),(8,[]),(9,[]),(10,[]),(11,[]),(13,[]),(14,[])] (by kernel_rfl) ?_;simp only[go_sem])|(refine Eff.atR (htk ) rfl [im] rfl (by first|(simp[hI];done)|fail) rfl ?_;(try simp only[go_sem,hl,hz,hse]))|(refine spl (fun h=>?_) (fun h=>?_)<;>first|omega|try simp only[go_sem,h])|(refine zQP ?_ ?_;focus omega))
     (refine ⟨(k+1),T2,[],?_,?_,rfl,rfl,?_,⟨?_,rfl,?_,?_,?_,?_,?_⟩⟩;rotate_left;(focus (simp only[];omega));(focus (simp[go_sem,zWQ,hdt,himt2,hbt]));(focus (omega));(focus simp);(focus (simp));(focus (simp only[];omega));(focus (simp));(focus (simp));(try simp only[]))
     exact hk8
    ·obtain rfl:k=8:=by omega
     repeat' (first|refine zQQ 103108641277 ?_|(refine stp ?_;simp only[go_sem])|(simp (disch:=omega) only[zQK])|fail)
     (refine ⟨(i+1),T2,[],?_,?_,rfl,rfl,?_,⟨?_,rfl,?_,?_,?_,?_,?_⟩⟩;rotate_left;(focus (simp only[];omega));(focus (simp[go_sem,zWQ,hdt,himt2]));(focus (omega));(focus simp);(focus (simp));(focus (simp only[];omega));(focus (simp));(focus (simp));(try simp only[]))
     exact hin
  ·obtain rfl:i=n:=by omega
   repeat' (first|refine zQQ 103108641277 ?_|(refine stp ?_;simp only[go_sem])|(refine spl (fun h=>?_) (fun h=>?_)<;>first|omega|try simp only[go_sem,h])|fail)
   exact zWJ hQ (by omega) hB2.below (by simp[EV.bel,zQX,hdt]) ⟨B2,T+1,T,lns,rfl,rfl,hB2,he.trans he2,hdev,fun b hb=>⟨(hal b hb).2,(hal b hb).1.lt⟩,by omega,h3,hnd⟩
end
section
variable (B:List (Nat × EO)) {t d a n:Nat} {lns:List Nat}
theorem lopen_c (G:List Gl) [hB:Bg t B] (hd:DevG B t d a n lns) (x m:Nat) (h1:64≤x) (h2:x % 64=0) (h3:128≤m) (h4:m % 64=0) (h5:x+m≤64*n) :
  EffW G Tryz.prog 56 [.ptr (some ⟨d,0⟩),.int .i64 x,.int .i64 m] t [] B 0 (.tuple [.ptr (some ⟨t,0⟩),.int .i64 0]) [(t,.cells [.ptr (some ⟨d,0⟩),.int .i64 x,.int .i64 m] 188 0 true 0)] B 1:=by
 have q1:=hd.pos;have q2:=hd.top;have hdt:=hd.dev.lt;have hsi:=gsize_c B G hd;have e1:(x:Int) % 64=0:=by omega
 have e2:(m:Int) % 64=0:=by omega
 refine EffW.enter fun Q hQ=>?_
 simp only[List.nil_append,Nat.add_zero];refine zQV 48 [.tmp 6,.tmp 7] Tryz.func56 ?_
 repeat' (first|refine zQQ 18887 ?_|refine zQW ?_|(refine stp ?_;simp only[go_sem])|(refine EffW.at (hsi ) [] rfl (by first|(simp[hdt,zWW hdt];done)|fail) ?_;(try simp only[go_sem]))|(simp only[go_sem,e1,e2])|(simp (disch:=omega) only[zQK,tmodE])|(refine spl (fun h=>?_) (fun h=>?_)<;>first|omega|((try simp only[opRun]);(try simp only[go_sem,h])))|fail)
 refine done_W2 hQ [t] ?_ ?_ ?_<;>(first|(simp[hdt];done)|(simp;omega))
theorem alive_c (G:List Gl) [hB:Bg t B] (hd:DevG B t d a n lns):EffW G Tryz.prog 168 [.ptr (some ⟨d,0⟩)] t [] B 0 (.int .i64 0) [] B 0:=by
 have hdt:=hd.dev.lt;have hlo:=gload_c B G hd 0 0 (by omega);refine EffW.enter fun Q hQ=>?_
 simp only[List.nil_append,Nat.add_zero];refine zQV 11 [.tmp 2] Tryz.func168 ?_
 repeat' (first|refine zQQ 21 ?_|(refine stp ?_;simp only[go_sem])|(refine EffW.at (hlo ) [] rfl (by first|(simp[hdt,zWW hdt];done)|fail) ?_;(try simp only[go_sem]))|fail)
 (refine done_W2 hQ [] ?_ ?_ ?_<;>(simp))
theorem field_c (G:List Gl) [hB:Bg t B] (hd:DevG B t d a n lns) (x:Nat) (hx:x+8≤64*n):EffW G Tryz.prog 169 [.agg [.int .i64 x],.ptr (some ⟨d,0⟩)] t [] B 0 (.tuple [.int .u64 0,.int .i64 0]) [] B 0:=by
 have hdt:=hd.dev.lt;have q2:=hd.top;have hlo:=gload_c B G hd x 8 hx;have hpu:=putN64_c G 0 (by omega);have htk:=take64_c G (zU 8) [] 0 8 0 0 true (by omega) (by decide);rw[bytesE_nil,List.append_nil,take64Z _ _ (by omega),zU_length,show ((0:Nat):Int)=0 from rfl] at htk
 refine EffW.enter fun Q hQ=>?_
 simp only[List.nil_append,Nat.add_zero];refine zQV 26 [.tmp 4,.tmp 5] Tryz.func169 ?_
 repeat' (first|refine zQQ 1049079 ?_|(refine stp ?_;simp only[go_sem])|(refine drawQ (id:=2) mixed [(0,[]),(1,[]),(3,[]),(2,[]),(4,[2]),(5,[]),(6,[]),(7,[]),(8,[]),(9,[]),(10,[]),(11,[])] (by kernel_rfl) ?_;simp only[go_sem])|(refine Eff.at2 (hpu ) [] rfl (by first|(simp;done)|fail) rfl ?_;(try simp only[go_sem]))|(refine EffW.at (hlo ) [] rfl (by first|(simp[hdt,zWW hdt];done)|fail) ?_;(try simp only[go_sem]))|(refine Eff.atR (htk ) rfl [t+14] rfl (by first|(simp;done)|fail) rfl ?_;(try simp only[go_sem]))|fail)
 (refine done_W2 hQ [] ?_ ?_ ?_<;>(simp))
theorem word_c (G:List Gl) [hB:Bg t B] (hd:DevG B t d a n lns) (x:Nat) (hx:x+8≤64*n) (h8:x % 8=0):EffW G Tryz.prog 133 [.ptr (some ⟨d,0⟩),.int .i64 x] t [] B 0 (.tuple [.int .u64 0,.int .i64 0]) [] B 0:=by
 have hdt:=hd.dev.lt;have q2:=hd.top;have hal:=alive_c B G hd;have hfi:=field_c B G hd x hx;have e1:(x:Int) % 8=0:=by omega
 refine EffW.enter fun Q hQ=>?_
 simp only[List.nil_append,Nat.add_zero];refine zQV 21 [.tmp 4,.tmp 5] Tryz.func133 ?_
 repeat' (first|refine zQQ 17523 ?_|(refine stp ?_;simp only[go_sem])|(refine EffW.at (hal ) [] rfl (by first|(simp[hdt,zWW hdt];done)|fail) ?_;(try simp only[go_sem]))|(refine EffW.at (hfi ) [] rfl (by first|(simp[hdt,zWW hdt];done)|fail) ?_;(try simp only[go_sem]))|(simp only[go_sem,e1])|(simp (disch:=omega) only[zQK,wrapU8E,wrapU16E,wrapU32E,wrapU64E,wrapI32E,tdivE,tmodE])|fail)
 (refine done_W2 hQ [] ?_ ?_ ?_<;>(simp))
def LogG (B:List (Nat × EO)) (t d lg x m:Nat):Prop:=AtG B t lg (.cells [.ptr (some ⟨d,0⟩),.int .i64 x,.int .i64 m] 188 0 true 0)
theorem lready_c (G:List Gl) [hB:Bg t B] (hd:DevG B t d a n lns) {lg x m:Nat} (hl:LogG B t d lg x m):EffW G Tryz.prog 132 [.ptr (some ⟨lg,0⟩)] t [] B 0 (.int .i64 0) [] B 0:=by
 have hdt:=hd.dev.lt;have hlt:=hl.lt;have hL:=AtG.f hl;have hof:=goff_c B G hd;refine EffW.enter fun Q hQ=>?_
 simp only[List.nil_append,Nat.add_zero];refine zQV 19 [.tmp 2] Tryz.func132 ?_
 repeat' (first|refine zQQ 8205 ?_|refine zQW ?_|(refine stp ?_;simp only[go_sem,hL])|(refine EffW.at (hof ) [] rfl (by first|(simp[hdt,zWW hdt];done)|fail) ?_;(try simp only[go_sem]))|fail)
 (refine done_W2 hQ [] ?_ ?_ ?_<;>(simp))
theorem lrecs_c (G:List Gl) [hB:Bg t B] (hd:DevG B t d a n lns) {lg x m:Nat} (hl:LogG B t d lg x m) (hx:x+8≤64*n) (h8:x % 8=0):EffW G Tryz.prog 93 [.ptr (some ⟨lg,0⟩)] t [] B 0 (.tuple [.slice none 0 0,.int .i64 0]) [] B 0:=by
 have hdt:=hd.dev.lt;have q2:=hd.top;have hlt:=hl.lt;have hL:=AtG.f hl;have hre:=lready_c B G hd hl;have hwo:=word_c B G hd x hx h8;refine EffW.enter fun Q hQ=>?_
 simp only[List.nil_append,Nat.add_zero];refine zQV 78 [.tmp 2,.tmp 3] Tryz.func93 ?_
 repeat' (first|refine zQQ 590457939964618416125 ?_|(refine stp ?_;simp only[go_sem])|(refine drawQ (id:=4) mixed [(0,[]),(1,[]),(2,[]),(4,[]),(5,[]),(6,[]),(3,[]),(7,[]),(8,[]),(9,[]),(10,[]),(11,[]),(12,[]),(13,[])] (by kernel_rfl) ?_;simp only[go_sem,hL])|(refine EffW.at (hre ) [] rfl (by first|(simp[hlt,zWW hlt];done)|fail) ?_;(try simp only[go_sem]))|(refine EffW.at (hwo ) [] rfl (by first|(simp[hdt,zWW hdt];done)|fail) ?_;(try simp only[go_sem]))|fail)
 (refine done_W2 hQ [] ?_ ?_ ?_<;>(simp))
def PoolG (B:List (Nat × EO)) (t d lg pl:Nat) (op:EV):Prop:=AtG B t pl (.cells [.ptr (some ⟨d,0⟩),.ptr (some ⟨lg,0⟩),op] 193 0 true 0)
theorem tnew_c (G:List Gl) [hB:Bg t B] (hd:DevG B t d a n lns) {lg x m:Nat} (hl:LogG B t d lg x m) (hx:x+8≤64*n) (h8:x % 8=0):EffW G Tryz.prog 57 [.ptr (some ⟨d,0⟩),.ptr (some ⟨lg,0⟩)] t [] B 0 (.tuple [.ptr (some ⟨t,0⟩),.int .i64 0]) [(t,.cells [.ptr (some ⟨d,0⟩),.ptr (some ⟨lg,0⟩),.ptr none] 193 0 true 0)] B 1:=by
 have hdt:=hd.dev.lt;have q1:=hd.pos;have q2:=hd.top;have hlt:=AtG.lt hl;have hsi:=gsize_c B G hd;have hre:=lrecs_c B G hd hl hx h8;refine EffW.enter fun Q hQ=>?_
 simp only[List.nil_append,Nat.add_zero];refine zQV 22 [.tmp 4,.tmp 5] Tryz.func57 ?_
 repeat' (first|refine zQQ 132275 ?_|(refine stp ?_;simp only[go_sem])|(refine EffW.at (hsi ) [] rfl (by first|(simp[hdt,zWW hdt];done)|fail) ?_;(try simp only[go_sem]))|(refine EffW.at (hre ) [] rfl (by first|(simp[hlt,zWW hlt];done)|fail) ?_;(try simp only[go_sem]))|(refine spl (fun h=>?_) (fun h=>?_)<;>first|omega|try simp only[go_sem,h])|fail)
 refine done_W2 hQ [t] ?_ ?_ ?_<;>(first|(simp[hdt,hlt];done)|(simp;omega))
theorem pmade_c (G:List Gl) [hB:Bg t B] (hd:DevG B t d a n lns) {lg pl:Nat} {op:EV} (hp:PoolG B t d lg pl op):EffW G Tryz.prog 136 [.ptr (some ⟨pl,0⟩)] t [] B 0 (.bool true) [] B 0:=by
 have hP:=AtG.f hp;refine EffW.enter fun Q hQ=>?_
 simp only[List.nil_append,Nat.add_zero];refine zQV 12 [.tmp 2] Tryz.func136 ?_
 repeat' (first|refine zQQ 5 ?_|(refine stp ?_;simp only[go_sem,hP])|fail)
 (refine done_W2 hQ [] ?_ ?_ ?_<;>(simp))
theorem psize_c (G:List Gl) [hB:Bg t B] (hd:DevG B t d a n lns) {lg pl:Nat} {op:EV} (hp:PoolG B t d lg pl op):EffW G Tryz.prog 94 [.ptr (some ⟨pl,0⟩)] t [] B 0 (.int .i64 (64*n:Nat)) [] B 0:=by
 have hdt:=hd.dev.lt;have hpt:=AtG.lt hp;have hP:=AtG.f hp;have hma:=pmade_c B G hd hp;have hsi:=gsize_c B G hd;refine EffW.enter fun Q hQ=>?_
 simp only[List.nil_append,Nat.add_zero];refine zQV 11 [.tmp 2] Tryz.func94 ?_
 repeat' (first|refine zQQ 37 ?_|(refine stp ?_;simp only[go_sem,hP])|(refine EffW.at (hma ) [] rfl (by first|(simp[hpt,zWW hpt];done)|fail) ?_;(try simp only[go_sem]))|(refine EffW.at (hsi ) [] rfl (by first|(simp[hdt,zWW hdt];done)|fail) ?_;(try simp only[go_sem]))|fail)
 (refine done_W2 hQ [] ?_ ?_ ?_<;>(simp))
theorem pidle_c (G:List Gl) [hB:Bg t B] (hd:DevG B t d a n lns) {lg pl:Nat} (hp:PoolG B t d lg pl (.ptr none)):EffW G Tryz.prog 178 [.ptr (some ⟨pl,0⟩)] t [] B 0 (.int .i64 0) [] B 0:=by
 have hdt:=hd.dev.lt;have hpt:=AtG.lt hp;have hP:=AtG.f hp;have hma:=pmade_c B G hd hp;have hof:=goff_c B G hd;refine EffW.enter fun Q hQ=>?_
 simp only[List.nil_append,Nat.add_zero];refine zQV 19 [.tmp 2] Tryz.func178 ?_
 repeat' (first|refine zQQ 8333 ?_|refine zQW ?_|(refine stp ?_;simp only[go_sem,hP])|(refine EffW.at (hma ) [] rfl (by first|(simp[hpt,zWW hpt];done)|fail) ?_;(try simp only[go_sem]))|(refine EffW.at (hof ) [] rfl (by first|(simp[hdt,zWW hdt];done)|fail) ?_;(try simp only[go_sem]))|fail)
 (refine done_W2 hQ [] ?_ ?_ ?_<;>(simp))
theorem pstate_c (G:List Gl) [hB:Bg t B] (hd:DevG B t d a n lns) {lg pl x m:Nat} {op:EV} (hl:LogG B t d lg x m) (hx:x+8≤64*n) (h8:x % 8=0) (hp:PoolG B t d lg pl op):EffW G Tryz.prog 179 [.ptr (some ⟨pl,0⟩)] t [] B 0 (.int .i64 0) [] B 0:=by
 have hdt:=hd.dev.lt;have hlt:=AtG.lt hl;have hpt:=AtG.lt hp;have hP:=AtG.f hp;have hma:=pmade_c B G hd hp;have hre:=lrecs_c B G hd hl hx h8;refine EffW.enter fun Q hQ=>?_
 simp only[List.nil_append,Nat.add_zero];refine zQV 24 [.tmp 2] Tryz.func179 ?_
 repeat' (first|refine zQQ 4194461 ?_|(refine stp ?_;simp only[go_sem,hP])|(refine EffW.at (hma ) [] rfl (by first|(simp[hpt,zWW hpt];done)|fail) ?_;(try simp only[go_sem]))|(refine EffW.at (hre ) [] rfl (by first|(simp[hlt,zWW hlt];done)|fail) ?_;(try simp only[go_sem]))|fail)
 (refine done_W2 hQ [] ?_ ?_ ?_<;>(simp))
end
section
variable (B:List (Nat × EO)) {t d a n:Nat} {lns:List Nat}
theorem hnew_c (G:List Gl) [hB:Bg t B] (hd:DevG B t d a n lns) {lg pl:Nat} {op:EV} (hp:PoolG B t d lg pl op) (x m:Nat) (h1:128≤x) (h2:x % 64=0) (h3:x+256*m≤64*n):EffW G Tryz.prog 58 [.ptr (some ⟨pl,0⟩),.int .i64 x,.int .i64 m] t [] B 0 (.tuple [.ptr (some ⟨t,0⟩),.int .i64 0]) [(t+1,.map []),(t,.cells [.ptr (some ⟨pl,0⟩),.int .i64 x,.int .i64 m,.map (some (t+1)),.ptr none] 165 0 true 0)] B 2:=by
 have q1:=hd.pos;have q2:=hd.top;have hpt:=AtG.lt hp;have hsi:=psize_c B G hd hp;have e1:(x:Int) % 64=0:=by omega
 have e2:(((64*n:Nat):Int) - x) / 256=(((64*n - x) / 256:Nat):Int):=by omega
 have e3:m≤(64*n - x) / 256:=by omega
 refine EffW.enter fun Q hQ=>?_
 simp only[List.nil_append,Nat.add_zero];refine zQV 43 [.tmp 6,.tmp 7] Tryz.func58 ?_
 repeat' (first|refine zQQ 68719477959 ?_|(refine stp ?_;simp only[go_sem])|(refine EffW.at (hsi ) [] rfl (by first|(simp[hpt,zWW hpt];done)|fail) ?_;(try simp only[go_sem]))|((refine eop_makeMap ?_);simp only[go_sem])|(simp only[go_sem,e1,e2])|(simp (disch:=omega) only[zQK,tdivE,tmodE])|(refine spl (fun h=>?_) (fun h=>?_)<;>first|omega|((try simp only[opRun]);(try simp only[go_sem,h])))|fail)
 refine done_W2 hQ [t+1,t] ?_ ?_ ?_<;>(first|(simp[hpt];done)|(simp;omega))
def HeapG (B:List (Nat × EO)) (t pl hp x m lv:Nat) (op:EV):Prop:=AtG B t hp (.cells [.ptr (some ⟨pl,0⟩),.int .i64 x,.int .i64 m,.map (some lv),op] 165 0 true 0)
theorem hthere_c (G:List Gl) [hB:Bg t B] {pl hp x m lv:Nat} {op:EV} (hh:HeapG B t pl hp x m lv op):EffW G Tryz.prog 95 [.ptr (some ⟨hp,0⟩)] t [] B 0 (.bool true) [] B 0:=by
 have hH:=AtG.f hh;refine EffW.enter fun Q hQ=>?_
 simp only[List.nil_append,Nat.add_zero];refine zQV 12 [.tmp 2] Tryz.func95 ?_
 repeat' (first|refine zQQ 5 ?_|(refine stp ?_;simp only[go_sem,hH])|fail)
 (refine done_W2 hQ [] ?_ ?_ ?_<;>(simp))
theorem Bg.turn {B:List (Nat × EO)} {t:Nat} [h:Bg t B] {t' r:Nat} {o:EO} {X:List (Nat × EO)} (ht:t≤t') (hX:keysGe t X) (hk:keysOK X) (hb:blBelow t' X) (ho:o.bel t'):Bg t' (X++setL B r o)∧(∀ j,j<t→j ≠ r→lkp (X++setL B r o) j=lkp B j)∧(∀ o0,r<t→lkp B r=some o0→lkp (X++setL B r o) r=some o):=by
 refine ⟨⟨blBelow_append hb (setL_below ho (blBelow_of fun i x hm=>by
   obtain ⟨h1,h2⟩:=blBelow_mem h.below hm;exact ⟨by omega,EO.bel_mono ht x h2⟩)),?_⟩,fun j hj hne=>?_,fun o0 hr hl=>?_⟩
 ·clear hb
  induction X with
  | nil=>exact setL_keys h.keys
  | cons y r' ih=>
    obtain ⟨b,x⟩:=y;refine ⟨?_,ih hX.2 hk.2⟩;show E.lkp (r' ++ setL B r o) b=none;have hn:lkp B b=none:=h.none hX.1;rw[lkp_append,hk.1,lkp_setL]
    split
    ·rename_i e
     rw[e,hn];rfl
    ·rw[hn];rfl
 ·rw[lkp_append,keysGe_none hX hj,lkp_setL,if_neg (fun e=>hne e.symm)];rfl
 ·rw[lkp_append,keysGe_none hX hr,lkp_setL,if_pos rfl,hl];rfl
theorem hload_c (G:List Gl) [hB:Bg t B] {pl hp x m lv:Nat} (hh:HeapG B t pl hp x m lv (.ptr none)) (hpt:pl<t):EffR G Tryz.prog 59 [.ptr (some ⟨hp,0⟩),.slice none 0 0] B t (fun v bl nx=>∃ B',v=.int .i64 0∧bl=B'∧Bg nx B'∧nx=t+1∧(∀ j,j<t→j ≠ hp→lkp B' j=lkp B j)∧HeapG B' nx pl hp x m t (.ptr none)∧AtG B' nx t (.map [])):=by
 have hH:=AtG.f hh;have hht:=AtG.lt hh;have hth:=hthere_c B G hh;refine EffR.enter fun Q hQ=>?_
 refine zQV 45 [.tmp 4] Tryz.func59 ?_
 repeat' (first|refine zQQ 137440953523 ?_|refine zQW ?_|(refine stp ?_;simp only[go_sem,hH])|(refine EffW.at (hth ) [] rfl (by first|(simp[hht,zWW hht];done)|fail) ?_;(try simp only[go_sem]))|((refine eop_makeMap ?_);simp only[go_sem])|(refine esem_loopN 137440953523 1 ?_;simp only[go_sem])|fail)
 obtain ⟨b1,b2,b3⟩:=Bg.turn (B:=B) (t:=t) (t':=t+1) (r:=hp) (o:=.cells [.ptr (some ⟨pl,0⟩),.int .i64 x,.int .i64 m,.map (some t),.ptr none] 165 0 true 0) (X:=[(t,.map [])]) (by omega) (by simp[keysGe]) (by simp[keysOK,lkp]) (by simp) (by simp[EO.bel,zQX,EV.bel];omega);exact zWJ hQ (by omega) b1.below (by simp[EV.bel]) ⟨_,rfl,rfl,b1,rfl,b2,⟨by omega,b3 _ hht hh.lk⟩,⟨by omega,by simp[lkp]⟩⟩
theorem tbegin_c (G:List Gl) [hB:Bg t B] (hd:DevG B t d a n lns) {lg pl x m:Nat} (hl:LogG B t d lg x m) (hx:x+8≤64*n) (h8:x % 8=0) (hp:PoolG B t d lg pl (.ptr none)):EffR G Tryz.prog 137 [.ptr (some ⟨pl,0⟩)] B t (fun v bl nx=>∃ B',v=.tuple [.ptr (some ⟨t+1,0⟩),.int .i64 0]∧bl=B'∧Bg nx B'∧nx=t+2∧(∀ j,j<t→j ≠ pl→lkp B' j=lkp B j)∧PoolG B' nx d lg pl (.ptr (some ⟨t+1,0⟩))∧AtG B' nx t (.map [])∧AtG B' nx (t+1) (.cells [.ptr (some ⟨pl,0⟩),.map (some t),.bool false] 163 0 true 0)):=by
 have hP:=AtG.f hp;have hpt:=AtG.lt hp;have hid:=pidle_c B G hd hp;have hst:=pstate_c B G hd hl hx h8 hp;refine EffR.enter fun Q hQ=>?_
 refine zQV 27 [.tmp 2,.tmp 3] Tryz.func137 ?_
 repeat' (first|refine zQQ 16957 ?_|(refine stp ?_;simp only[go_sem,hP,lkp_setL,Option.map_some])|(refine EffW.at (hid ) [] rfl (by first|(simp[hpt,zWW hpt];done)|fail) ?_;(try simp only[go_sem]))|(refine EffW.at (hst ) [] rfl (by first|(simp[hpt,zWW hpt];done)|fail) ?_;(try simp only[go_sem]))|((refine eop_makeMap ?_);simp only[go_sem,hP])|fail)
 have hdt:=hd.dev.lt;have hlt:=AtG.lt hl;obtain ⟨b1,b2,b3⟩:=Bg.turn (B:=B) (t:=t) (t':=t+2) (r:=pl) (o:=.cells [.ptr (some ⟨d,0⟩),.ptr (some ⟨lg,0⟩),.ptr (some ⟨t+1,0⟩)] 193 0 true 0) (X:=[(t+1,.cells [.ptr (some ⟨pl,0⟩),.map (some t),.bool false] 163 0 true 0),(t,.map [])]) (by omega) (by simp[keysGe]) (by simp[keysOK,lkp]) (by simp;omega) (by simp[EO.bel,zQX,EV.bel];omega);exact zWJ hQ (by omega) b1.below (by simp[EV.bel,zQX]) ⟨_,rfl,rfl,b1,rfl,b2,⟨by omega,b3 _ hpt hp.lk⟩,⟨by omega,by simp[lkp]⟩,⟨by omega,by simp[lkp]⟩⟩
theorem hbegin_c (G:List Gl) [hB:Bg t B] (hd:DevG B t d a n lns) {lg pl hp x m y k lv:Nat} (hl:LogG B t d lg x m) (hx:x+8≤64*n) (h8:x % 8=0) (hp_:PoolG B t d lg pl (.ptr none)) (hh:HeapG B t pl hp y k lv (.ptr none)) (hlv:lv<t) (hne:hp ≠ pl):EffR G Tryz.prog 99 [.ptr (some ⟨hp,0⟩)] B t (fun v bl nx=>∃ B',v=.tuple [.ptr (some ⟨t+4,0⟩),.int .i64 0]∧bl=B'∧Bg nx B'∧nx=t+5∧(∀ j,j<t→j ≠ pl→j ≠ hp→lkp B' j=lkp B j)∧PoolG B' nx d lg pl (.ptr (some ⟨t+1,0⟩))∧HeapG B' nx pl hp y k lv (.ptr (some ⟨t+4,0⟩))∧AtG B' nx t (.map [])∧AtG B' nx (t+1) (.cells [.ptr (some ⟨pl,0⟩),.map (some t),.bool false] 163 0 true 0) ∧
   AtG B' nx (t+2) (.map [])∧AtG B' nx (t+3) (.map [])∧AtG B' nx (t+4) (.cells [.ptr (some ⟨hp,0⟩),.ptr (some ⟨t+1,0⟩),.map (some (t+2)),.map (some (t+3)),.int .i64 0,.bool false] 56 0 true 0)):=by
 have hH:=AtG.f hh;have hht:=AtG.lt hh;have hpt:=AtG.lt hp_;have hth:=hthere_c B G hh;have htb:=tbegin_c B G hd hl hx h8 hp_;refine EffR.enter fun Q hQ=>?_
 refine zQV 33 [.tmp 2,.tmp 3] Tryz.func99 ?_
 repeat' (first|refine zQQ 262461 ?_|(refine stp ?_;simp only[go_sem,hH])|(refine EffW.at (hth ) [] rfl (by first|(simp[hht,zWW hht];done)|fail) ?_;(try simp only[go_sem]))|(refine EffR.at htb ?_)|(simp only[go_sem])|fail)
 rintro v B1 nx ⟨_,rfl,rfl,hB1,hnx,hsame,hpo,hmp,htx⟩
 haveI:=hB1;have hh1:HeapG B1 nx pl hp y k lv (.ptr none):=⟨by omega,by rw[hsame hp hht hne];exact hh.lk⟩;have hH1:=AtG.f hh1;obtain rfl:=hnx;obtain ⟨T,hT⟩:∃ X,X=t+2:=⟨_,rfl⟩;rw[← hT] at hB1 hpo hmp htx hh1 hH1 ⊢
 haveI:=hB1
 repeat' (first|refine zQQ 262461 ?_|(refine stp ?_;simp only[go_sem,hH1,lkp_setL,Option.map_some])|((refine eop_makeMap ?_);simp only[go_sem,hH1])|fail)
 obtain ⟨b1,b2,b3⟩:=Bg.turn (B:=B1) (t:=T) (t':=T+3) (r:=hp) (o:=.cells [.ptr (some ⟨pl,0⟩),.int .i64 y,.int .i64 k,.map (some lv),.ptr (some ⟨T+2,0⟩)] 165 0 true 0) (X:=[(T+2,.cells [.ptr (some ⟨hp,0⟩),.ptr (some ⟨t+1,0⟩),.map (some T),.map (some (T+1)),.int .i64 0,.bool false] 56 0 true 0),(T+1,.map []),(T,.map [])]) (by omega) (by simp[keysGe]) (by simp[keysOK,lkp]) (by simp;omega) (by simp[EO.bel,zQX,EV.bel];omega);simp only[List.cons_append,List.nil_append] at b1 b2 b3
 refine zWJ hQ (by omega) b1.below (by simp[EV.bel,zQX]) ⟨_,by rw[hT],rfl,b1,by omega,fun j hj h6 h7=>(b2 j (by omega) h7).trans (hsame j hj h6),⟨by omega,by rw[b2 pl (by omega) (fun e=>hne e.symm)];exact hpo.lk⟩,⟨by omega,by rw[b3 _ (by omega) hh1.lk,hT]⟩,⟨by omega,by rw[b2 t (by omega) (by omega)];exact hmp.lk⟩,⟨by omega,by rw[b2 (t+1) (by omega) (by omega)];exact htx.lk⟩,⟨by omega,by rw[← hT];simp[lkp]⟩,⟨by omega,by rw[show t+3=T+1 by omega];simp[lkp]⟩,⟨by omega,by rw[show t+4=T+2 by omega,show t+2=T by omega,show t+3=T+1 by omega];simp[lkp]⟩⟩
end
section
theorem zU_get {m i:Nat} (h:i<m):(zQZ (zU m))[i]? = some (.int .u8 0):=by
 unfold zQZ zU;rw[List.getElem?_map,List.getElem?_replicate,if_pos h];rfl
theorem zU_set {m i:Nat} (h:i<m):putL (zQZ (zU m)) i [.int .u8 0]=zQZ (zU m):=by
 have:=putL_zU m i 1 (by omega);exact this
theorem copyb_c (G:List Gl) (m o n cap z f:Nat) (w:Bool) (h:o+n≤m) (hm:m≤70000000):Eff G Tryz.prog 55 [.slice (some ⟨0,o⟩) n cap] [(0,.cells (zQZ (zU m)) 5 z w f)] 1 (.slice (some ⟨1,0⟩) n n) [(0,.cells (zQZ (zU m)) 5 z w f),(1,.cells (zQZ (zU n)) 5 0 true 0)] 2:=by
 have hl1:(zQZ (zU n)).length=n:=by rw[zQY,zU_length]
 have hl2:(zQZ (zU m)).length=m:=by rw[zQY,zU_length]
 unfold Eff;refine zQV 22 [.tmp 2] Tryz.func55 ?_
 repeat' (first|refine zQQ 2077 ?_|refine zQW ?_|(refine stp ?_;simp only[go_sem])|((refine eop_makeSlice ?_;unfold eMakeSlice);simp only[go_sem])|(refine zQP ?_ ?_;focus omega))
 refine esem_loopS (fun i:Nat=>[(0,.slice (some ⟨0,o⟩) n cap),(3,.slice (some ⟨1,0⟩) i n),(4,.int .i64 i)]) (fun i:Nat=>[(1,.cells (zQZ (zU n)) 5 0 true 0),(0,.cells (zQZ (zU m)) 5 z w f)]) (fun i:Nat=>2) (fun i:Nat=>i≤n) (fun i:Nat=>n - i) (0) (fun z hz=>⟨by simp[frBel],by simp,by omega⟩) (by omega) (by simp only[go_sem,zWQ];done) (by trivial) ?_;intro i hi
 rcases Nat.lt_or_ge i n with hin | hin
 ·have hg:=zU_get (m:=m) (i:=o+i) (by omega);have hs:=zU_set (m:=n) hin
  repeat' (first|refine zQQ 2077 ?_|refine zQW ?_|(refine stp ?_;simp only[go_sem,hl1,hg,hs])|(simp (disch:=omega) only[zQK])|(refine spl (fun h=>?_) (fun h=>?_)<;>first|omega|try simp only[go_sem,h])|(refine zQP ?_ ?_;focus omega))
  (refine ⟨(i+1),?_,?_,rfl,rfl,?_,?_⟩;rotate_left;(focus (simp only[];omega));(focus ((try simp only[go_sem,zWQ]);((repeat' apply And.intro)<;>(rfl))));(focus (trivial));(try simp only[]))
  exact hin
 ·obtain rfl:i=n:=by omega
  repeat' (first|refine zQQ 2077 ?_|(refine stp ?_;simp only[go_sem])|(refine spl (fun h=>?_) (fun h=>?_)<;>first|omega|try simp only[go_sem,h])|fail)
  exact done_eff [1] (by simp) (by simp) (by simp) (by simp) (by simp) (by simp) rfl (by simp) (by simp)
theorem copyi_c (G:List Gl):E.Pure G Tryz.prog 60 [.slice none 0 0] (.slice none 0 0):=by
 refine pure_hid fun V hV=>?_
 refine zQV 19 [.tmp 2] Tryz.func60 ?_
 repeat' (first|refine zQQ 285 ?_|refine zQW ?_|(refine stp ?_;simp only[go_sem])|(refine esem_loopN 285 1 ?_;simp only[go_sem])|fail)
 all_goals (refine done_zero (v:=EV.slice none 0 0) (by trivial) ?_;rw[hV])
theorem rfits_c (G:List Gl) (n:Nat) (h1:64≤n) (h2:n≤4194304) (h3:n % 64=0):E.Pure G Tryz.prog 96 [.int .i64 n] (.bool true):=by
 refine pure_hid fun V hV=>?_
 have e1:((n:Int) % 64)=0:=by omega
 refine zQV 14 [.tmp 2] Tryz.func96 ?_
 repeat' (first|refine zQQ 5 ?_|(refine stp ?_;simp only[go_sem])|(simp only[go_sem,e1])|(simp (disch:=omega) only[zQK,wrapU8E,wrapU16E,wrapU32E,wrapU64E,wrapI32E,tdivE,tmodE])|(refine spl (fun h=>?_) (fun h=>?_)<;>first|omega|((try simp only[opRun]);(try simp only[go_sem,h])))|fail)
 all_goals (refine done_zero (by simp[EV.bel]) ?_;rw[hV])
structure RefG (B:List (Nat × EO)) (t r la n:Nat) (xs:List Nat):Prop where
 dev:AtG B t r (.cells [.int .i64 (64*n:Nat),.slice (some ⟨la,0⟩) n n,.int .i64 0,.slice none 0 0,.int .i64 0,.bool false] 197 0 true 0)
 arr:AtG B t la (.cells (lnE xs) 199 2 true 0)
 len:xs.length=n
 ln:∀ x∈xs,∃ y,AtG B t x (.cells [.slice (some ⟨y,0⟩) 64 64] 40 0 true 0)∧AtG B t y (.cells (zQZ (zU 64)) 5 0 true 0)
 pos:1≤n
 top:n≤65536
variable (B:List (Nat × EO)) {t:Nat}
theorem rfrom_c (G:List Gl) [hB:Bg t B] (n im cap z f:Nat) (w:Bool) (h1:1≤n) (h2:n≤65536) (him:AtG B t im (.cells (zQZ (zU (64*n))) 5 z w f)) (hcap:64*n≤cap) (hz:z=0∨z=1) :
  EffR G Tryz.prog 61 [.slice (some ⟨im,0⟩) (64*n) cap] B t (fun v bl nx=>∃ B' r la xs,v=.tuple [.ptr (some ⟨r,0⟩),.int .i64 0]∧bl=B'∧Bg nx B'∧Ext B t B' nx∧RefG B' nx r la n xs):=by
 have himt:=him.lt;have hfi:=rfits_c G (64*n) (by omega) (by omega) (by omega);have hil:(zQZ (zU (64*n))).length=64*n:=by rw[zQY,zU_length]
 refine EffR.enter fun Q hQ=>?_
 refine zQV 38 [.tmp 2,.tmp 3] Tryz.func61 ?_
 repeat' (first|refine zQQ 131645 ?_|refine zQW ?_|(refine stp ?_;simp only[go_sem])|(refine Pure.at (hfi) (by simp) (by simp) rfl ?_;(try simp only[go_sem]))|fail)
 refine zWV (fun z:Nat × List Nat × List (Nat × EO) × Nat=>[(0,.slice (some ⟨im,0⟩) (64*n) cap),(4,.ptr (some ⟨z.2.2.2,0⟩)),(5,.int .i64 (64*z.1:Nat))]) (fun z:Nat × List Nat × List (Nat × EO) × Nat=>accB (z.2.2.2+1) (lnE z.2.1) 199 2++((z.2.2.2,.cells [.int .i64 (64*n:Nat),accE (z.2.2.2+1) z.1,.int .i64 0,.slice none 0 0,.int .i64 0,.bool false] 197 0 true 0)::z.2.2.1)) (fun z:Nat × List Nat × List (Nat × EO) × Nat=>z.2.2.2+2) (fun z:Nat × List Nat × List (Nat × EO) × Nat=>z.1≤n∧z.2.1.length=z.1∧Bg z.2.2.2 z.2.2.1∧Ext B t z.2.2.1 z.2.2.2∧(∀ x∈z.2.1,x<z.2.2.2∧∃ y,AtG z.2.2.1 z.2.2.2 x (.cells [.slice (some ⟨y,0⟩) 64 64] 40 0 true 0)∧AtG z.2.2.1 z.2.2.2 y (.cells (zQZ (zU 64)) 5 0 true 0))) (fun z:Nat × List Nat × List (Nat × EO) × Nat=>n - z.1) ((0,[],B,t)) ?_ ?_ ?_ ?_ ?_
 ·rintro ⟨i,l,B',T⟩ ⟨hi,hl,hB',he,hal⟩
  haveI:=hB';have h5:t≤T:=he.le;refine ⟨by simp[frBel,show im<T+2 by omega],?_,by show t≤T+2;omega⟩;have hb1:zQX (T+2) (lnE l):=lnE_below fun b hb=>by have:=(hal b hb).1;simp only at this ⊢;omega
  rw[blBelow_acc (by simp) hb1];simp
 ·exact ⟨Nat.zero_le _,rfl,hB,Ext.refl _ _,fun b hb=>absurd hb (by simp)⟩
 ·simp only[go_sem,zWQ,Nat.mul_zero]
 ·show lessL _ ((t,.cells [.int .i64 (64*n:Nat),.slice none 0 0,.int .i64 0,.slice none 0 0,.int .i64 0,.bool false] 197 0 true 0)::B);simp only[go_sem,lessL]
 ·rintro ⟨i,l,B',T⟩ ⟨hi,hl,hB',he,hal⟩
  simp only at hi hl hB' he hal ⊢
  haveI:=hB';have h5:t≤T:=he.le;have hll:=lnE_length l;have hlo:=lnE_one l;have hI:=(him.mono he).f;have himT:im<T:=by omega
  rcases Nat.lt_or_ge i n with hin | hin
  ·have hcb:=copyb_c G (64*n) (64*i) 64 (cap - 64*i) z f w (by omega) (by omega);have e1:((64*i:Nat):Int)+64=((64*(i+1):Nat):Int):=by omega
   have e2:64*(i+1) - 64*i=64:=by omega
   have e3:((64*i:Nat):Int).toNat=64*i:=by omega
   have e4:((64*(i+1):Nat):Int).toNat=64*(i+1):=by omega
   have hlt:∀ b∈l,b<T:=fun b hb=>(hal b hb).1
   rcases Nat.eq_zero_or_pos i with h0 | h0
   ·subst h0;obtain rfl:l=[]:=List.eq_nil_of_length_eq_zero hl;rw[Nat.mul_zero,Nat.sub_zero] at hcb
    rw[show lnE []=[] from rfl,accB_nil,accE_zero,List.nil_append]
    repeat' (first|refine zQQ 131645 ?_|refine zQW ?_|(refine stp ?_;simp only[go_sem,Nat.zero_add])|(refine drawQ (id:=7) mixed [(0,[]),(1,[]),(2,[]),(3,[]),(5,[]),(6,[]),(7,[]),(8,[]),(4,[]),(9,[]),(10,[4]),(11,[]),(12,[]),(13,[]),(14,[]),(15,[]),(16,[]),(17,[])] (by kernel_rfl) ?_;simp only[go_sem,hI,e2,Nat.zero_add])|(refine Eff.atR (hcb ) rfl [im] rfl (by first|(simp[hI];done)|fail) rfl ?_;(try simp only[go_sem,Nat.zero_add]))|(refine spl (fun h=>?_) (fun h=>?_)<;>first|omega|try simp only[go_sem,h])|(refine zQP ?_ ?_;focus omega))
    have hx:=Bg.above (B:=B') (t:=T) (t':=T+2) (X:=[(T+1,.cells [.slice (some ⟨T,0⟩) 64 64] 40 0 true 0),(T,.cells (zQZ (zU 64)) 5 0 true 0)]) (by omega) (by simp[keysGe]) (by simp[keysOK,lkp]) (by simp);simp only[List.cons_append,List.nil_append] at hx
    haveI:=hx.1;have hre:renL (nam T [T+20,T+13,T,T+21]) (lnE ([T+1]))=lnE ([]:List Nat)++[.slice (some ⟨T+13,0⟩) 1 1,.int .i64 (-1)]:=by
     show renL _ (lnE (([]:List Nat)++[T+1]))=_;rw[lnE_append,renL_append,lnE_ren fun b hb=>by simp only[nam];rw[if_pos (hlt b hb)]];simp[lnE,renL,EV.ren,nam]
    have hbe:∀ k,zQX (T+2+k) (lnE ([T+1]))=True:=fun k=>eq_true (lnE_below (l:=([]:List Nat)++[T+1]) fun b hb=>by
     rcases List.mem_append.1 hb with q | q
     ·have:=hlt b q;omega
     ·simp at q;omega)
    have hT3:T+2+1=T+3∧T+2+2=T+4∧((64*(0+1):Nat):Int)=64∧((64*1:Nat):Int)=64:=⟨rfl,rfl,rfl,rfl⟩;have hab:∀ k,accB k (lnE ([T+1])) 199 2=[(k,.cells (lnE ([T+1])) 199 2 true 0)]:=fun k=>accB_pos (by show 0<(lnE (([]:List Nat)++[T+1])).length;rw[lnE_length,List.length_append];show 0<(_+1)*2;omega)
    have hbr:∀ π,renL π (zQZ (zU 64))=zQZ (zU 64):=fun π=>bytesE_ren _ _
    have hbb:∀ k,zQX k (zQZ (zU 64))=True:=fun k=>eq_true (bytesE_below _ _)
    (refine ⟨(0+1,[T+1],(T+1,.cells [.slice (some ⟨T,0⟩) 64 64] 40 0 true 0)::(T,.cells (zQZ (zU 64)) 5 0 true 0)::B',T+2),T,[T+20,T+13,T,T+21],?_,?_,rfl,rfl,?_,⟨?_,rfl,?_,?_,?_,?_,?_⟩⟩;rotate_left;(focus (simp only[];omega));(focus (simp only[go_sem,zWQ,hT3,show im<T+4 by omega,himT]));(focus (omega));(focus simp);(focus (simp));(focus (simp only[];omega));(focus (simp[hT3,hab,accE_app1,hbe 2,hbb,show im<T+4 by omega]));(focus (simp[hT3,hab,accE_app1,hre,hbr,show im<T+4 by omega])))
    all_goals (first|rfl|skip)
    refine ⟨hin,by show (([]:List Nat)++[T+1]).length=_;rw[List.length_append,hl];rfl,hx.1,he.trans hx.2,fun b hb=>?_⟩
    rcases List.mem_append.1 (show b∈([]:List Nat)++[T+1] from hb) with q | q
    ·obtain ⟨q1,y,q2,q3⟩:=hal b q;exact ⟨by show b<T+2;omega,y,q2.mono hx.2,q3.mono hx.2⟩
    ·obtain rfl:b=T+1:=by simpa using q
     exact ⟨Nat.lt_succ_self _,T,⟨Nat.lt_succ_self _,by simp[lkp]⟩,⟨by show T<T+2;omega,by simp[lkp]⟩⟩
   ·have htk:List.take (i*2) (lnE l)=lnE l:=List.take_of_length_le (by omega);rw[accB_pos (by omega),zWZ h0,List.cons_append,List.nil_append]
    repeat' (first|refine zQQ 131645 ?_|refine zQW ?_|(refine stp ?_;simp only[go_sem,e1,hll,hl,htk])|(refine drawQ (id:=7) mixed [(0,[]),(1,[]),(2,[]),(3,[]),(5,[]),(6,[]),(7,[]),(8,[]),(4,[]),(9,[]),(10,[4]),(11,[]),(12,[]),(13,[]),(14,[]),(15,[]),(16,[]),(17,[])] (by kernel_rfl) ?_;simp only[go_sem,hI,e1,e3])|(refine Eff.atR (hcb ) rfl [im] rfl (by first|(simp[hI];done)|fail) rfl ?_;(try simp only[go_sem]))|(simp only[go_sem,e2,e4])|(simp (disch:=omega) only[zQK])|(refine spl (fun h=>?_) (fun h=>?_)<;>first|omega|try simp only[go_sem,h])|(refine zQP ?_ ?_;focus omega))
    have hx:=Bg.above (B:=B') (t:=T) (t':=T+2) (X:=[(T+1,.cells [.slice (some ⟨T,0⟩) 64 64] 40 0 true 0),(T,.cells (zQZ (zU 64)) 5 0 true 0)]) (by omega) (by simp[keysGe]) (by simp[keysOK,lkp]) (by simp);simp only[List.cons_append,List.nil_append] at hx
    haveI:=hx.1;have hre:renL (nam T [T+20,T+13,T,T+21]) (lnE (l++[T+1]))=lnE l++[.slice (some ⟨T+13,0⟩) 1 1,.int .i64 (-1)]:=by
     show renL _ (lnE (l++[T+1]))=_;rw[lnE_append,renL_append,lnE_ren fun b hb=>by simp only[nam];rw[if_pos (hlt b hb)]];simp[lnE,renL,EV.ren,nam]
    have hbe:∀ k,zQX (T+2+k) (lnE (l++[T+1]))=True:=fun k=>eq_true (lnE_below (l:=l++[T+1]) fun b hb=>by
     rcases List.mem_append.1 hb with q | q
     ·have:=hlt b q;omega
     ·simp at q;omega)
    have hT3:T+2+1=T+3∧T+2+2=T+4∧((64*(0+1):Nat):Int)=64∧((64*1:Nat):Int)=64:=⟨rfl,rfl,rfl,rfl⟩;have hab:∀ k,accB k (lnE (l++[T+1])) 199 2=[(k,.cells (lnE (l++[T+1])) 199 2 true 0)]:=fun k=>accB_pos (by show 0<(lnE (l++[T+1])).length;rw[lnE_length,List.length_append];show 0<(_+1)*2;omega)
    have hbr:∀ π,renL π (zQZ (zU 64))=zQZ (zU 64):=fun π=>bytesE_ren _ _
    have hbb:∀ k,zQX k (zQZ (zU 64))=True:=fun k=>eq_true (bytesE_below _ _)
    (refine ⟨(i+1,l++[T+1],(T+1,.cells [.slice (some ⟨T,0⟩) 64 64] 40 0 true 0)::(T,.cells (zQZ (zU 64)) 5 0 true 0)::B',T+2),T,[T+20,T+13,T,T+21],?_,?_,rfl,rfl,?_,⟨?_,rfl,?_,?_,?_,?_,?_⟩⟩;rotate_left;(focus (simp only[];omega));(focus (simp only[go_sem,zWQ,show im<T+4 by omega,himT]));(focus (omega));(focus simp);(focus (simp));(focus (simp only[];omega));(focus (simp[hT3,hab,accE_app1,hbe 2,hbb,show im<T+4 by omega]));(focus (simp[hT3,hab,accE_app1,hre,hbr,show im<T+4 by omega]));(try simp only[]))
    all_goals (skip)
    refine ⟨hin,by show (l++[T+1]).length=_;rw[List.length_append,hl];rfl,hx.1,he.trans hx.2,fun b hb=>?_⟩
    rcases List.mem_append.1 (show b∈l++[T+1] from hb) with q | q
    ·obtain ⟨q1,y,q2,q3⟩:=hal b q;exact ⟨by show b<T+2;omega,y,q2.mono hx.2,q3.mono hx.2⟩
    ·obtain rfl:b=T+1:=by simpa using q
     exact ⟨Nat.lt_succ_self _,T,⟨Nat.lt_succ_self _,by simp[lkp]⟩,⟨by show T<T+2;omega,by simp[lkp]⟩⟩
  ·obtain rfl:i=n:=by omega
   rw[accB_pos (by omega),zWZ (by omega),List.cons_append,List.nil_append]
   repeat' (first|refine zQQ 131645 ?_|(refine stp ?_;simp only[go_sem])|(refine spl (fun h=>?_) (fun h=>?_)<;>first|omega|try simp only[go_sem,h])|fail)
   have hb1:zQX (T+2) (lnE l):=lnE_below fun b hb=>by have:=(hal b hb).1;omega
   have hx:=Bg.above (B:=B') (t:=T) (t':=T+2) (X:=[(T+1,.cells (lnE l) 199 2 true 0),(T,.cells [.int .i64 (64*i:Nat),.slice (some ⟨T+1,0⟩) i i,.int .i64 0,.slice none 0 0,.int .i64 0,.bool false] 197 0 true 0)]) (by omega) (by simp[keysGe]) (by simp[keysOK,lkp]) (by simp[hb1]);simp only[List.cons_append,List.nil_append] at hx
   refine zWJ hQ (by omega) hx.1.below (by simp[EV.bel,zQX]) ⟨_,T,T+1,l,rfl,rfl,hx.1,he.trans hx.2,⟨⟨by omega,by simp[lkp]⟩,⟨by omega,by simp[lkp]⟩,hl,fun x hx'=>?_,h1,h2⟩⟩;obtain ⟨q1,y,q2,q3⟩:=hal x hx';exact ⟨y,q2.mono hx.2,q3.mono hx.2⟩
end
section
theorem dropL_selfG {T:Nat} {c:List EV} {ty z:Nat} {B:List (Nat × EO)} [h:Bg T B]:dropL (accB T c ty z++B) T=B:=by
 rw[dropL_append,Bg.dropL0 (B:=B)];unfold accB;split
 ·rfl
 ·simp[dropL]
variable (B:List (Nat × EO)) {t r la n:Nat} {xs:List Nat}
theorem rlopen_c (G:List Gl) [hB:Bg t B] (hd:RefG B t r la n xs) (x m:Nat) (h1:64≤x) (h2:x % 64=0) (h3:128≤m) (h4:m % 64=0) (h5:x+m≤64*n) :
  EffW G Tryz.prog 62 [.ptr (some ⟨r,0⟩),.int .i64 x,.int .i64 m] t [] B 0 (.tuple [.ptr (some ⟨t,0⟩),.int .i64 0]) [(t,.cells [.ptr (some ⟨r,0⟩),.int .i64 x,.int .i64 m] 201 0 true 0)] B 1:=by
 have q1:=hd.pos;have q2:=hd.top;have hdt:=hd.dev.lt;have hD:=hd.dev.f;have e1:(x:Int) % 64=0:=by omega
 have e2:(m:Int) % 64=0:=by omega
 refine EffW.enter fun Q hQ=>?_
 simp only[List.nil_append,Nat.add_zero];refine zQV 49 [.tmp 6,.tmp 7] Tryz.func62 ?_
 repeat' (first|refine zQQ 8796093022919 ?_|(refine stp ?_;simp only[go_sem])|(simp only[go_sem,hD,e1,e2])|(simp (disch:=omega) only[zQK,tmodE])|(refine spl (fun h=>?_) (fun h=>?_)<;>first|omega|((try simp only[opRun]);(try simp only[go_sem,hD,h])))|fail)
 refine done_W2 hQ [t] ?_ ?_ ?_<;>(first|(simp[hdt];done)|(simp;omega))
def RLogG (B:List (Nat × EO)) (t r lg x m:Nat):Prop:=AtG B t lg (.cells [.ptr (some ⟨r,0⟩),.int .i64 x,.int .i64 m] 201 0 true 0)
theorem rseen_c (G:List Gl) [hB:Bg t B] (hd:RefG B t r la n xs) (i y:Nat) (hi:i<n) (x:Nat) (hx:xs[i]? = some x) (hy:AtG B t x (.cells [.slice (some ⟨y,0⟩) 64 64] 40 0 true 0)):EffW G Tryz.prog 222 [.ptr (some ⟨r,0⟩),.int .i64 i] t [] B 0 (.slice (some ⟨y,0⟩) 64 64) [] B 0:=by
 have q2:=hd.top;have hD:=hd.dev.f;have hA:=hd.arr.f;have hX:=hy.f;obtain ⟨g1,g2⟩:=lnE_get hx;rw[Nat.mul_comm 2 i] at g1 g2
 have g3:=lnE_length xs;have g4:=hd.len;obtain ⟨y',q3,q4⟩:=hd.ln x (List.mem_of_getElem? hx);have hyt:y<t:=by
  have e:=q3.lk.symm.trans hy.lk;simp at e
  rw[← e];exact q4.lt
 refine EffW.enter fun Q hQ=>?_
 simp only[List.nil_append,Nat.add_zero];refine zQV 20 [.tmp 4] Tryz.func222 ?_
 repeat' (first|refine zQQ 51 ?_|(refine stp ?_;simp only[go_sem,hD,hA,hX,g1])|(refine zQP ?_ ?_;focus omega))
 refine done_W2 hQ [] ?_ ?_ ?_<;>(simp[hyt])
theorem rinside_c (G:List Gl) [hB:Bg t B] (hd:RefG B t r la n xs) (x m:Nat) (h:x+m≤64*n):EffW G Tryz.prog 221 [.ptr (some ⟨r,0⟩),.int .i64 x,.int .i64 m] t [] B 0 (.bool true) [] B 0:=by
 have q2:=hd.top;have hD:=hd.dev.f;refine EffW.enter fun Q hQ=>?_
 simp only[List.nil_append,Nat.add_zero];refine zQV 31 [.tmp 6] Tryz.func221 ?_
 repeat' (first|refine zQQ 71 ?_|(refine stp ?_;simp only[go_sem])|(simp (disch:=omega) only[zQK])|(refine spl (fun h=>?_) (fun h=>?_)<;>first|omega|((try simp only[opRun]);(try simp only[go_sem,hD,h])))|fail)
 all_goals (refine done_W2 hQ [] ?_ ?_ ?_<;>(first|(simp;done)|(simp;omega)))
theorem rload_c (G:List Gl) [hB:Bg t B] (hd:RefG B t r la n xs) (x m:Nat) (h:x+m≤64*n) (h0:0<m):EffW G Tryz.prog 215 [.ptr (some ⟨r,0⟩),.int .i64 x,.int .i64 m] t [] B 0 (.tuple [.slice (some ⟨t,0⟩) m m,.int .i64 0]) [(t,.cells (zQZ (zU m)) 5 1 true 0)] B 1:=by
 have q2:=hd.top;have hD:=hd.dev.f;have hdt:=hd.dev.lt;have hin:=rinside_c B G hd x m h;have hzl:∀ k,(zQZ (zU k)).length=k:=fun k=>by rw[zQY,zU_length]
 have hz1:∀ k,zQZ (zU (k+1))=zQZ (zU k)++[.int .u8 0]:=fun k=>by
  rw[show ([EV.int .u8 0]:List EV)=zQZ (zU 1) from rfl,← bytesE_append]
  congr 1
  simp only[zU,List.replicate_append_replicate]
 have hzo:∀ k,(zQZ (zU k)).all EV.one=true:=fun k=>by rw[List.all_eq_true];intro v hv;unfold zQZ at hv;obtain ⟨_,_,rfl⟩:=List.mem_map.1 hv;rfl
 refine EffW.enter fun Q hQ=>?_
 simp only[List.nil_append,Nat.add_zero];refine zQV 39 [.tmp 6,.tmp 7] Tryz.func215 ?_
 repeat' (first|refine zQQ 17048519 ?_|refine zQW ?_|(refine stp ?_;simp only[go_sem,hD])|(refine EffW.at (hin ) [] rfl (by first|(simp[hdt,zWW hdt];done)|fail) ?_;(try simp only[go_sem]))|fail)
 refine zWV (fun i:Nat=>[(0,.ptr (some ⟨r,0⟩)),(1,.int .i64 x),(2,.int .i64 m),(8,accE t i),(9,.int .i64 (x+i:Nat))]) (fun i:Nat=>accB t (zQZ (zU i)) 5 1++B) (fun i:Nat=>t+1) (fun i:Nat=>i≤m) (fun i:Nat=>m - i) (0) ?_ ?_ ?_ ?_ ?_
 ·rintro i -
  refine ⟨by simp[frBel,show r<t+1 by omega],?_,by show t≤t+1;omega⟩;rw[blBelow_acc (by simp) (bytesE_below _ _)];simp
 ·exact Nat.zero_le _
 ·simp only[go_sem,zWQ,Nat.add_zero,accE_zero]
 ·show lessL _ B;simp only[go_sem]
 ·rintro i hi
  simp only at hi ⊢
  rcases Nat.lt_or_ge i m with him | him
  ·obtain ⟨b,hb⟩:∃ b,xs[(x+i) / 64]? = some b:=⟨xs[(x+i) / 64]'(by have:=hd.len;omega),List.getElem?_eq_getElem _⟩;obtain ⟨y,q3,q4⟩:=hd.ln b (List.mem_of_getElem? hb);have hse:=rseen_c B G hd ((x+i) / 64) y (by omega) b hb q3;have hyt:=q4.lt;have hY:=q4.f;have e1:((x+i:Nat):Int) / 64=(((x+i) / 64:Nat):Int):=by omega
   have e2:((x+i:Nat):Int) % 64=(((x+i) % 64:Nat):Int):=by omega
   have e3:((x:Int)+(m:Int))=((x+m:Nat):Int):=by omega
   have hg:=zU_get (m:=64) (i:=(x+i) % 64) (by omega);have hbr:∀ k π,renL π (zQZ (zU k))=zQZ (zU k):=fun k π=>bytesE_ren _ _
   have hbb:∀ k j,zQX j (zQZ (zU k))=True:=fun k j=>eq_true (bytesE_below _ _)
   repeat' (first|refine zQQ 17048519 ?_|refine zQW ?_|(refine stp ?_;simp only[go_sem,e3])|(refine EffW.at (hse ) [] rfl (by first|(simp[hdt,zWW hdt,zWW hyt];done)|fail) ?_;(try simp only[go_sem,hY,e1,zWW hdt,zWW hyt]))|(refine appTo_acc (c:=zQZ (zU i)) (by omega) (by first|(simp[hzl];done)|fail) (by first|(simp;done)|fail) (by first|(simp;done)|fail) (by omega) (by first|(simp;done)|fail) (by first|(simp[EV.one];done)|fail) (by simp;omega) ?_;(try simp only[go_sem]))|(simp only[go_sem,e2,hg])|(simp (disch:=omega) only[zQK,tdivE,tmodE])|(refine spl (fun h=>?_) (fun h=>?_)<;>first|omega|try simp only[go_sem,h])|(refine zQP ?_ ?_;focus omega))
   rw[dropL_selfG];have hab:∀ k,accB k (zQZ (zU i)++[.int .u8 0]) 5 1=[(k,.cells (zQZ (zU i)++[.int .u8 0]) 5 1 true 0)]:=fun k=>accB_pos (by simp)
   have hsub:[t+2].getD (t - t) 0=t+2:=by rw[Nat.sub_self];rfl
   (refine ⟨(i+1),t,[t+2],?_,?_,rfl,rfl,?_,⟨?_,rfl,?_,?_,?_,?_,?_⟩⟩;rotate_left;(focus (simp only[];omega));(focus ((try simp only[go_sem,zWQ,hsub,accE_app1,hdt]);((repeat' apply And.intro)<;>(rfl))));(focus (omega));(focus simp);(focus (simp));(focus (simp only[];omega));(focus (simp[hz1,hab,hbb,zWX]));(focus (simp[hz1,hab,hbr,renL_append]));(try simp only[]))
   exact him
  ·obtain rfl:i=m:=by omega
   rw[accB_pos (by rw[hzl];exact h0),zWZ h0,List.cons_append,List.nil_append]
   repeat' (first|refine zQQ 17048519 ?_|(refine stp ?_;simp only[go_sem])|(simp (disch:=omega) only[zQK])|(refine spl (fun h=>?_) (fun h=>?_)<;>first|omega|try simp only[go_sem,h])|fail)
   (refine done_W2 hQ [t] ?_ ?_ ?_<;>(simp))
end
section
theorem rtake_c (G:List Gl) (z f:Nat) (w:Bool):Eff G Tryz.prog 216 [.slice (some ⟨0,0⟩) 8 8,.int .i64 0,.int .i64 8] [(0,.cells (zQZ (zU 8)) 5 z w f)] 1 (.tuple [.int .u64 0,.int .i64 0]) [(0,.cells (zQZ (zU 8)) 5 z w f)] 1:=by
 unfold Eff;refine zQV 43 [.tmp 6,.tmp 7] Tryz.func216 ?_;have e8:zQZ (zU 8)=[.int .u8 0,.int .u8 0,.int .u8 0,.int .u8 0,.int .u8 0,.int .u8 0,.int .u8 0,.int .u8 0]:=rfl;rw[e8]
 repeat' (first|refine zQQ 570426311 ?_|refine zQW ?_|(refine stp ?_;simp only[go_sem])|(simp only[go_sem])|(refine esem_loopN 570426311 9 ?_;simp only[go_sem])|(simp (disch:=omega) only[wrapU64E])|fail)
 all_goals exact done_eff [] (by simp) (by simp) (by simp) (by simp) (by simp) (by simp) rfl (by simp) (by simp)
variable (B:List (Nat × EO)) {t r la n:Nat} {xs:List Nat}
theorem rnumber_c (G:List Gl) [hB:Bg t B] (hd:RefG B t r la n xs) {lg x m:Nat} (hl:RLogG B t r lg x m) (hx:x+8≤64*n):EffW G Tryz.prog 212 [.ptr (some ⟨lg,0⟩),.int .i64 x] t [] B 0 (.int .u64 0) [] B 0:=by
 have hdt:=hd.dev.lt;have hL:=AtG.f hl;have hlo:=rload_c B G hd x 8 hx (by omega);have htk:=rtake_c G 1 0 true;refine EffW.enter fun Q hQ=>?_
 simp only[List.nil_append,Nat.add_zero];refine zQV 24 [.tmp 4] Tryz.func212 ?_
 repeat' (first|refine zQQ 179 ?_|(refine stp ?_;simp only[go_sem,hL])|(refine EffW.at (hlo ) [] rfl (by first|(simp[hdt,zWW hdt];done)|fail) ?_;(try simp only[go_sem]))|(refine Eff.atR (htk ) rfl [t] rfl (by first|(simp;done)|fail) rfl ?_;(try simp only[go_sem]))|fail)
 all_goals (refine done_W2 hQ [] ?_ ?_ ?_<;>(simp))
theorem rrecs_c (G:List Gl) [hB:Bg t B] (hd:RefG B t r la n xs) {lg x m:Nat} (hl:RLogG B t r lg x m) (hx:x+8≤64*n) (hm:m≤4194304):EffW G Tryz.prog 202 [.ptr (some ⟨lg,0⟩)] t [] B 0 (.tuple [.slice none 0 0,.int .i64 0]) [] B 0:=by
 have q2:=hd.top;have hD:=hd.dev.f;have hlt:=AtG.lt hl;have hL:=AtG.f hl;have hnu:=rnumber_c B G hd hl hx;refine EffW.enter fun Q hQ=>?_
 simp only[List.nil_append,Nat.add_zero];refine zQV 59 [.tmp 2,.tmp 3] Tryz.func202 ?_
 repeat' (first|refine zQQ 1126450736531453 ?_|refine zQW ?_|(refine stp ?_;simp only[go_sem,hL,hD])|(refine EffW.at (hnu ) [] rfl (by first|(simp[hlt,zWW hlt];done)|fail) ?_;(try simp only[go_sem]))|(refine esem_loopN 1126450736531453 1 ?_;simp only[go_sem])|(simp (disch:=omega) only[wrapU64E])|(refine spl (fun h=>?_) (fun h=>?_)<;>first|omega|try simp only[go_sem,h])|fail)
 all_goals (refine done_W2 hQ [] ?_ ?_ ?_<;>(simp))
def RPoolG (B:List (Nat × EO)) (t r lg pl:Nat) (op:EV):Prop:=AtG B t pl (.cells [.ptr (some ⟨r,0⟩),.ptr (some ⟨lg,0⟩),op] 204 0 true 0)
theorem rpnew_c (G:List Gl) [hB:Bg t B] {lg:Nat} (hr:r<t) (hl:lg<t):EffW G Tryz.prog 63 [.ptr (some ⟨r,0⟩),.ptr (some ⟨lg,0⟩)] t [] B 0 (.tuple [.ptr (some ⟨t,0⟩),.int .i64 0]) [(t,.cells [.ptr (some ⟨r,0⟩),.ptr (some ⟨lg,0⟩),.ptr none] 204 0 true 0)] B 1:=by
 refine EffW.enter fun Q hQ=>?_
 simp only[List.nil_append,Nat.add_zero];refine zQV 16 [.tmp 4,.tmp 5] Tryz.func63 ?_
 repeat' (first|refine zQQ 2099 ?_|(refine stp ?_;simp only[go_sem])|fail)
 refine done_W2 hQ [t] ?_ ?_ ?_<;>(first|(simp[hr,hl];done)|(simp;omega))
theorem rstate_c (G:List Gl) [hB:Bg t B] (hd:RefG B t r la n xs) {lg x m pl:Nat} {op:EV} (hl:RLogG B t r lg x m) (hx:x+8≤64*n) (hm:m≤4194304) (hp:RPoolG B t r lg pl op):EffW G Tryz.prog 180 [.ptr (some ⟨pl,0⟩)] t [] B 0 (.int .i64 0) [] B 0:=by
 have hlt:=AtG.lt hl;have hP:=AtG.f hp;have hre:=rrecs_c B G hd hl hx hm;refine EffW.enter fun Q hQ=>?_
 simp only[List.nil_append,Nat.add_zero];refine zQV 19 [.tmp 2] Tryz.func180 ?_
 repeat' (first|refine zQQ 278557 ?_|(refine stp ?_;simp only[go_sem,hP])|(refine EffW.at (hre ) [] rfl (by first|(simp[hlt,zWW hlt];done)|fail) ?_;(try simp only[go_sem]))|fail)
 (refine done_W2 hQ [] ?_ ?_ ?_<;>(simp))
theorem rtbegin_c (G:List Gl) [hB:Bg t B] (hd:RefG B t r la n xs) {lg x m pl:Nat} (hl:RLogG B t r lg x m) (hx:x+8≤64*n) (hm:m≤4194304) (hp:RPoolG B t r lg pl (.ptr none)):EffR G Tryz.prog 138 [.ptr (some ⟨pl,0⟩)] B t (fun v bl nx=>v=.tuple [.ptr (some ⟨t,0⟩),.int .i64 0]∧Bg nx bl∧nx=t+1∧(∀ j,j<t→j ≠ pl→lkp bl j=lkp B j)):=by
 have hdt:=hd.dev.lt;have hlt:=AtG.lt hl;have hpt:=AtG.lt hp;have hD:=hd.dev.f;have hP:=AtG.f hp;have hst:=rstate_c B G hd hl hx hm hp;refine EffR.enter fun Q hQ=>?_
 refine zQV 32 [.tmp 2,.tmp 3] Tryz.func138 ?_
 repeat' (first|refine zQQ 1116189 ?_|(refine stp ?_;simp only[go_sem,hP,hD,lkp_setL,Option.map_some])|(refine EffW.at (hst ) [] rfl (by first|(simp[hpt,zWW hpt];done)|fail) ?_;(try simp only[go_sem]))|fail)
 obtain ⟨b1,b2,b3⟩:=Bg.turn (B:=B) (t:=t) (t':=t+1) (r:=pl) (o:=.cells [.ptr (some ⟨r,0⟩),.ptr (some ⟨lg,0⟩),.ptr (some ⟨t,0⟩)] 204 0 true 0) (X:=[(t,.cells [.ptr (some ⟨pl,0⟩),.slice none 0 0,.bool false] 296 0 true 0)]) (by omega) (by simp[keysGe]) (by simp[keysOK,lkp]) (by simp;omega) (by simp[EO.bel,zQX,EV.bel];omega);simp only[List.cons_append,List.nil_append] at b1 b2 b3
 exact zWJ hQ (by omega) b1.below (by simp[EV.bel,zQX]) ⟨rfl,b1,rfl,b2⟩
theorem rhsize_c (G:List Gl) [hB:Bg t B] (hd:RefG B t r la n xs) {lg pl:Nat} {op:EV} (hp:RPoolG B t r lg pl op):EffW G Tryz.prog 97 [.ptr (some ⟨pl,0⟩)] t [] B 0 (.int .i64 (64*n:Nat)) [] B 0:=by
 have hD:=hd.dev.f;have hP:=AtG.f hp;refine EffW.enter fun Q hQ=>?_
 simp only[List.nil_append,Nat.add_zero];refine zQV 10 [.tmp 2] Tryz.func97 ?_
 repeat' (first|refine zQQ 5 ?_|(refine stp ?_;simp only[go_sem,hP,hD])|fail)
 (refine done_W2 hQ [] ?_ ?_ ?_<;>(simp))
def blsE (m:Nat):List EV:=zerosE [.bool false] m
theorem blsE_below:∀ (m k:Nat),zQX k (blsE m)=True
 | 0,_=>eq_true trivial
 | m+1,k=>by
   unfold blsE;rw[zerosE,zWX,show zerosE [.bool false] m=blsE m from rfl,blsE_below m k];simp[zQX,EV.bel]
def RHeapG (B:List (Nat × EO)) (t pl hp y m lv:Nat) (op:EV):Prop:=AtG B t hp (.cells [.ptr (some ⟨pl,0⟩),.int .i64 y,.int .i64 m,.slice (some ⟨lv,0⟩) m m,op] 206 0 true 0)
theorem rhnew_c (G:List Gl) [hB:Bg t B] (hd:RefG B t r la n xs) {lg pl:Nat} {op:EV} (hp:RPoolG B t r lg pl op) (x m:Nat) (h1:128≤x) (h2:x % 64=0) (h3:x+256*m≤64*n):EffR G Tryz.prog 64 [.ptr (some ⟨pl,0⟩),.int .i64 x,.int .i64 m] B t (fun v bl nx=>v=.tuple [.ptr (some ⟨t+1,0⟩),.int .i64 0]∧Bg nx bl∧Ext B t bl nx∧nx=t+2∧RHeapG bl nx pl (t+1) x m t (.ptr none)):=by
 have q1:=hd.pos;have q2:=hd.top;have hpt:=AtG.lt hp;have hsi:=rhsize_c B G hd hp;have e1:(x:Int) % 64=0:=by omega
 have e2:(((64*n:Nat):Int) - x) / 256=(((64*n - x) / 256:Nat):Int):=by omega
 have e3:m≤(64*n - x) / 256:=by omega
 refine EffR.enter fun Q hQ=>?_
 refine zQV 43 [.tmp 6,.tmp 7] Tryz.func64 ?_
 repeat' (first|refine zQQ 34359739079 ?_|(refine stp ?_;simp only[go_sem])|(refine EffW.at (hsi ) [] rfl (by first|(simp[hpt,zWW hpt];done)|fail) ?_;(try simp only[go_sem]))|((refine eop_makeSlice ?_;unfold eMakeSlice);simp only[go_sem])|(simp only[go_sem,e1,e2])|(simp (disch:=omega) only[zQK,tdivE,tmodE])|(refine spl (fun h=>?_) (fun h=>?_)<;>first|omega|((try simp only[opRun]);(try simp only[go_sem,h])))|(refine zQP ?_ ?_;focus omega))
 have hbz:=blsE_below m;have hx:=Bg.above (B:=B) (t:=t) (t':=t+2) (X:=[(t+1,.cells [.ptr (some ⟨pl,0⟩),.int .i64 x,.int .i64 m,.slice (some ⟨t,0⟩) m m,.ptr none] 206 0 true 0),(t,.cells (blsE m) 4 0 true 0)]) (by omega) (by simp[keysGe]) (by simp[keysOK,lkp]) (by simp[hbz];omega);simp only[List.cons_append,List.nil_append] at hx
 exact zWJ hQ (by omega) hx.1.below (by simp[EV.bel,zQX]) ⟨rfl,hx.1,hx.2,rfl,⟨by omega,by simp[lkp]⟩⟩
theorem rhopen_c (G:List Gl) [hB:Bg t B] {pl hp y m lv:Nat} (hh:RHeapG B t pl hp y m lv (.ptr none)):EffW G Tryz.prog 98 [.ptr (some ⟨hp,0⟩)] t [] B 0 (.bool false) [] B 0:=by
 have hH:=AtG.f hh;refine EffW.enter fun Q hQ=>?_
 simp only[List.nil_append,Nat.add_zero];refine zQV 18 [.tmp 2] Tryz.func98 ?_
 repeat' (first|refine zQQ 5 ?_|(refine stp ?_;simp only[go_sem,hH])|fail)
 (refine done_W2 hQ [] ?_ ?_ ?_<;>(simp))
theorem rhload_c (G:List Gl) [hB:Bg t B] {pl hp y m lv:Nat} (hh:RHeapG B t pl hp y m lv (.ptr none)) (hm:m≤100000) (hpt:pl<t):EffR G Tryz.prog 65 [.ptr (some ⟨hp,0⟩),.slice none 0 0] B t (fun v bl nx=>v=.int .i64 0∧Bg nx bl∧nx=t+1∧(∀ j,j<t→j ≠ hp→lkp bl j=lkp B j)∧RHeapG bl nx pl hp y m t (.ptr none)):=by
 have hH:=AtG.f hh;have hht:=AtG.lt hh;have hop:=rhopen_c B G hh;refine EffR.enter fun Q hQ=>?_
 refine zQV 55 [.tmp 4] Tryz.func65 ?_
 repeat' (first|refine zQQ 17592186175859 ?_|refine zQW ?_|(refine stp ?_;simp only[go_sem,hH])|(refine EffW.at (hop ) [] rfl (by first|(simp[hht,zWW hht];done)|fail) ?_;(try simp only[go_sem]))|((refine eop_makeSlice ?_;unfold eMakeSlice);simp only[go_sem])|(refine esem_loopN 17592186175859 1 ?_;simp only[go_sem])|(refine zQP ?_ ?_;focus omega))
 have hbz:=blsE_below m;obtain ⟨b1,b2,b3⟩:=Bg.turn (B:=B) (t:=t) (t':=t+1) (r:=hp) (o:=.cells [.ptr (some ⟨pl,0⟩),.int .i64 y,.int .i64 m,.slice (some ⟨t,0⟩) m m,.ptr none] 206 0 true 0) (X:=[(t,.cells (blsE m) 4 0 true 0)]) (by omega) (by simp[keysGe]) (by simp[keysOK,lkp]) (by simp[hbz]) (by simp[EO.bel,zQX,EV.bel];omega);simp only[List.cons_append,List.nil_append] at b1 b2 b3
 exact zWJ hQ (by omega) b1.below (by simp[EV.bel]) ⟨rfl,b1,rfl,b2,⟨by omega,b3 _ hht hh.lk⟩⟩
theorem rhbegin_c (G:List Gl) [hB:Bg t B] (hd:RefG B t r la n xs) {lg pl hp x m y k lv:Nat} (hl:RLogG B t r lg x m) (hx:x+8≤64*n) (hm:m≤4194304) (hp_:RPoolG B t r lg pl (.ptr none)) (hh:RHeapG B t pl hp y k lv (.ptr none)) (hk:k≤100000) (hlv:lv<t) (hne:hp ≠ pl):EffR G Tryz.prog 100 [.ptr (some ⟨hp,0⟩)] B t (fun v bl nx=>(∃ w,v=.tuple [.ptr (some ⟨w,0⟩),.int .i64 0]∧w<nx)∧Bg nx bl∧t≤nx∧(∀ j,j<t→j ≠ pl→j ≠ hp→lkp bl j=lkp B j)):=by
 have hH:=AtG.f hh;have hht:=AtG.lt hh;have hpt:=AtG.lt hp_;have htb:=rtbegin_c B G hd hl hx hm hp_;refine EffR.enter fun Q hQ=>?_
 refine zQV 38 [.tmp 2,.tmp 3] Tryz.func100 ?_
 repeat' (first|refine zQQ 32829 ?_|(refine stp ?_;simp only[go_sem,hH])|(refine EffR.at htb ?_)|(simp only[go_sem])|fail)
 rintro v B1 nx ⟨rfl,hB1,hnx,hsame⟩
 haveI:=hB1;have hh1:RHeapG B1 nx pl hp y k lv (.ptr none):=⟨by omega,by rw[hsame hp hht hne];exact hh.lk⟩;have hH1:=AtG.f hh1;have htn:t<nx:=by omega
 repeat' (first|refine zQQ 32829 ?_|(refine stp ?_;simp only[go_sem,hH1,lkp_setL,Option.map_some])|(refine drawQ (id:=4) mixed [(0,[]),(1,[]),(2,[]),(3,[]),(4,[]),(5,[]),(8,[]),(9,[]),(10,[]),(6,[]),(11,[]),(7,[]),(12,[]),(13,[]),(14,[]),(15,[]),(16,[]),(17,[])] (by kernel_rfl) ?_;simp only[go_sem,hH1])|(refine zQP ?_ ?_;focus omega))
 have hbz:=blsE_below k;obtain ⟨b1,b2,b3⟩:=Bg.turn (B:=B1) (t:=nx) (t':=nx+18) (r:=hp) (o:=.cells [.ptr (some ⟨pl,0⟩),.int .i64 y,.int .i64 k,.slice (some ⟨lv,0⟩) k k,.ptr (some ⟨nx+14,0⟩)] 206 0 true 0) (X:=[(nx+14,.cells [.ptr (some ⟨hp,0⟩),.ptr (some ⟨t,0⟩),.slice (some ⟨nx+7,0⟩) k k,.slice (some ⟨nx+12,0⟩) k k,.bool false] 249 0 true 0),(nx+12,.cells (blsE k) 4 0 true 0),(nx+7,.cells (blsE k) 4 0 true 0)]) (by omega) (by simp[keysGe]) (by simp[keysOK,lkp]) (by simp[hbz];omega) (by simp[EO.bel,zQX,EV.bel];omega);simp only[List.cons_append,List.nil_append] at b1 b2 b3
 exact zWJ hQ (by omega) b1.below (by simp[EV.bel,zQX]) ⟨⟨_,rfl,by omega⟩,b1,by omega,fun j hj h1 h2=>(b2 j (by omega) h2).trans (hsame j hj h1)⟩
end
section
theorem within_c (G:List Gl) (i n:Nat) (h0:1≤n) (hi:i≤9000000000) (hn:n≤9000000000):E.Pure G Tryz.prog 9 [.int .i64 i,.int .i64 n] (.int .i64 (i % n:Nat)):=by
 refine pure_hid fun V hV=>?_
 have h1:(i:Int) % (n:Int)=((i % n:Nat):Int):=rfl;have h2:0≤((i % n:Nat):Int):=Int.natCast_nonneg _;have h3:i % n≤i:=Nat.mod_le _ _;have h4:(n:Int) ≠ 0:=by omega
 refine zQV 14 [.tmp 4] Tryz.func9 ?_;generalize hm:i % n=m at *
 repeat' (first|refine zQQ 531 ?_|(refine stp ?_;simp only[go_sem])|(simp only[go_sem,h1])|(simp (disch:=omega) only[zQK,wrapU8E,wrapU16E,wrapU32E,wrapU64E,wrapI32E,tdivE,tmodE])|(refine spl (fun h=>?_) (fun h=>?_)<;>first|omega|try simp only[go_sem,h])|(refine zQP ?_ ?_;focus omega))
 all_goals (refine done_zero (by simp[EV.bel]) ?_;rw[hV])
variable (B:List (Nat × EO)) {t:Nat}
theorem image_c (G:List Gl) [hB:Bg t B] (nb:Nat) (h1:1≤nb) (h2:nb≤60):EffW G Tryz.prog 53 [.agg [.int .i64 nb,.slice none 0 0,.slice none 0 0]] t [] B 0 (.tuple [.slice (some ⟨t,0⟩) (16512+256*nb) (16512+256*nb),.slice none 0 0]) [(t,.cells (zQZ (zU (16512+256*nb))) 5 0 true 0)] B 1:=by
 have hwi:=within_c G (nb - 1) 60 (by omega) (by omega) (by omega);rw[Nat.mod_eq_of_lt (by omega),show ((60:Nat):Int)=60 from rfl] at hwi
 have e1:(nb:Int) - 1=((nb - 1:Nat):Int):=by omega
 have e2:(1:Int)+((nb - 1:Nat):Int)=(nb:Int):=by omega
 have e3:(16512:Int)+256*(nb:Int)=((16512+256*nb:Nat):Int):=by omega
 refine EffW.enter fun Q hQ=>?_
 simp only[List.nil_append,Nat.add_zero];refine zQV 83 [.tmp 2,.tmp 3] Tryz.func53 ?_
 repeat' (first|refine zQQ 9223936086454046719 ?_|refine zQW ?_|(refine stp ?_;simp only[go_sem,e1])|(refine Pure.at (hwi) (by simp) (by simp) rfl ?_;(try simp only[go_sem,e2]))|((refine eop_makeSlice ?_;unfold eMakeSlice);simp only[go_sem,Int.toNat_natCast])|(simp only[go_sem,e3,Int.toNat_natCast])|(refine esem_loopN 9223936086454046719 1 ?_;simp only[go_sem])|(simp (disch:=omega) only[zQK])|(refine zQP ?_ ?_;focus omega))
 (refine done_W2 hQ [t+1] ?_ ?_ ?_<;>(simp))
def tyE:EO→Nat
 | .cells _ ty _ true _=>ty
 | _=>0
structure Keep (bad:List Nat) (B:List (Nat × EO)) (t:Nat) (B':List (Nat × EO)) (t':Nat):Prop where
 le:t≤t'
 keep:∀ {b:Nat} {o:EO},AtG B t b o→tyE o ∉ bad→AtG B' t' b o
theorem Keep.of {bad:List Nat} {B B':List (Nat × EO)} {t t':Nat} (e:Ext B t B' t'):Keep bad B t B' t':=⟨e.le,fun h _=>h.mono e⟩
theorem Keep.trans {bad:List Nat} {B B1 B2:List (Nat × EO)} {t t1 t2:Nat} (h:Keep bad B t B1 t1) (k:Keep bad B1 t1 B2 t2):Keep bad B t B2 t2:=⟨Nat.le_trans h.le k.le,fun a hb=>k.keep (h.keep a hb) hb⟩
theorem Keep.of1 {bad:List Nat} {B B':List (Nat × EO)} {t t' p:Nat} {o1:EO} (h1:AtG B t p o1) (ht:t≤t') (hs:∀ j,j<t→j ≠ p→lkp B' j=lkp B j) (hb:tyE o1∈bad):Keep bad B t B' t':=
 ⟨ht,fun {b o} h hn=>⟨Nat.lt_of_lt_of_le h.lt ht,(hs b h.lt fun e=>hn (by
  have:o1=o:=by have:=h1.lk;rw[← e,h.lk] at this;exact (Option.some.inj this).symm
  rw[← this];exact hb)).trans h.lk⟩⟩
theorem Keep.of2 {bad:List Nat} {B B':List (Nat × EO)} {t t' p q:Nat} {o1 o2:EO} (h1:AtG B t p o1) (h2:AtG B t q o2) (ht:t≤t') (hs:∀ j,j<t→j ≠ p→j ≠ q→lkp B' j=lkp B j) (hb1:tyE o1∈bad) (hb2:tyE o2∈bad):Keep bad B t B' t':=
 ⟨ht,fun {b o} h hn=>⟨Nat.lt_of_lt_of_le h.lt ht,(hs b h.lt (fun e=>hn (by
  have:o1=o:=by have:=h1.lk;rw[← e,h.lk] at this;exact (Option.some.inj this).symm
  rw[← this];exact hb1)) (fun e=>hn (by
  have:o2=o:=by have:=h2.lk;rw[← e,h.lk] at this;exact (Option.some.inj this).symm
  rw[← this];exact hb2))).trans h.lk⟩⟩
theorem DevG.keep {bad:List Nat} {B B':List (Nat × EO)} {t t' d a n:Nat} {lns:List Nat} (h:DevG B t d a n lns) (k:Keep bad B t B' t') (hb:∀ y∈[179,185,182],y ∉ bad):DevG B' t' d a n lns:=
 ⟨k.keep h.dev (hb _ (by simp[tyE])),k.keep h.arr (hb _ (by simp[tyE])),h.len,fun b hb'=>k.keep (h.ln b hb') (hb _ (by simp[tyE])),h.pos,h.top⟩
theorem RefG.keep {bad:List Nat} {B B':List (Nat × EO)} {t t' r la n:Nat} {xs:List Nat} (h:RefG B t r la n xs) (k:Keep bad B t B' t') (hb:∀ y∈[197,199,40,5],y ∉ bad):RefG B' t' r la n xs:=
 ⟨k.keep h.dev (hb _ (by simp[tyE])),k.keep h.arr (hb _ (by simp[tyE])),h.len,fun x hx=>by
  obtain ⟨y,q1,q2⟩:=h.ln x hx;exact ⟨y,k.keep q1 (hb _ (by simp[tyE])),k.keep q2 (hb _ (by simp[tyE]))⟩,h.pos,h.top⟩
abbrev badG:List Nat:=[193,165,204,206,83]
abbrev xO (d h w r g k:EV) (n:Nat):EO:=.cells [d,h,w,r,g,k,.int .i64 n] 83 0 true 0
abbrev pE (b:Nat):EV:=.ptr (some ⟨b,0⟩)
theorem gbegin_c (G:List Gl) [hB:Bg t B] {d a n lg pl hp lv r la rlg rpl rhp rlv X k:Nat} {lns xs:List Nat} (hd:DevG B t d a n lns) (hl:LogG B t d lg 128 16384) (hn:136≤64*n) (hpo:PoolG B t d lg pl (.ptr none)) (hhe:HeapG B t pl hp 16512 k lv (.ptr none)) (hlv:lv<t)
  (hr:RefG B t r la n xs) (hrl:RLogG B t r rlg 128 16384) (hrp:RPoolG B t r rlg rpl (.ptr none)) (hrh:RHeapG B t rpl rhp 16512 k rlv (.ptr none)) (hk:k≤100000) (hrlv:rlv<t) (hx:AtG B t X (xO (pE d) (pE hp) (.ptr none) (pE r) (pE rhp) (.ptr none) k)) :
  EffR G Tryz.prog 66 [.ptr (some ⟨X,0⟩)] B t (fun v bl nx=>v=.bool true∧Bg nx bl∧Keep badG B t bl nx∧∃ wk',PoolG bl nx d lg pl (.ptr (some ⟨t+1,0⟩))∧HeapG bl nx pl hp 16512 k lv (.ptr (some ⟨t+4,0⟩))∧AtG bl nx t (.map [])∧AtG bl nx (t+1) (.cells [.ptr (some ⟨pl,0⟩),.map (some t),.bool false] 163 0 true 0) ∧
   AtG bl nx (t+2) (.map [])∧AtG bl nx (t+3) (.map [])∧AtG bl nx (t+4) (.cells [.ptr (some ⟨hp,0⟩),.ptr (some ⟨t+1,0⟩),.map (some (t+2)),.map (some (t+3)),.int .i64 0,.bool false] 56 0 true 0)∧AtG bl nx X (xO (pE d) (pE hp) (pE (t+4)) (pE r) (pE rhp) (pE wk') k)):=by
 have hX:=AtG.f hx;have hXt:=hx.lt;have hht:=AtG.lt hhe;have hrht:=AtG.lt hrh;have ne1:hp ≠ pl:=fun e=>by have h3:=hhe.lk;rw[e,hpo.lk] at h3;simp at h3
 have ne2:rhp ≠ rpl:=fun e=>by have h3:=hrh.lk;rw[e,hrp.lk] at h3;simp at h3
 have hb1:=hbegin_c B G hd hl (by omega) (by omega) hpo hhe hlv ne1;refine EffR.enter fun Q hQ=>?_
 refine zQV 41 [.tmp 2] Tryz.func66 ?_
 repeat' (first|refine zQQ 125 ?_|(refine stp ?_;simp only[go_sem,hX])|(refine EffR.at hb1 ?_)|(simp only[go_sem])|fail)
 rintro v B1 nx ⟨_,rfl,rfl,hB1,hnx,hsame,hpo1,hhe1,hpu1,htx1,htk1,hgv1,hwk1⟩
 have hK1:Keep badG B t B1 nx:=Keep.of2 hpo hhe (by omega) hsame (by simp[tyE]) (by simp[tyE]);haveI:=hB1;have hx1:AtG B1 nx X (xO (pE d) (pE hp) (.ptr none) (pE r) (pE rhp) (.ptr none) k):=by
  have e1:X ≠ pl:=fun e=>by have h3:=hx.lk;rw[e,hpo.lk] at h3;simp at h3
  have e2:X ≠ hp:=fun e=>by have h3:=hx.lk;rw[e,hhe.lk] at h3;simp at h3
  exact ⟨by omega,by rw[hsame X hXt e1 e2];exact hx.lk⟩
 have hX1:=AtG.f hx1;have hr1:=hr.keep hK1 (by decide);have hrl1:RLogG B1 nx r rlg 128 16384:=hK1.keep hrl (by simp[tyE]);have hrp1:RPoolG B1 nx r rlg rpl (.ptr none):=⟨by have:=AtG.lt hrp;omega,by
  have e1:rpl ≠ pl:=fun e=>by have h3:=hrp.lk;rw[e,hpo.lk] at h3;simp at h3
  have e2:rpl ≠ hp:=fun e=>by have h3:=hrp.lk;rw[e,hhe.lk] at h3;simp at h3
  rw[hsame rpl (AtG.lt hrp) e1 e2];exact hrp.lk⟩
 have hrh1:RHeapG B1 nx rpl rhp 16512 k rlv (.ptr none):=⟨by omega,by
  have e1:rhp ≠ pl:=fun e=>by have h3:=hrh.lk;rw[e,hpo.lk] at h3;simp at h3
  have e2:rhp ≠ hp:=fun e=>by have h3:=hrh.lk;rw[e,hhe.lk] at h3;simp at h3
  rw[hsame rhp hrht e1 e2];exact hrh.lk⟩
 have hb2:=rhbegin_c (t:=nx) B1 G hr1 hrl1 (by omega) (by omega) hrp1 hrh1 hk (by omega) ne2
 repeat' (first|refine zQQ 125 ?_|(refine stp ?_;simp only[go_sem,hX1])|(refine EffR.at hb2 ?_)|(simp only[go_sem])|fail)
 rintro v B2 nx2 ⟨⟨wk',rfl,hwk2⟩,hB2,hnx2,hsame2⟩
 haveI:=hB2;have hx2:AtG B2 nx2 X (xO (pE d) (pE hp) (.ptr none) (pE r) (pE rhp) (.ptr none) k):=by
  have e1:X ≠ rpl:=fun e=>by have h3:=hx.lk;rw[e,hrp.lk] at h3;simp at h3
  have e2:X ≠ rhp:=fun e=>by have h3:=hx.lk;rw[e,hrh.lk] at h3;simp at h3
  exact ⟨by omega,by rw[hsame2 X (by omega) e1 e2];exact hx1.lk⟩
 have hX2:=AtG.f hx2;have hK2:Keep badG B1 nx B2 nx2:=Keep.of2 hrp1 hrh1 (by omega) hsame2 (by simp[tyE]) (by simp[tyE])
 repeat' (first|refine zQQ 125 ?_|(refine stp ?_;simp only[go_sem,hX2,lkp_setL,Option.map_some])|fail)
 rw[setL_setL];obtain ⟨b1,b2,b3⟩:=Bg.turn (B:=B2) (t:=nx2) (t':=nx2) (r:=X) (o:=xO (pE d) (pE hp) (pE (t+4)) (pE r) (pE rhp) (pE wk') k) (X:=[]) (Nat.le_refl _) trivial trivial trivial (by
  have q1:=hd.dev.lt;have q2:=hr.dev.lt;simp[EO.bel,zQX,EV.bel];omega)
 simp only[List.nil_append] at b1 b2 b3
 have hK3:Keep badG B2 nx2 _ nx2:=Keep.of1 hx2 (Nat.le_refl _) b2 (by simp[tyE]);have L2:Keep [204,206,83] B1 nx B2 nx2:=Keep.of2 hrp1 hrh1 (by omega) hsame2 (by simp[tyE]) (by simp[tyE]);have L3:Keep [204,206,83] B2 nx2 _ nx2:=Keep.of1 hx2 (Nat.le_refl _) b2 (by simp[tyE]);have L:=L2.trans L3;refine zWJ hQ (by omega) b1.below (by simp[EV.bel]) ⟨rfl,b1,hK1.trans (hK2.trans hK3),wk',L.keep hpo1 (by simp[tyE]),L.keep hhe1 (by simp[tyE]),L.keep hpu1 (by simp[tyE]),L.keep htx1 (by simp[tyE]),L.keep htk1 (by simp[tyE]),L.keep hgv1 (by simp[tyE]),L.keep hwk1 (by simp[tyE]),⟨by omega,b3 _ (by omega) hx2.lk⟩⟩
end
section
theorem Keep.wk {bad bad':List Nat} {B B':List (Nat × EO)} {t t':Nat} (h:Keep bad B t B' t') (hb:∀ x∈bad,x∈bad'):Keep bad' B t B' t':=⟨h.le,fun a hn=>h.keep a fun q=>hn (hb _ q)⟩
structure WorkG (B:List (Nat × EO)) (t d a n:Nat) (lns:List Nat) (lg pl hp nb lv pu:Nat):Prop where
 dev:DevG B t d a n lns
 log:LogG B t d lg 128 16384
 pool:PoolG B t d lg pl (.ptr (some ⟨pu+1,0⟩))
 heap:HeapG B t pl hp 16512 nb lv (.ptr (some ⟨pu+4,0⟩))
 live:AtG B t lv (.map [])
 put:AtG B t pu (.map [])
 txn:AtG B t (pu+1) (.cells [.ptr (some ⟨pl,0⟩),.map (some pu),.bool false] 163 0 true 0)
 tk:AtG B t (pu+2) (.map [])
 gv:AtG B t (pu+3) (.map [])
 wk:AtG B t (pu+4) (.cells [.ptr (some ⟨hp,0⟩),.ptr (some ⟨pu+1,0⟩),.map (some (pu+2)),.map (some (pu+3)),.int .i64 0,.bool false] 56 0 true 0)
 ord:(∀ b∈lns,b<a)∧a<d∧d<lg∧lg<pl∧pl<hp∧hp<lv∧lv<pu
 nd:lns.Nodup
variable (B:List (Nat × EO)) {t:Nat}
theorem laid_c (G:List Gl) [hB:Bg t B] (nb:Nat) (h1:1≤nb) (h2:nb≤60):EffR G Tryz.prog 31 [.agg [.int .i64 nb,.slice none 0 0,.slice none 0 0]] B t (fun v bl nx=>∃ X wk' d a lns lg pl hp lv pu r rhp,v=.tuple [pE X,.bool true]∧Bg nx bl∧Keep badG B t bl nx∧WorkG bl nx d a (258+4*nb) lns lg pl hp nb lv pu∧t≤a∧(∀ b∈lns,t≤b)∧AtG bl nx X (xO (pE d) (pE hp) (pE (pu+4)) (pE r) (pE rhp) (pE wk') nb)):=by
 have hwi:=within_c G (nb - 1) 60 (by omega) (by omega) (by omega);rw[Nat.mod_eq_of_lt (by omega),show ((60:Nat):Int)=60 from rfl] at hwi
 have e1:(nb:Int) - 1=((nb - 1:Nat):Int):=by omega
 have e2:(1:Int)+((nb - 1:Nat):Int)=(nb:Int):=by omega
 have him:=image_c (t:=t) B G nb h1 h2;have hco:=copyb_c G (16512+256*nb) 0 (16512+256*nb) (16512+256*nb) 0 0 true (by omega) (by omega);have hsz:16512+256*nb=64*(258+4*nb):=by omega
 rw[hsz] at him hco
 obtain ⟨n,hn⟩:∃ n,n=258+4*nb:=⟨_,rfl⟩;rw[← hn] at him hco
 clear hsz;refine EffR.enter fun Q hQ=>?_
 refine zQV 139 [.tmp 2,.tmp 3] Tryz.func31 ?_
 repeat' (first|refine zQQ 309485083626336311828307967 ?_|(refine stp ?_;simp only[go_sem,e1])|(refine Pure.at (hwi) (by simp) (by simp) rfl ?_;(try simp only[go_sem,e2]))|(refine EffW.at (him ) [] rfl (by (simp;done)) ?_;(try simp only[go_sem]))|(refine Eff.atR (hco ) rfl [t+1] rfl (by first|(simp;done)|fail) rfl ?_;(try simp only[go_sem]))|(simp (disch:=omega) only[zQK])|fail)
 have hxx:=Bg.above (B:=B) (t:=t) (t':=(t+4)) (X:=[(t+3,.cells (zQZ (zU (64*n))) 5 0 true 0),(t+2,xO (.ptr none) (.ptr none) (.ptr none) (.ptr none) (.ptr none) (.ptr none) nb),(t+1,.cells (zQZ (zU (64*n))) 5 0 true 0),(t,.cells [.int .i64 nb,.slice none 0 0,.slice none 0 0] 77 0 true 0)]) (by omega) (by simp[keysGe]) (by simp[keysOK,lkp]) (by simp;try omega);simp only[List.cons_append,List.nil_append] at hxx
 have K1:Keep [] B t _ (t+4):=Keep.of hxx.2;have c1:AtG ((t+3,.cells (zQZ (zU (64*n))) 5 0 true 0)::(t+2,xO (.ptr none) (.ptr none) (.ptr none) (.ptr none) (.ptr none) (.ptr none) nb)::(t+1,.cells (zQZ (zU (64*n))) 5 0 true 0)::(t,.cells [.int .i64 nb,.slice none 0 0,.slice none 0 0] 77 0 true 0)::B) (t+4) (t+3) (.cells (zQZ (zU (64*n))) 5 0 true 0):=⟨by omega,by simp[lkp]⟩;have x1:AtG ((t+3,.cells (zQZ (zU (64*n))) 5 0 true 0)::(t+2,xO (.ptr none) (.ptr none) (.ptr none) (.ptr none) (.ptr none) (.ptr none) nb)::(t+1,.cells (zQZ (zU (64*n))) 5 0 true 0)::(t,.cells [.int .i64 nb,.slice none 0 0,.slice none 0 0] 77 0 true 0)::B) (t+4) (t+2) (xO (.ptr none) (.ptr none) (.ptr none) (.ptr none) (.ptr none) (.ptr none) nb):=⟨by omega,by simp[lkp]⟩;have i1:AtG ((t+3,.cells (zQZ (zU (64*n))) 5 0 true 0)::(t+2,xO (.ptr none) (.ptr none) (.ptr none) (.ptr none) (.ptr none) (.ptr none) nb)::(t+1,.cells (zQZ (zU (64*n))) 5 0 true 0)::(t,.cells [.int .i64 nb,.slice none 0 0,.slice none 0 0] 77 0 true 0)::B) (t+4) (t+1) (.cells (zQZ (zU (64*n))) 5 0 true 0):=⟨by omega,by simp[lkp]⟩;generalize (t+3,EO.cells (zQZ (zU (64*n))) 5 0 true 0)::(t+2,xO (.ptr none) (.ptr none) (.ptr none) (.ptr none) (.ptr none) (.ptr none) nb)::(t+1,EO.cells (zQZ (zU (64*n))) 5 0 true 0)::(t,EO.cells [.int .i64 nb,.slice none 0 0,.slice none 0 0] 77 0 true 0)::B=B1 at hxx K1 c1 x1 i1 ⊢
 obtain ⟨T1,hT1⟩:∃ T,T=t+4:=⟨_,rfl⟩;obtain ⟨cp,hcp⟩:∃ T,T=t+3:=⟨_,rfl⟩;obtain ⟨X,hXe⟩:∃ T,T=t+2:=⟨_,rfl⟩;obtain ⟨im,hime⟩:∃ T,T=t+1:=⟨_,rfl⟩;rw[← hT1] at hxx K1 c1 x1 i1 ⊢
 rw[← hcp] at c1 ⊢
 rw[← hXe] at x1 ⊢
 rw[← hime] at i1 ⊢
 haveI hB1:=hxx.1;refine EffR.at (pfrom_c (t:=T1) B1 G n cp (64*n) 0 (by omega) (by omega) c1) ?_
 rintro v B2 nx2 ⟨_,d,a,lns,rfl,rfl,hB2,he2,hd2,hln,had,hta,hnd⟩
 haveI:=hB2;have g2:=he2.le;have x2:=x1.mono he2;have i2:=i1.mono he2;have hX2:=AtG.f x2;have d2:=hd2.dev.lt
 repeat' (first|refine zQQ 309485083626336311828307967 ?_|(refine stp ?_;simp only[go_sem,hX2])|(simp only[go_sem])|fail)
 obtain ⟨b1,b2,b3⟩:=Bg.turn (B:=B2) (t:=nx2) (t':=nx2) (r:=X) (o:=(xO (pE d) (.ptr none) (.ptr none) (.ptr none) (.ptr none) (.ptr none) nb)) (X:=[]) (Nat.le_refl _) trivial trivial trivial (by simp[EO.bel,zQX,EV.bel];omega);simp only[List.nil_append] at b1 b2 b3
 have K3:Keep [83] B2 nx2 _ nx2:=Keep.of1 x2 (Nat.le_refl _) b2 (by simp[tyE]);have x3:AtG _ nx2 X (xO (pE d) (.ptr none) (.ptr none) (.ptr none) (.ptr none) (.ptr none) nb):=⟨x2.lt,b3 _ x2.lt x2.lk⟩;generalize setL B2 X (xO (pE d) (.ptr none) (.ptr none) (.ptr none) (.ptr none) (.ptr none) nb)=B3 at b1 K3 x3 ⊢
 haveI hB3:=b1;have hd3:=hd2.keep K3 (by decide);have i3:=K3.keep i2 (by simp[tyE]);have hlo:=lopen_c B3 G hd3 128 16384 (by omega) (by omega) (by omega) (by omega) (by omega);rw[show ((128:Nat):Int)=128 from rfl,show ((16384:Nat):Int)=16384 from rfl] at hlo
 repeat' (first|refine zQQ 309485083626336311828307967 ?_|(refine stp ?_;simp only[go_sem])|(refine EffW.at (hlo ) [] rfl (by simp[d2,zWW d2];omega) ?_;(try simp only[go_sem,zWW d2]))|fail)
 have hxx:=Bg.above (B:=B3) (t:=nx2) (t':=nx2+1) (X:=[(nx2,EO.cells [.ptr (some ⟨d,0⟩),.int .i64 128,.int .i64 16384] 188 0 true 0)]) (by omega) (by simp[keysGe]) (by simp[keysOK,lkp]) (by simp;try omega);simp only[List.cons_append,List.nil_append] at hxx
 have K4:Keep [] B3 nx2 ((nx2,EO.cells [.ptr (some ⟨d,0⟩),.int .i64 128,.int .i64 16384] 188 0 true 0)::B3) (nx2+1):=Keep.of hxx.2;have l4:AtG ((nx2,EO.cells [.ptr (some ⟨d,0⟩),.int .i64 128,.int .i64 16384] 188 0 true 0)::B3) (nx2+1) nx2 (EO.cells [.ptr (some ⟨d,0⟩),.int .i64 128,.int .i64 16384] 188 0 true 0):=⟨by omega,by simp[lkp]⟩;generalize (nx2,EO.cells [.ptr (some ⟨d,0⟩),.int .i64 128,.int .i64 16384] 188 0 true 0)::B3=B4 at hxx K4 l4 ⊢
 obtain ⟨T4,hT4⟩:∃ T,T=nx2+1:=⟨_,rfl⟩;rw[← hT4] at hxx K4 l4 ⊢
 haveI hB4:=hxx.1;have hd4:=hd3.keep K4 (by decide);have x4:=K4.keep x3 (by simp);have i4:=K4.keep i3 (by simp);have lg4:LogG B4 T4 d nx2 128 16384:=l4;have htn:=tnew_c B4 G hd4 lg4 (by omega) (by omega);have d4:d<T4:=by omega
 have n4:nx2<T4:=by omega
 have hX4:=AtG.f x4
 repeat' (first|refine zQQ 309485083626336311828307967 ?_|(refine stp ?_;simp only[go_sem,hX4])|(refine EffW.at (htn ) [] rfl (by simp[d4,zWW d4,n4,zWW n4];omega) ?_;(try simp only[go_sem,zWW d4,zWW n4]))|fail)
 have hxx:=Bg.above (B:=B4) (t:=T4) (t':=T4+1) (X:=[(T4,EO.cells [.ptr (some ⟨d,0⟩),.ptr (some ⟨nx2,0⟩),.ptr none] 193 0 true 0)]) (by omega) (by simp[keysGe]) (by simp[keysOK,lkp]) (by simp;try omega);simp only[List.cons_append,List.nil_append] at hxx
 have K5:Keep [] B4 T4 ((T4,EO.cells [.ptr (some ⟨d,0⟩),.ptr (some ⟨nx2,0⟩),.ptr none] 193 0 true 0)::B4) (T4+1):=Keep.of hxx.2;have p5:AtG ((T4,EO.cells [.ptr (some ⟨d,0⟩),.ptr (some ⟨nx2,0⟩),.ptr none] 193 0 true 0)::B4) (T4+1) T4 (EO.cells [.ptr (some ⟨d,0⟩),.ptr (some ⟨nx2,0⟩),.ptr none] 193 0 true 0):=⟨by omega,by simp[lkp]⟩;generalize (T4,EO.cells [.ptr (some ⟨d,0⟩),.ptr (some ⟨nx2,0⟩),.ptr none] 193 0 true 0)::B4=B5 at hxx K5 p5 ⊢
 obtain ⟨T5,hT5⟩:∃ T,T=T4+1:=⟨_,rfl⟩;rw[← hT5] at hxx K5 p5 ⊢
 haveI hB5:=hxx.1;have hd5:=hd4.keep K5 (by decide);have x5:=K5.keep x4 (by simp);have i5:=K5.keep i4 (by simp);have lg5:LogG B5 T5 d nx2 128 16384:=K5.keep lg4 (by simp);have pl5:PoolG B5 T5 d nx2 T4 (.ptr none):=p5;have hhn:=hnew_c B5 G hd5 pl5 16512 nb (by omega) (by omega) (by omega);rw[show ((16512:Nat):Int)=16512 from rfl] at hhn
 have n5:T4<T5:=by omega
 have hci:=copyi_c G
 repeat' (first|refine zQQ 309485083626336311828307967 ?_|(refine stp ?_;simp only[go_sem])|(refine EffW.at (hhn ) [] rfl (by simp[n5,zWW n5];omega) ?_;(try simp only[go_sem,zWW n5]))|(refine Pure.at (hci) (by simp) (by simp) rfl ?_;(try simp only[go_sem]))|fail)
 have hxx:=Bg.above (B:=B5) (t:=T5) (t':=T5+2) (X:=[(T5+1,.map []),(T5,.cells [.ptr (some ⟨T4,0⟩),.int .i64 16512,.int .i64 nb,.map (some (T5+1)),.ptr none] 165 0 true 0)]) (by omega) (by simp[keysGe]) (by simp[keysOK,lkp]) (by simp;omega);simp only[List.cons_append,List.nil_append] at hxx
 have K6:Keep [] B5 T5 ((T5+1,.map [])::(T5,.cells [.ptr (some ⟨T4,0⟩),.int .i64 16512,.int .i64 nb,.map (some (T5+1)),.ptr none] 165 0 true 0)::B5) (T5+2):=Keep.of hxx.2;have h6:HeapG ((T5+1,.map [])::(T5,.cells [.ptr (some ⟨T4,0⟩),.int .i64 16512,.int .i64 nb,.map (some (T5+1)),.ptr none] 165 0 true 0)::B5) (T5+2) T4 T5 16512 nb (T5+1) (.ptr none):=⟨by omega,by simp[lkp]⟩;generalize (T5+1,EO.map [])::(T5,EO.cells [.ptr (some ⟨T4,0⟩),.int .i64 16512,.int .i64 nb,.map (some (T5+1)),.ptr none] 165 0 true 0)::B5=B6 at hxx K6 h6 ⊢
 obtain ⟨T6,hT6⟩:∃ T,T=T5+2:=⟨_,rfl⟩;rw[← hT6] at hxx K6 h6 ⊢
 haveI hB6:=hxx.1;have hd6:=hd5.keep K6 (by decide);have x6:=K6.keep x5 (by simp);have i6:=K6.keep i5 (by simp);have lg6:LogG B6 T6 d nx2 128 16384:=K6.keep lg5 (by simp);have pl6:PoolG B6 T6 d nx2 T4 (.ptr none):=K6.keep pl5 (by simp);refine EffR.at (hload_c B6 G h6 (by omega)) ?_
 rintro v B7 nx7 ⟨_,rfl,rfl,hB7,hnx7,hsame7,h7,lv7⟩
 haveI:=hB7;have K7:Keep [165] B6 T6 B7 nx7:=Keep.of1 h6 (by omega) hsame7 (by simp[tyE]);have hd7:=hd6.keep K7 (by decide);have x7:=K7.keep x6 (by simp[tyE]);have i7:=K7.keep i6 (by simp[tyE]);have lg7:LogG B7 nx7 d nx2 128 16384:=K7.keep lg6 (by simp[tyE]);have pl7:PoolG B7 nx7 d nx2 T4 (.ptr none):=K7.keep pl6 (by simp[tyE]);have hX7:=AtG.f x7
 repeat' (first|refine zQQ 309485083626336311828307967 ?_|(refine stp ?_;simp only[go_sem,hX7])|(simp only[go_sem])|fail)
 obtain ⟨b1,b2,b3⟩:=Bg.turn (B:=B7) (t:=nx7) (t':=nx7) (r:=X) (o:=(xO (pE d) (pE T5) (.ptr none) (.ptr none) (.ptr none) (.ptr none) nb)) (X:=[]) (Nat.le_refl _) trivial trivial trivial (by simp[EO.bel,zQX,EV.bel];omega);simp only[List.nil_append] at b1 b2 b3
 have K8:Keep [83] B7 nx7 _ nx7:=Keep.of1 x7 (Nat.le_refl _) b2 (by simp[tyE]);have x8:AtG _ nx7 X (xO (pE d) (pE T5) (.ptr none) (.ptr none) (.ptr none) (.ptr none) nb):=⟨x7.lt,b3 _ x7.lt x7.lk⟩;generalize setL B7 X (xO (pE d) (pE T5) (.ptr none) (.ptr none) (.ptr none) (.ptr none) nb)=B8 at b1 K8 x8 ⊢
 haveI hB8:=b1;have hd8:=hd7.keep K8 (by decide);have i8:=K8.keep i7 (by simp[tyE]);have lg8:LogG B8 nx7 d nx2 128 16384:=K8.keep lg7 (by simp[tyE]);have pl8:PoolG B8 nx7 d nx2 T4 (.ptr none):=K8.keep pl7 (by simp[tyE]);have h8:HeapG B8 nx7 T4 T5 16512 nb T6 (.ptr none):=K8.keep h7 (by simp[tyE]);have lv8:=K8.keep lv7 (by simp[tyE]);refine EffR.at (rfrom_c (t:=nx7) B8 G n im (64*n) 0 0 true (by omega) (by omega) i8 (Nat.le_refl _) (.inl rfl)) ?_
 rintro v B9 nx9 ⟨_,r,la,xs,rfl,rfl,hB9,he9,hr9⟩
 haveI:=hB9;have g9:=he9.le;have K9:Keep [] B8 nx7 B9 nx9:=Keep.of he9;have hd9:=hd8.keep K9 (by decide);have x9:=K9.keep x8 (by simp);have lg9:LogG B9 nx9 d nx2 128 16384:=K9.keep lg8 (by simp);have pl9:PoolG B9 nx9 d nx2 T4 (.ptr none):=K9.keep pl8 (by simp);have h9:HeapG B9 nx9 T4 T5 16512 nb T6 (.ptr none):=K9.keep h8 (by simp);have lv9:=K9.keep lv8 (by simp);have hX9:=AtG.f x9;have r9:=hr9.dev.lt
 repeat' (first|refine zQQ 309485083626336311828307967 ?_|(refine stp ?_;simp only[go_sem,hX9,lkp_setL,Option.map_some])|(simp only[go_sem,hX9])|fail)
 obtain ⟨b1,b2,b3⟩:=Bg.turn (B:=B9) (t:=nx9) (t':=nx9) (r:=X) (o:=(xO (pE d) (pE T5) (.ptr none) (pE r) (.ptr none) (.ptr none) nb)) (X:=[]) (Nat.le_refl _) trivial trivial trivial (by simp[EO.bel,zQX,EV.bel];omega);simp only[List.nil_append] at b1 b2 b3
 have K10:Keep [83] B9 nx9 _ nx9:=Keep.of1 x9 (Nat.le_refl _) b2 (by simp[tyE]);have x10:AtG _ nx9 X (xO (pE d) (pE T5) (.ptr none) (pE r) (.ptr none) (.ptr none) nb):=⟨x9.lt,b3 _ x9.lt x9.lk⟩;generalize setL B9 X (xO (pE d) (pE T5) (.ptr none) (pE r) (.ptr none) (.ptr none) nb)=B10 at b1 K10 x10 ⊢
 haveI hB10:=b1;have hd10:=hd9.keep K10 (by decide);have hr10:=hr9.keep K10 (by decide);have lg10:LogG B10 nx9 d nx2 128 16384:=K10.keep lg9 (by simp[tyE]);have pl10:PoolG B10 nx9 d nx2 T4 (.ptr none):=K10.keep pl9 (by simp[tyE]);have h10:HeapG B10 nx9 T4 T5 16512 nb T6 (.ptr none):=K10.keep h9 (by simp[tyE]);have lv10:=K10.keep lv9 (by simp[tyE]);have hro:=rlopen_c B10 G hr10 128 16384 (by omega) (by omega) (by omega) (by omega) (by omega);rw[show ((128:Nat):Int)=128 from rfl,show ((16384:Nat):Int)=16384 from rfl] at hro
 have hX10:=AtG.f x10
 repeat' (first|refine zQQ 309485083626336311828307967 ?_|(refine stp ?_;simp only[go_sem,hX10])|(refine EffW.at (hro ) [] rfl (by simp[r9,zWW r9];omega) ?_;(try simp only[go_sem,zWW r9]))|fail)
 have hxx:=Bg.above (B:=B10) (t:=nx9) (t':=nx9+1) (X:=[(nx9,EO.cells [.ptr (some ⟨r,0⟩),.int .i64 128,.int .i64 16384] 201 0 true 0)]) (by omega) (by simp[keysGe]) (by simp[keysOK,lkp]) (by simp;try omega);simp only[List.cons_append,List.nil_append] at hxx
 have K11:Keep [] B10 nx9 ((nx9,EO.cells [.ptr (some ⟨r,0⟩),.int .i64 128,.int .i64 16384] 201 0 true 0)::B10) (nx9+1):=Keep.of hxx.2;have q11:AtG ((nx9,EO.cells [.ptr (some ⟨r,0⟩),.int .i64 128,.int .i64 16384] 201 0 true 0)::B10) (nx9+1) nx9 (EO.cells [.ptr (some ⟨r,0⟩),.int .i64 128,.int .i64 16384] 201 0 true 0):=⟨by omega,by simp[lkp]⟩;generalize (nx9,EO.cells [.ptr (some ⟨r,0⟩),.int .i64 128,.int .i64 16384] 201 0 true 0)::B10=B11 at hxx K11 q11 ⊢
 obtain ⟨T11,hT11⟩:∃ T,T=nx9+1:=⟨_,rfl⟩;rw[← hT11] at hxx K11 q11 ⊢
 haveI hB11:=hxx.1;have hr11:=hr10.keep K11 (by decide);have x11:=K11.keep x10 (by simp);have rl11:RLogG B11 T11 r nx9 128 16384:=q11;have hX11:=AtG.f x11;have r11:r<T11:=by omega
 have n11:nx9<T11:=by omega
 have hrp:=rpnew_c (t:=T11) B11 G r11 n11
 repeat' (first|refine zQQ 309485083626336311828307967 ?_|(refine stp ?_;simp only[go_sem,hX11])|(refine EffW.at (hrp ) [] rfl (by simp[r11,zWW r11,n11,zWW n11];omega) ?_;(try simp only[go_sem,zWW r11,zWW n11]))|fail)
 have hxx:=Bg.above (B:=B11) (t:=T11) (t':=T11+1) (X:=[(T11,EO.cells [.ptr (some ⟨r,0⟩),.ptr (some ⟨nx9,0⟩),.ptr none] 204 0 true 0)]) (by omega) (by simp[keysGe]) (by simp[keysOK,lkp]) (by simp;try omega);simp only[List.cons_append,List.nil_append] at hxx
 have K12:Keep [] B11 T11 ((T11,EO.cells [.ptr (some ⟨r,0⟩),.ptr (some ⟨nx9,0⟩),.ptr none] 204 0 true 0)::B11) (T11+1):=Keep.of hxx.2;have q12:AtG ((T11,EO.cells [.ptr (some ⟨r,0⟩),.ptr (some ⟨nx9,0⟩),.ptr none] 204 0 true 0)::B11) (T11+1) T11 (EO.cells [.ptr (some ⟨r,0⟩),.ptr (some ⟨nx9,0⟩),.ptr none] 204 0 true 0):=⟨by omega,by simp[lkp]⟩;generalize (T11,EO.cells [.ptr (some ⟨r,0⟩),.ptr (some ⟨nx9,0⟩),.ptr none] 204 0 true 0)::B11=B12 at hxx K12 q12 ⊢
 obtain ⟨T12,hT12⟩:∃ T,T=T11+1:=⟨_,rfl⟩;rw[← hT12] at hxx K12 q12 ⊢
 haveI hB12:=hxx.1;have hr12:=hr11.keep K12 (by decide);have x12:=K12.keep x11 (by simp);have rl12:RLogG B12 T12 r nx9 128 16384:=K12.keep rl11 (by simp);have rp12:RPoolG B12 T12 r nx9 T11 (.ptr none):=q12;have hX12:=AtG.f x12;have hrh:=rhnew_c B12 G hr12 rp12 16512 nb (by omega) (by omega) (by omega);rw[show ((16512:Nat):Int)=16512 from rfl] at hrh
 repeat' (first|(refine EffR.at hrh ?_)|(simp only[go_sem])|fail)
 rintro v B13 nx13 ⟨rfl,hB13,he13,hnx13,rh13⟩
 haveI:=hB13;have K13:Keep [] B12 T12 B13 nx13:=Keep.of he13;have hr13:=hr12.keep K13 (by decide);have x13:=K13.keep x12 (by simp);have rl13:RLogG B13 nx13 r nx9 128 16384:=K13.keep rl12 (by simp);have rp13:RPoolG B13 nx13 r nx9 T11 (.ptr none):=K13.keep rp12 (by simp);have hX13:=AtG.f x13
 repeat' (first|refine zQQ 309485083626336311828307967 ?_|(refine stp ?_;simp only[go_sem,hX13,lkp_setL,Option.map_some])|(simp only[go_sem,hX13])|fail)
 have hrht:T12+1<nx13:=by omega
 obtain ⟨b1,b2,b3⟩:=Bg.turn (B:=B13) (t:=nx13) (t':=nx13) (r:=X) (o:=(xO (pE d) (pE T5) (.ptr none) (pE r) (pE (T12+1)) (.ptr none) nb)) (X:=[]) (Nat.le_refl _) trivial trivial trivial (by simp[EO.bel,zQX,EV.bel];omega);simp only[List.nil_append] at b1 b2 b3
 have K14:Keep [83] B13 nx13 _ nx13:=Keep.of1 x13 (Nat.le_refl _) b2 (by simp[tyE]);have x14:AtG _ nx13 X (xO (pE d) (pE T5) (.ptr none) (pE r) (pE (T12+1)) (.ptr none) nb):=⟨x13.lt,b3 _ x13.lt x13.lk⟩;generalize setL B13 X (xO (pE d) (pE T5) (.ptr none) (pE r) (pE (T12+1)) (.ptr none) nb)=B14 at b1 K14 x14 ⊢
 haveI hB14:=b1;have hr14:=hr13.keep K14 (by decide);have rl14:RLogG B14 nx13 r nx9 128 16384:=K14.keep rl13 (by simp[tyE]);have rp14:RPoolG B14 nx13 r nx9 T11 (.ptr none):=K14.keep rp13 (by simp[tyE]);have rh14:RHeapG B14 nx13 T11 (T12+1) 16512 nb T12 (.ptr none):=K14.keep rh13 (by simp[tyE]);refine EffR.at (rhload_c B14 G rh14 (by omega) (by omega)) ?_
 rintro v B15 nx15 ⟨rfl,hB15,hnx15,hsame15,rh15⟩
 haveI:=hB15;have K15:Keep [206] B14 nx13 B15 nx15:=Keep.of1 rh14 (by omega) hsame15 (by simp[tyE]);have hr15:=hr14.keep K15 (by decide);have x15:=K15.keep x14 (by simp[tyE]);have rl15:RLogG B15 nx15 r nx9 128 16384:=K15.keep rl14 (by simp[tyE]);have rp15:RPoolG B15 nx15 r nx9 T11 (.ptr none):=K15.keep rp14 (by simp[tyE])
 -- from the stage 10 to here
 have KA:Keep [206,83] B10 nx9 B15 nx15:=(K11.wk (by simp)).trans ((K12.wk (by simp)).trans ((K13.wk (by simp)).trans ((K14.wk (by simp)).trans (K15.wk (by simp)))));have hd15:=hd10.keep KA (by decide);have lg15:LogG B15 nx15 d nx2 128 16384:=KA.keep lg10 (by simp[tyE]);have pl15:PoolG B15 nx15 d nx2 T4 (.ptr none):=KA.keep pl10 (by simp[tyE]);have h15:HeapG B15 nx15 T4 T5 16512 nb T6 (.ptr none):=KA.keep h10 (by simp[tyE]);have lv15:=KA.keep lv10 (by simp[tyE]);have hgb:=gbegin_c B15 G hd15 lg15 (by omega) pl15 h15 (by omega) hr15 rl15 rp15 rh15 (by omega) (by omega) x15
 repeat' (first|refine zQQ 309485083626336311828307967 ?_|(refine stp ?_;simp only[go_sem])|(refine EffR.at hgb ?_)|(simp only[go_sem])|fail)
 rintro v B16 nx16 ⟨rfl,hB16,K16,wk',w1,w2,w3,w4,w5,w6,w7,w8⟩
 haveI:=hB16
 repeat' (first|(refine stp ?_;simp only[go_sem])|fail)
 have l16:=K16.le;have KB:Keep badG B t B16 nx16:=(K1.wk (by simp)).trans ((Keep.of he2).trans ((K3.wk (by simp)).trans ((K4.wk (by simp)).trans ((K5.wk (by simp)).trans ((K6.wk (by simp)).trans ((K7.wk (by simp)).trans ((K8.wk (by simp)).trans ((K9.wk (by simp)).trans ((K10.wk (by simp)).trans ((KA.wk (by simp)).trans K16))))))))));have hd16:=hd15.keep K16 (by decide);rw[hn] at hd16
 refine zWJ hQ KB.le hB16.below (by simp[EV.bel,zQX];omega) ⟨X,wk',d,a,lns,nx2,T4,T5,T6,nx15,r,T12+1,rfl,hB16,KB,⟨hd16,K16.keep lg15 (by simp[tyE]),w1,w2,K16.keep lv15 (by simp[tyE]),w3,w4,w5,w6,w7,⟨fun b hb=>(hln b hb).2,had,d2,by omega,by omega,by omega,by omega⟩,hnd⟩,by omega,fun b hb=>by have:=(hln b hb).1;omega,w8⟩
end
end Go.Proofs.YtgajmgkhlkghjaaGreatDoor
