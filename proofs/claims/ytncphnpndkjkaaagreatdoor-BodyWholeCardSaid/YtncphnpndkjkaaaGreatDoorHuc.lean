/-
  Own work: a part of the proof that the last text closes.
-/
import Derived.Test.YtncphnpndkjkaaaGreatDoorHpc
import Derived.Test.YtncphnpndkjkaaaGreatDoorFk
namespace Go.Proofs.YtncphnpndkjkaaaGreatDoor
open Go.E
set_option linter.all false
set_option maxRecDepth 100000
set_option maxHeartbeats 16000000
theorem yMJ (P:Nat→Prop) [DecidablePred P]:∀ n,∃ c,c≤n∧(∀ k,k<c→P k)∧(c=n∨¬ P c)
 | 0=>⟨0,Nat.le_refl _,fun k h=>absurd h (by omega),.inl rfl⟩
 | n+1=>by
   obtain ⟨c,h1,h2,h3⟩:=yMJ P n
   rcases h3 with rfl | h3
   ·by_cases hp:P c
    ·exact ⟨c+1,Nat.le_refl _,fun k hk=>by
      rcases Nat.lt_or_ge k c with q | q
      ·exact h2 k q
      ·obtain rfl:k=c:=by omega
       exact hp,.inl rfl⟩
    ·exact ⟨c,by omega,h2,.inr hp⟩
   ·exact ⟨c,by omega,h2,.inr h3⟩
theorem yNT (s:List UInt8):∀ (d o i:Nat),s.length - i≤d→∀ x,(lnG s o i)[(lnG s o i).length - 1]? = some x→x.2.2=0
 | 0,o,i,h,x,hx=>by
   rw[yPF s o i (by omega)] at hx
   simp at hx;rw[← hx]
 | d+1,o,i,h,x,hx=>by
   rcases Nat.lt_or_ge i s.length with hi | hi
   ·cases he:endG s i with
    | none=>rw[yNR o hi he] at hx;exact yNT s d o (i+1) (by omega) x hx
    | some n=>
      have hp:=yXX hi he;have hb:=(yWH s (s.length - (i+n)) (i+n) (i+n) (Nat.le_refl _)).1;rw[yNP o hi he,List.length_cons,show (lnG s (i+n) (i+n)).length+1 - 1=((lnG s (i+n) (i+n)).length - 1)+1 by omega,List.getElem?_cons_succ] at hx
      exact yNT s d (i+n) (i+n) (by omega) x hx
   ·rw[yPF s o i hi] at hx
    simp at hx;rw[← hx]
theorem where_c {G:List Gl} (hG:Tabs G) (s:List UInt8) (hs:s.length≤9000000000) (a:Nat) (ha:a≤s.length):∃ l c:Int,E.Pure G Tryz.prog 36 [.str s,.int .i64 a] (.tuple [.agg [.int .i64 l,.int .i64 c],.int .i64 0]):=by
 obtain ⟨L,hL⟩:∃ L,L=lnG s 0 0:=⟨_,rfl⟩;have hLb:=yWH s s.length 0 0 (by omega);rw[← hL] at hLb
 obtain ⟨m,hm1,hm2,hm3⟩:=yMJ (fun k=>∀ x,L[k]? = some x→x.2.1+x.2.2≤a∧0<x.2.2) (L.length - 1);have hstop:∀ x,L[m]? = some x→¬ (x.2.1+x.2.2≤a∧0<x.2.2):=by
  intro x hx hn
  rcases hm3 with rfl | h3
  ·have:=yNT s s.length 0 0 (by omega) x (by rw[← hL];exact hx);omega
  ·exact h3 fun y hy=>by rw[hx] at hy;cases hy;exact hn
 obtain ⟨lm,hlm⟩:∃ x,L[m]? = some x:=⟨L[m]'(by omega),List.getElem?_eq_getElem _⟩;obtain ⟨c,c1,c2,c3⟩:=yMJ (fun k=>lm.1+itU ((s.drop lm.1).take (lm.2.1+lm.2.2 - lm.1)) k≤a) (tlG ((s.drop lm.1).take (lm.2.1+lm.2.2 - lm.1)) 0).1;refine ⟨m,(c:Int) - (if a<s.length then 1 else 0),?_⟩;refine zXP fun V hV=>?_
 have hal:=lall_c G s;refine zQV 67 [.cell 4 95,.tmp 5] Tryz.func36 ?_
 repeat' (first|refine zQQ 2314973370965559295 ?_|refine zQW ?_|(refine stp ?_;simp only[go_sem])|(refine Eff.at2 (hal ) [] rfl (by first|(simp;done)|fail) rfl ?_;(try simp only[go_sem]))|(refine spl (fun h=>?_) (fun h=>?_)<;>first|omega|((try simp only[zZQ]);(try simp only[go_sem,h])))|fail)
 refine zJQ [(2,.ptr (some ⟨0,0⟩)),(3,.ptr (some ⟨1,0⟩)),(4,.ptr (some ⟨2,0⟩)),(6,.ptr (some ⟨3,0⟩))] 86 [] [.ptr (some ⟨4,0⟩)] (by simp only[go_sem]) Tryz.func86 rfl rfl (by simp only[go_sem,zQS]) ?_;intro cd hcd D;simp only[go_sem,List.nil_append,List.cons_append];refine zQV 38 [] Tryz.func86 ?_
 repeat' (first|refine zQQ 134481019 ?_|refine zQW ?_|(refine stp ?_;simp only[go_sem])|(refine yQS 0 ?_)|fail)
 obtain ⟨tl,htm⟩:∃ l,l=tlM 67 [(2,.ptr (some ⟨0,0⟩)),(3,.ptr (some ⟨1,0⟩)),(4,.ptr (some ⟨2,0⟩)),(6,.ptr (some ⟨3,0⟩))]:=⟨_,rfl⟩;have htlb:zQX 4 tl:=by rw[htm];exact zDH (by simp[zWP])
 have htlk:∀ k,4≤k→zQX k tl=True:=fun k hk=>eq_true (zQJ hk _ htlb)
 have htlr:∀ q,zZG (nam 7 q) tl=tl:=fun q=>zWB (k:=4) (i:=3) htlb
 rw[← htm];refine zQM (fun z:Nat × Nat × Nat=>[(0,.fn (.yield (D+1)) [] []),(1,.ptr (some ⟨4,0⟩)),(3,.int .i64 z.1),(4,.int .i64 z.2.1)]) (fun z:Nat × Nat × Nat=>[(6,.rng (D+1) tl .ready none cd),(5,.raw D (.deferred (some []))),(4,.cells [.str s] 9 0 true 0),(3,.cells [.int .i64 z.2.2,.int .i64 0] 95 0 true 0),(2,.cells [.int .i64 0,.int .i64 0] 95 0 true 0),(1,.cells [.int .i64 a] 3 0 true 0),(0,.cells [.str s] 9 0 true 0)]) (fun z:Nat × Nat × Nat=>7) (fun z:Nat × Nat × Nat=>z.2.1≤s.length∧z.1≤z.2.1∧z.2.2≤m∧lnG s z.1 z.2.1=L.drop z.2.2) (fun z:Nat × Nat × Nat=>s.length - z.2.1) ((0,0,0)) ?_ ?_ ?_ ?_ ?_
 ·rintro z -
  exact ⟨by simp[zWP],by simp[htlk],by decide⟩
 ·exact ⟨Nat.zero_le _,Nat.le_refl _,Nat.zero_le _,by rw[hL];rfl⟩
 ·simp only[go_sem,zQS]
 ·simp only[go_sem,zWG]
 rintro ⟨o,i,q⟩ ⟨h1,h2,h3,h4⟩
 simp only at h1 h2 h3 h4 ⊢
 rcases Nat.lt_or_ge i s.length with hi | hi
 ·have hle:=lend_c hG s hs i hi
  cases he:endG s i with
  | none=>
    rw[he] at hle
    simp only[endE] at hle
    rw[yNR o hi he] at h4
    repeat' (first|refine zQQ 134481019 ?_|refine zQW ?_|(refine stp ?_;simp only[go_sem])|(refine Pure.at (hle) (by simp) (by simp) rfl ?_;(try simp only[go_sem]))|(simp (disch:=omega) only[zQK])|(refine spl (fun h=>?_) (fun h=>?_)<;>first|omega|try simp only[go_sem,h])|fail)
    (refine ⟨(o,i+1,q),7,[],?_,?_,rfl,rfl,?_,⟨?_,rfl,?_,?_,?_,?_,?_⟩⟩;rotate_left;(focus (simp only[];omega));(focus (simp[go_sem,zQS]));(focus (omega));(focus simp);(focus (simp));(focus (simp only[];omega));(focus (simp[htlk]));(focus (simp[htlr]));(try simp only[]))
    exact ⟨hi,by show o≤i+1;omega,h3,h4⟩
  | some n=>
    have hp:=yXX hi he;rw[he] at hle
    simp only[endE] at hle
    rw[yNP o hi he] at h4
    have hLq:L[q]? = some (o,i,n):=by
     have:=congrArg (fun l=>l[0]?) h4;simp only[List.getElem?_cons_zero,List.getElem?_drop,Nat.add_zero] at this
     exact this.symm
    have hLd:lnG s (i+n) (i+n)=L.drop (q+1):=by
     have:=congrArg List.tail h4
     simpa [List.tail_drop] using this
    repeat' (first|refine zQQ 134481019 ?_|refine zQW ?_|(refine stp ?_;simp only[go_sem])|(refine Pure.at (hle) (by simp) (by simp) rfl ?_;(try simp only[go_sem]))|(refine spl (fun h=>?_) (fun h=>?_)<;>first|omega|try simp only[go_sem,h])|fail)
    rcases Nat.eq_or_lt_of_le h3 with e | e
    ·subst e;obtain rfl:lm=(o,i,n):=Option.some.inj (hlm.symm.trans hLq);have hns:=hstop _ hLq;simp only at hns c1 c2 c3
     have f1:((i:Int)+(n:Int)≤(a:Int))=False:=eq_false (by omega);refine zWD 6 67 [(2,.ptr (some ⟨0,0⟩)),(3,.ptr (some ⟨1,0⟩)),(4,.ptr (some ⟨2,0⟩)),(6,.ptr (some ⟨3,0⟩))] cd (by simp only[go_sem,← htm]) hcd rfl rfl rfl rfl rfl ?_;rw[← htm];simp only[go_sem,putArgs];have hx9:((s.drop o).take (i+n - o)).length≤9000000000:=by rw[List.length_take];have:=List.length_drop (i:=o) (l:=s);omega
     have hsl:(s.drop o).take (((i:Int)+(n:Int)).toNat - o)=(s.drop o).take (i+n - o):=by rw[show ((i:Int)+(n:Int)).toNat=i+n by omega]
     generalize hxe:(s.drop o).take (i+n - o)=x at hx9 c1 c2 c3 hsl ⊢
     obtain ⟨d1,d2⟩:=zKV x;have htlr9:∀ q,zZG (nam 9 q) tl=tl:=fun q=>zWB (k:=4) (i:=5) htlb
     have d3:=(zYR x).2.1
     repeat' (first|(refine zGJ ?_)|refine zQQ 2314973370965559295 ?_|refine zQW ?_|(refine stp ?_;simp only[go_sem,hxe])|(simp only[zPD,go_sem])|(refine zKT ?_;simp only[go_sem])|(simp only[go_sem,f1])|(simp (disch:=omega) only[zQK])|(refine zQT ?_ ?_;focus omega))
     refine zQM (fun k:Nat=>[(2,.ptr (some ⟨0,0⟩)),(3,.ptr (some ⟨1,0⟩)),(6,.ptr (some ⟨3,0⟩)),(7,.ptr (some ⟨7,0⟩)),(44,.ptr (some ⟨8,0⟩))]) (fun k:Nat=>[(8,.sIter x (itU x k)),(7,.cells [.int .i64 o,.int .i64 i] 159 0 true 0),(6,.rng (D+1) tl .busy none cd),(5,.raw D (.deferred (some []))),(4,.cells [.str s] 9 0 true 0),(3,.cells [.int .i64 q,.int .i64 k] 95 0 true 0),(2,.cells [.int .i64 0,.int .i64 0] 95 0 true 0),(1,.cells [.int .i64 a] 3 0 true 0),(0,.cells [.str s] 9 0 true 0)]) (fun k:Nat=>9) (fun k:Nat=>k≤c) (fun k:Nat=>c - k) (0) ?_ ?_ ?_ ?_ ?_
     ·rintro k -
      exact ⟨by simp[zWP],by simp[htlk],by decide⟩
     ·exact Nat.zero_le _
     ·simp only[go_sem,zQS]
     ·simp only[go_sem,zWG];rfl
     rintro k hk
     simp only at hk ⊢
     rcases Nat.lt_or_ge k c with hkc | hkc
     ·have hl2:=d1 k (by omega);have hst:=zZB hl2;have hca:=c2 k hkc;have g1:((a:Int)<(o:Int)+(itU x k:Int))=False:=eq_false (by omega);generalize hd:zZX (x.drop (itU x k))=dd at *
      obtain ⟨r,w⟩:=dd;simp only at hst
      repeat' (first|refine zQQ 2314973370965559295 ?_|refine zQW ?_|(refine stp ?_;simp only[go_sem])|(refine zXQ ?_;simp only[go_sem,hd])|(simp only[go_sem,g1])|(simp (disch:=omega) only[zQK])|(refine spl (fun h=>?_) (fun h=>?_)<;>first|omega|((try simp only[zRM]);(try simp only[go_sem,h])))|fail)
      (refine ⟨(k+1),9,[],?_,?_,rfl,rfl,?_,⟨?_,rfl,?_,?_,?_,?_,?_⟩⟩;rotate_left;(focus (simp only[];omega));(focus (simp only[go_sem,zQS]));(focus (omega));(focus simp);(focus (simp));(focus (simp only[];omega));(focus (simp[htlk]));(focus (simp[htlr9,hst]));(try simp only[]))
      exact hkc
     ·obtain rfl:k=c:=by omega
      by_cases hc:k=(tlG x 0).1
      ·rw[hc,d2]
       rcases Nat.lt_or_ge a s.length with ha2 | ha2
       ·have g2:((a:Int)<(s.length:Int))=True:=eq_true (by omega);rw[if_pos ha2] at hV
        repeat' (first|refine zQQ 2314973370965559295 ?_|(refine stp ?_;simp only[go_sem,g2])|(refine zXQ ?_;simp only[go_sem])|(simp (disch:=omega) only[zQK])|fail)
        simp only[zKZ,go_sem]
        repeat' (first|(refine stp ?_;simp only[go_sem])|fail)
        refine zZZ ?_ ?_ ?_ ⟨.done,some (.exit 0),?_,by simp,?_⟩
        ·simp[htlk]
        ·simp only[];omega
        ·simp[EV.bel,zQX]
        ·simp only[go_sem]
        ·simp only[zGG,go_sem]
         repeat' (first|refine zQQ 2314973370965559295 ?_|(refine stp ?_;simp only[go_sem])|fail)
         refine ⟨5,D,rfl,by simp only[go_sem],?_⟩;simp only[go_sem];refine zQH (by simp[EV.bel,zQX]) ?_;rw[hV]
         try rw[hc]
         try simp
       ·have g2:((a:Int)<(s.length:Int))=False:=eq_false (by omega)
        exfalso;omega
      ·have hcn:=c3.resolve_left hc;have hl2:=d1 k (by omega);have g1:((a:Int)<(o:Int)+(itU x k:Int))=True:=eq_true (by omega);generalize hd:zZX (x.drop (itU x k))=dd at *
       obtain ⟨r,w⟩:=dd
       rcases Nat.lt_or_ge a s.length with ha2 | ha2
       ·have g2:((a:Int)<(s.length:Int))=True:=eq_true (by omega);rw[if_pos ha2] at hV
        repeat' (first|refine zQQ 2314973370965559295 ?_|refine zQW ?_|(refine stp ?_;simp only[go_sem,g2])|(refine zXQ ?_;simp only[go_sem,hd])|(simp only[go_sem,g1])|(simp (disch:=omega) only[zQK])|(refine spl (fun h=>?_) (fun h=>?_)<;>first|omega|((try simp only[zRM]);(try simp only[go_sem,h])))|fail)
        simp only[zKZ,go_sem]
        repeat' (first|(refine stp ?_;simp only[go_sem])|fail)
        refine zZZ ?_ ?_ ?_ ⟨.done,some (.exit 0),?_,by simp,?_⟩
        ·simp[htlk]
        ·simp only[];omega
        ·simp[EV.bel,zQX]
        ·simp only[go_sem]
        ·simp only[zGG,go_sem]
         repeat' (first|refine zQQ 2314973370965559295 ?_|(refine stp ?_;simp only[go_sem])|fail)
         refine ⟨5,D,rfl,by simp only[go_sem],?_⟩;simp only[go_sem];refine zQH (by simp[EV.bel,zQX]) ?_;rw[hV]
         try rw[hc]
         try simp
       ·have g2:((a:Int)<(s.length:Int))=False:=eq_false (by omega)
        exfalso;omega
    ·have hsk:=hm2 q e _ hLq;simp only at hsk
     have f1:((i:Int)+(n:Int)≤(a:Int))=True:=eq_true (by omega);have f2:((0:Int)<(n:Int))=True:=eq_true (by omega);refine zWD 6 67 [(2,.ptr (some ⟨0,0⟩)),(3,.ptr (some ⟨1,0⟩)),(4,.ptr (some ⟨2,0⟩)),(6,.ptr (some ⟨3,0⟩))] cd (by simp only[go_sem,← htm]) hcd rfl rfl rfl rfl rfl ?_;rw[← htm];simp only[go_sem,putArgs]
     repeat' (first|refine zQQ 2314973370965559295 ?_|refine zQW ?_|(refine stp ?_;simp only[go_sem])|(simp only[zPD,go_sem])|(simp only[go_sem,f1,f2])|(simp (disch:=omega) only[zQK])|fail)
     simp only[zKZ,go_sem]
     repeat' (first|refine zQQ 134481019 ?_|(refine stp ?_;simp only[go_sem])|(simp (disch:=omega) only[zQK])|fail)
     (refine ⟨(i+n,i+n,q+1),7,[],?_,?_,rfl,rfl,?_,⟨?_,rfl,?_,?_,?_,?_,?_⟩⟩;rotate_left;(focus (simp only[];omega));(focus (simp[go_sem,zQS]));(focus (omega));(focus simp);(focus (simp));(focus (simp only[];omega));(focus (simp[htlk]));(focus (simp[htlr]));(try simp only[]))
     exact ⟨hp.2,Nat.le_refl _,e,hLd⟩
 ·obtain rfl:i=s.length:=by omega
  rw[yPF s o _ (Nat.le_refl _)] at h4
  have hLq:L[q]? = some (o,s.length,0):=by
   have:=congrArg (fun l=>l[0]?) h4;simp only[List.getElem?_cons_zero,List.getElem?_drop,Nat.add_zero] at this
   exact this.symm
  have hLn:L.length=q+1:=by
   have:=congrArg List.length h4;simp only[List.length_cons,List.length_nil,List.length_drop] at this
   omega
  obtain rfl:q=m:=by omega
  obtain rfl:lm=(o,s.length,0):=Option.some.inj (hlm.symm.trans hLq);simp only at c1 c2 c3
  repeat' (first|refine zQQ 134481019 ?_|(refine stp ?_;simp only[go_sem])|(refine spl (fun h=>?_) (fun h=>?_)<;>first|omega|try simp only[go_sem,h])|fail)
  by_cases hf:a=s.length
  ·have f1:((s.length:Int)≤(a:Int))=True:=eq_true (by omega);refine zWD 6 67 [(2,.ptr (some ⟨0,0⟩)),(3,.ptr (some ⟨1,0⟩)),(4,.ptr (some ⟨2,0⟩)),(6,.ptr (some ⟨3,0⟩))] cd (by simp only[go_sem,← htm]) hcd rfl rfl rfl rfl rfl ?_;rw[← htm];simp only[go_sem,putArgs];have hx9:((s.drop o).take (s.length+0 - o)).length≤9000000000:=by rw[List.length_take];have:=List.length_drop (i:=o) (l:=s);omega
   have hsl:(s.drop o).take (((s.length:Int)+(0:Int)).toNat - o)=(s.drop o).take (s.length+0 - o):=by rw[show ((s.length:Int)+(0:Int)).toNat=s.length+0 by omega]
   generalize hxe:(s.drop o).take (s.length+0 - o)=x at hx9 c1 c2 c3 hsl ⊢
   obtain ⟨d1,d2⟩:=zKV x;have htlr9:∀ q,zZG (nam 9 q) tl=tl:=fun q=>zWB (k:=4) (i:=5) htlb
   have d3:=(zYR x).2.1
   repeat' (first|(refine zGJ ?_)|refine zQQ 2314973370965559295 ?_|refine zQW ?_|(refine stp ?_;simp only[go_sem,hsl])|(simp only[zPD,go_sem])|(refine zKT ?_;simp only[go_sem])|(simp (disch:=omega) only[zQK])|(refine spl (fun h=>?_) (fun h=>?_)<;>first|omega|((try simp only[zZQ]);(try simp only[go_sem,h])))|(refine zQT ?_ ?_;focus omega))
   refine zQM (fun k:Nat=>[(2,.ptr (some ⟨0,0⟩)),(3,.ptr (some ⟨1,0⟩)),(6,.ptr (some ⟨3,0⟩)),(7,.ptr (some ⟨7,0⟩)),(44,.ptr (some ⟨8,0⟩))]) (fun k:Nat=>[(8,.sIter x (itU x k)),(7,.cells [.int .i64 o,.int .i64 s.length] 159 0 true 0),(6,.rng (D+1) tl .busy none cd),(5,.raw D (.deferred (some []))),(4,.cells [.str s] 9 0 true 0),(3,.cells [.int .i64 q,.int .i64 k] 95 0 true 0),(2,.cells [.int .i64 0,.int .i64 0] 95 0 true 0),(1,.cells [.int .i64 a] 3 0 true 0),(0,.cells [.str s] 9 0 true 0)]) (fun k:Nat=>9) (fun k:Nat=>k≤c) (fun k:Nat=>c - k) (0) ?_ ?_ ?_ ?_ ?_
   ·rintro k -
    exact ⟨by simp[zWP],by simp[htlk],by decide⟩
   ·exact Nat.zero_le _
   ·simp only[go_sem,zQS]
   ·simp only[go_sem,zWG];rfl
   rintro k hk
   simp only at hk ⊢
   rcases Nat.lt_or_ge k c with hkc | hkc
   ·have hl2:=d1 k (by omega);have hst:=zZB hl2;have hca:=c2 k hkc;have g1:((a:Int)<(o:Int)+(itU x k:Int))=False:=eq_false (by omega);generalize hd:zZX (x.drop (itU x k))=dd at *
    obtain ⟨r,w⟩:=dd;simp only at hst
    repeat' (first|refine zQQ 2314973370965559295 ?_|refine zQW ?_|(refine stp ?_;simp only[go_sem])|(refine zXQ ?_;simp only[go_sem,hd])|(simp only[go_sem,g1])|(simp (disch:=omega) only[zQK])|(refine spl (fun h=>?_) (fun h=>?_)<;>first|omega|((try simp only[zRM]);(try simp only[go_sem,h])))|fail)
    (refine ⟨(k+1),9,[],?_,?_,rfl,rfl,?_,⟨?_,rfl,?_,?_,?_,?_,?_⟩⟩;rotate_left;(focus (simp only[];omega));(focus (simp only[go_sem,zQS]));(focus (omega));(focus simp);(focus (simp));(focus (simp only[];omega));(focus (simp[htlk]));(focus (simp[htlr9,hst]));(try simp only[]))
    exact hkc
   ·obtain rfl:k=c:=by omega
    by_cases hc:k=(tlG x 0).1
    ·rw[hc,d2]
     rcases Nat.lt_or_ge a s.length with ha2 | ha2
     ·have g2:((a:Int)<(s.length:Int))=True:=eq_true (by omega)
      exfalso;omega
     ·have g2:((a:Int)<(s.length:Int))=False:=eq_false (by omega);rw[if_neg (by omega)] at hV
      repeat' (first|refine zQQ 2314973370965559295 ?_|(refine stp ?_;simp only[go_sem,g2])|(refine zXQ ?_;simp only[go_sem])|fail)
      simp only[zKZ,go_sem]
      repeat' (skip)
      refine zZZ ?_ ?_ ?_ ⟨.done,some (.exit 0),?_,by simp,?_⟩
      ·simp[htlk]
      ·simp only[];omega
      ·simp[EV.bel,zQX]
      ·simp only[go_sem]
      ·simp only[zGG,go_sem]
       repeat' (first|refine zQQ 2314973370965559295 ?_|(refine stp ?_;simp only[go_sem])|fail)
       refine ⟨5,D,rfl,by simp only[go_sem],?_⟩;simp only[go_sem];refine zQH (by simp[EV.bel,zQX]) ?_;rw[hV]
       try rw[hc]
       try simp
    ·have hcn:=c3.resolve_left hc;have hl2:=d1 k (by omega);have g1:((a:Int)<(o:Int)+(itU x k:Int))=True:=eq_true (by omega);generalize hd:zZX (x.drop (itU x k))=dd at *
     obtain ⟨r,w⟩:=dd
     rcases Nat.lt_or_ge a s.length with ha2 | ha2
     ·have g2:((a:Int)<(s.length:Int))=True:=eq_true (by omega)
      exfalso;omega
     ·have g2:((a:Int)<(s.length:Int))=False:=eq_false (by omega);rw[if_neg (by omega)] at hV
      repeat' (first|refine zQQ 2314973370965559295 ?_|refine zQW ?_|(refine stp ?_;simp only[go_sem,g2])|(refine zXQ ?_;simp only[go_sem,hd])|(simp only[go_sem,g1])|(simp (disch:=omega) only[zQK])|(refine spl (fun h=>?_) (fun h=>?_)<;>first|omega|((try simp only[zRM]);(try simp only[go_sem,h])))|fail)
      simp only[zKZ,go_sem]
      repeat' (skip)
      refine zZZ ?_ ?_ ?_ ⟨.done,some (.exit 0),?_,by simp,?_⟩
      ·simp[htlk]
      ·simp only[];omega
      ·simp[EV.bel,zQX]
      ·simp only[go_sem]
      ·simp only[zGG,go_sem]
       repeat' (first|refine zQQ 2314973370965559295 ?_|(refine stp ?_;simp only[go_sem])|fail)
       refine ⟨5,D,rfl,by simp only[go_sem],?_⟩;simp only[go_sem];refine zQH (by simp[EV.bel,zQX]) ?_;rw[hV]
       try rw[hc]
       try simp
  ·have f1:((s.length:Int)≤(a:Int))=False:=eq_false (by omega);refine zWD 6 67 [(2,.ptr (some ⟨0,0⟩)),(3,.ptr (some ⟨1,0⟩)),(4,.ptr (some ⟨2,0⟩)),(6,.ptr (some ⟨3,0⟩))] cd (by simp only[go_sem,← htm]) hcd rfl rfl rfl rfl rfl ?_;rw[← htm];simp only[go_sem,putArgs];have hx9:((s.drop o).take (s.length+0 - o)).length≤9000000000:=by rw[List.length_take];have:=List.length_drop (i:=o) (l:=s);omega
   have hsl:(s.drop o).take (((s.length:Int)+(0:Int)).toNat - o)=(s.drop o).take (s.length+0 - o):=by rw[show ((s.length:Int)+(0:Int)).toNat=s.length+0 by omega]
   generalize hxe:(s.drop o).take (s.length+0 - o)=x at hx9 c1 c2 c3 hsl ⊢
   obtain ⟨d1,d2⟩:=zKV x;have htlr9:∀ q,zZG (nam 9 q) tl=tl:=fun q=>zWB (k:=4) (i:=5) htlb
   have d3:=(zYR x).2.1
   repeat' (first|(refine zGJ ?_)|refine zQQ 2314973370965559295 ?_|refine zQW ?_|(refine stp ?_;simp only[go_sem,hsl])|(simp only[zPD,go_sem])|(refine zKT ?_;simp only[go_sem])|(simp (disch:=omega) only[zQK])|(refine spl (fun h=>?_) (fun h=>?_)<;>first|omega|((try simp only[zJB]);(try simp only[go_sem,h])))|(refine zQT ?_ ?_;focus omega))
   refine zQM (fun k:Nat=>[(2,.ptr (some ⟨0,0⟩)),(3,.ptr (some ⟨1,0⟩)),(6,.ptr (some ⟨3,0⟩)),(7,.ptr (some ⟨7,0⟩)),(44,.ptr (some ⟨8,0⟩))]) (fun k:Nat=>[(8,.sIter x (itU x k)),(7,.cells [.int .i64 o,.int .i64 s.length] 159 0 true 0),(6,.rng (D+1) tl .busy none cd),(5,.raw D (.deferred (some []))),(4,.cells [.str s] 9 0 true 0),(3,.cells [.int .i64 q,.int .i64 k] 95 0 true 0),(2,.cells [.int .i64 0,.int .i64 0] 95 0 true 0),(1,.cells [.int .i64 a] 3 0 true 0),(0,.cells [.str s] 9 0 true 0)]) (fun k:Nat=>9) (fun k:Nat=>k≤c) (fun k:Nat=>c - k) (0) ?_ ?_ ?_ ?_ ?_
   ·rintro k -
    exact ⟨by simp[zWP],by simp[htlk],by decide⟩
   ·exact Nat.zero_le _
   ·simp only[go_sem,zQS]
   ·simp only[go_sem,zWG];rfl
   rintro k hk
   simp only at hk ⊢
   rcases Nat.lt_or_ge k c with hkc | hkc
   ·have hl2:=d1 k (by omega);have hst:=zZB hl2;have hca:=c2 k hkc;have g1:((a:Int)<(o:Int)+(itU x k:Int))=False:=eq_false (by omega);generalize hd:zZX (x.drop (itU x k))=dd at *
    obtain ⟨r,w⟩:=dd;simp only at hst
    repeat' (first|refine zQQ 2314973370965559295 ?_|refine zQW ?_|(refine stp ?_;simp only[go_sem])|(refine zXQ ?_;simp only[go_sem,hd])|(simp only[go_sem,g1])|(simp (disch:=omega) only[zQK])|(refine spl (fun h=>?_) (fun h=>?_)<;>first|omega|((try simp only[zRM]);(try simp only[go_sem,h])))|fail)
    (refine ⟨(k+1),9,[],?_,?_,rfl,rfl,?_,⟨?_,rfl,?_,?_,?_,?_,?_⟩⟩;rotate_left;(focus (simp only[];omega));(focus (simp only[go_sem,zQS]));(focus (omega));(focus simp);(focus (simp));(focus (simp only[];omega));(focus (simp[htlk]));(focus (simp[htlr9,hst]));(try simp only[]))
    exact hkc
   ·obtain rfl:k=c:=by omega
    by_cases hc:k=(tlG x 0).1
    ·rw[hc,d2]
     rcases Nat.lt_or_ge a s.length with ha2 | ha2
     ·have g2:((a:Int)<(s.length:Int))=True:=eq_true (by omega);rw[if_pos ha2] at hV
      repeat' (first|refine zQQ 2314973370965559295 ?_|(refine stp ?_;simp only[go_sem,g2])|(refine zXQ ?_;simp only[go_sem])|(simp (disch:=omega) only[zQK])|fail)
      simp only[zKZ,go_sem]
      repeat' (skip)
      refine zZZ ?_ ?_ ?_ ⟨.done,some (.exit 0),?_,by simp,?_⟩
      ·simp[htlk]
      ·simp only[];omega
      ·simp[EV.bel,zQX]
      ·simp only[go_sem]
      ·simp only[zGG,go_sem]
       repeat' (first|refine zQQ 2314973370965559295 ?_|(refine stp ?_;simp only[go_sem])|fail)
       refine ⟨5,D,rfl,by simp only[go_sem],?_⟩;simp only[go_sem];refine zQH (by simp[EV.bel,zQX]) ?_;rw[hV]
       try rw[hc]
       try simp
     ·have g2:((a:Int)<(s.length:Int))=False:=eq_false (by omega)
      exfalso;omega
    ·have hcn:=c3.resolve_left hc;have hl2:=d1 k (by omega);have g1:((a:Int)<(o:Int)+(itU x k:Int))=True:=eq_true (by omega);generalize hd:zZX (x.drop (itU x k))=dd at *
     obtain ⟨r,w⟩:=dd
     rcases Nat.lt_or_ge a s.length with ha2 | ha2
     ·have g2:((a:Int)<(s.length:Int))=True:=eq_true (by omega);rw[if_pos ha2] at hV
      repeat' (first|refine zQQ 2314973370965559295 ?_|refine zQW ?_|(refine stp ?_;simp only[go_sem,g2])|(refine zXQ ?_;simp only[go_sem,hd])|(simp only[go_sem,g1])|(simp (disch:=omega) only[zQK])|(refine spl (fun h=>?_) (fun h=>?_)<;>first|omega|((try simp only[zRM]);(try simp only[go_sem,h])))|fail)
      simp only[zKZ,go_sem]
      repeat' (skip)
      refine zZZ ?_ ?_ ?_ ⟨.done,some (.exit 0),?_,by simp,?_⟩
      ·simp[htlk]
      ·simp only[];omega
      ·simp[EV.bel,zQX]
      ·simp only[go_sem]
      ·simp only[zGG,go_sem]
       repeat' (first|refine zQQ 2314973370965559295 ?_|(refine stp ?_;simp only[go_sem])|fail)
       refine ⟨5,D,rfl,by simp only[go_sem],?_⟩;simp only[go_sem];refine zQH (by simp[EV.bel,zQX]) ?_;rw[hV]
       try rw[hc]
       try simp
     ·have g2:((a:Int)<(s.length:Int))=False:=eq_false (by omega)
      exfalso;omega
end Go.Proofs.YtncphnpndkjkaaaGreatDoor
