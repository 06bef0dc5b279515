/-
  Own work: a part of the proof that the last text closes.
-/
import Derived.Test.YtgajmgkhlkghjaaGreatDoorHp
namespace Go.Proofs.YtgajmgkhlkghjaaGreatDoor
open Go.E
set_option linter.all false
set_option maxRecDepth 100000
set_option maxHeartbeats 16000000
section
def itU (s:List UInt8):Nat→Nat
 | 0=>0
 | n+1=>if itU s n<s.length then itU s n+(decE (s.drop (itU s n))).2 else itU s n
theorem itU_step {s:List UInt8} {n:Nat} (h:itU s n<s.length):itU s (n+1)=itU s n+(decE (s.drop (itU s n))).2:=by rw[itU,if_pos h]
theorem itU_stop {s:List UInt8} {n:Nat} (h:s.length≤itU s n):itU s (n+1)=itU s n:=by rw[itU,if_neg (by omega)]
theorem itU_le (s:List UInt8):∀ n,itU s n≤s.length
 | 0=>Nat.zero_le _
 | n+1=>by
   rcases Nat.lt_or_ge (itU s n) s.length with h | h
   ·rw[itU_step h];have:=decE_le (s.drop (itU s n)) (by rw[List.length_drop];omega);rw[List.length_drop] at this;omega
   ·rw[itU_stop h];exact itU_le s n
theorem itU_lt {s:List UInt8} {n:Nat} (h:itU s n<s.length):itU s n<itU s (n+1):=by
 rw[itU_step h];have:=decE_pos (s.drop (itU s n));omega
theorem itU_succ (s:List UInt8) (n:Nat):itU s n≤itU s (n+1):=by
 rcases Nat.lt_or_ge (itU s n) s.length with h | h
 ·exact Nat.le_of_lt (itU_lt h)
 ·rw[itU_stop h];exact Nat.le_refl _
theorem itU_mono (s:List UInt8) {m n:Nat} (h:m≤n):itU s m≤itU s n:=by
 induction h with
 | refl=>exact Nat.le_refl _
 | step _ ih=>exact Nat.le_trans ih (itU_succ s _)
theorem itU_tl (s:List UInt8):∀ n,(∀ k,k<n→itU s k<s.length)→(tlG s (itU s n)).1+n=(tlG s 0).1
 | 0,_=>rfl
 | n+1,h=>by
   have ih:=itU_tl s n fun k hk=>h k (by omega)
   have hl:=h n (Nat.lt_succ_self n);rw[tlG_step s _ hl] at ih
   rw[itU_step hl];simp only at ih
   omega
theorem itU_cnt (s:List UInt8):(∀ k,k<(tlG s 0).1→itU s k<s.length)∧itU s (tlG s 0).1=s.length:=by
 have h1:∀ k,k<(tlG s 0).1→itU s k<s.length:=by
  intro k
  induction k using Nat.strongRecOn with
  | ind k ih=>
    intro hk;have h2:=itU_tl s k fun j hj=>ih j hj (by omega)
    rcases Nat.lt_or_ge (itU s k) s.length with q | q
    ·exact q
    ·rw[tlG_end s _ q] at h2;simp only at h2;omega
 refine ⟨h1,?_⟩;have h2:=itU_tl s _ h1;have h3:=itU_le s (tlG s 0).1
 rcases Nat.lt_or_ge (itU s (tlG s 0).1) s.length with q | q
 ·rw[tlG_step s _ q] at h2;simp only at h2;omega
 ·omega
theorem nth_it (s:List UInt8):∀ m k,k+m≤(tlG s 0).1→nthG s (itU s k) m=some (itU s (k+m))
 | 0,k,h=>by
   rcases Nat.lt_or_ge (itU s k) s.length with q | q
   ·exact nthG_zero s _ q
   ·rw[nthG_end s _ _ q,if_pos rfl];have:=itU_le s k;rw[Nat.add_zero,show s.length=itU s k by omega]
 | m+1,k,h=>by
   have q:=(itU_cnt s).1 k (by omega);rw[nthG_step s _ _ q,← itU_step q,nth_it s m (k+1) (by omega),show k+1+m=k+(m+1) by omega]
theorem nth_none (s:List UInt8):∀ m k,k≤(tlG s 0).1→k+m=(tlG s 0).1+1→nthG s (itU s k) m=none
 | 0,k,h1,h2=>by omega
 | m+1,k,h1,h2=>by
   rcases Nat.lt_or_ge k (tlG s 0).1 with q | q
   ·have q1:=(itU_cnt s).1 k q;rw[nthG_step s _ _ q1,← itU_step q1];exact nth_none s m (k+1) (by omega) (by omega)
   ·obtain rfl:k=(tlG s 0).1:=by omega
    rw[(itU_cnt s).2,nthG_end s _ _ (Nat.le_refl _),if_neg (by omega)]
def HasU (s:List UInt8) (a n:Nat):Prop:=a<s.length∧itU s n≤a∧a<itU s (n+1)∧n<(tlG s 0).1∨a=s.length∧n=(tlG s 0).1
theorem hasU (s:List UInt8) (a:Nat) (ha:a≤s.length):∃ n,HasU s a n:=by
 rcases Nat.lt_or_ge a s.length with h | h
 ·have key:∀ m,a<itU s m→∃ n,n<m∧itU s n≤a∧a<itU s (n+1):=by
   intro m
   induction m with
   | zero=>intro q;exact absurd q (by simp[itU])
   | succ m ih=>
     intro q
     rcases Nat.lt_or_ge a (itU s m) with r | r
     ·obtain ⟨n,q1,q2⟩:=ih r;exact ⟨n,by omega,q2⟩
     ·exact ⟨m,Nat.lt_succ_self m,r,q⟩
  obtain ⟨n,q1,q2,q3⟩:=key (tlG s 0).1 (by rw[(itU_cnt s).2];exact h);exact ⟨n,.inl ⟨h,q2,q3,q1⟩⟩
 ·exact ⟨_,.inr ⟨by omega,rfl⟩⟩
theorem ucount_c (G:List Gl) (s:List UInt8) (hs:s.length≤9000000000):E.Pure G Tryz.prog 19 [.str s] (.int .i64 (tlG s 0).1):=by
 refine pure_hid fun V hV=>?_
 obtain ⟨c1,c2⟩:=itU_cnt s;have c3:=(tlG_bounds s).2.1;refine ecalls_I 11 [.tmp 2] Tryz.func19 ?_
 repeat' (first|refine esem_seqK 173 ?_|refine esem_block ?_|(refine stp ?_;simp only[go_sem])|(refine eop_ranges' ?_;simp only[go_sem])|fail)
 refine esem_loopS (fun n:Nat=>[(5,.ptr (some ⟨0,0⟩)),(3,.int .i64 n)]) (fun n:Nat=>[(0,.sIter s (itU s n))]) (fun n:Nat=>1) (fun n:Nat=>n≤(tlG s 0).1) (fun n:Nat=>(tlG s 0).1 - n) (0) (fun z hz=>⟨by simp[frBel],by trivial,by exact Nat.zero_le _⟩) (by exact Nat.zero_le _) (by simp only[go_sem,weakL];done) (by trivial) ?_;intro n hn
 rcases Nat.lt_or_ge n (tlG s 0).1 with hl | hl
 ·have hl2:=c1 n hl;have hst:=itU_step hl2;generalize hd:decE (s.drop (itU s n))=d at *
  obtain ⟨r,w⟩:=d;simp only at hst
  repeat' (first|refine esem_seqK 173 ?_|refine esem_block ?_|(refine stp ?_;simp only[go_sem])|(refine eop_nexts' ?_;simp only[go_sem,hd])|(simp (disch:=omega) only[wrap64E])|(refine spl (fun h=>?_) (fun h=>?_)<;>first|omega|((try simp only[pickZ]);(try simp only[go_sem,h])))|fail)
  (refine ⟨(n+1),?_,?_,rfl,rfl,?_,?_⟩;rotate_left;(focus (simp only[];omega));(focus ((try simp only[go_sem,weakL]);((repeat' apply And.intro)<;>(rfl))));(focus (simp only[go_sem,lessL,hst]));(try simp only[]))
  exact hl
 ·obtain rfl:n=(tlG s 0).1:=by omega
  rw[c2]
  repeat' (first|refine esem_seqK 173 ?_|(refine stp ?_;simp only[go_sem])|(refine eop_nexts' ?_;simp only[go_sem])|fail)
  (refine done_zero (by simp[EV.bel]) ?_;rw[hV])
theorem uof_c (G:List Gl) (s:List UInt8) (hs:s.length≤9000000000) (a n:Nat) (ha:a≤s.length) (hn:HasU s a n):E.Pure G Tryz.prog 23 [.str s,.int .i64 a] (.tuple [.int .i64 n,.int .i64 0]):=by
 refine pure_hid fun V hV=>?_
 obtain ⟨c1,c2⟩:=itU_cnt s;have c3:=(tlG_bounds s).2.1;have hn2:n≤(tlG s 0).1:=by rcases hn with q | q<;>omega
 refine ecalls_I 35 [.tmp 4,.tmp 5] Tryz.func23 ?_
 repeat' (first|refine esem_seqK 2156822771 ?_|refine esem_block ?_|(refine stp ?_;simp only[go_sem])|(refine eop_ranges' ?_;simp only[go_sem])|(refine spl (fun h=>?_) (fun h=>?_)<;>first|omega|((try simp only[opRun]);(try simp only[go_sem,h])))|fail)
 refine esem_loopS (fun m:Nat=>[(17,.ptr (some ⟨0,0⟩)),(6,.int .i64 m),(0,.str s),(1,.int .i64 a)]) (fun m:Nat=>[(0,.sIter s (itU s m))]) (fun m:Nat=>1) (fun m:Nat=>m≤(tlG s 0).1∧(a<s.length→m≤n+1)) (fun m:Nat=>(tlG s 0).1 - m) (0) (fun z hz=>⟨by simp[frBel],by trivial,by exact Nat.zero_le _⟩) (by exact ⟨Nat.zero_le _,fun _=>Nat.zero_le _⟩) (by simp only[go_sem,weakL];done) (by trivial) ?_
 rintro m ⟨hm,hm1⟩
 rcases Nat.lt_or_ge m (tlG s 0).1 with hl | hl
 ·have hl2:=c1 m hl;have hst:=itU_step hl2;generalize hd:decE (s.drop (itU s m))=d at *
  obtain ⟨r,w⟩:=d;simp only at hst
  rcases hn with ⟨q1,q2,q3,q4⟩ | ⟨q1,q2⟩
  ·have hm2:=hm1 q1
   rcases Nat.lt_or_ge n m with q | q
   ·obtain rfl:m=n+1:=by omega
    have e1:((n+1:Nat):Int) - 1=n:=by omega
    repeat' (first|(simp (disch:=omega) only[wrap64E,e1])|refine esem_seqK 2156822771 ?_|refine esem_block ?_|(refine stp ?_;simp only[go_sem])|(refine eop_nexts' ?_;simp only[go_sem,hd])|(refine spl (fun h=>?_) (fun h=>?_)<;>first|omega|((try simp only[pickZ]);(try simp only[go_sem,h])))|fail)
    refine done_zero (by simp[EV.bel,allBelow]) ?_;rw[hV]
   ·have:=itU_mono s q
    repeat' (first|refine esem_seqK 2156822771 ?_|refine esem_block ?_|(refine stp ?_;simp only[go_sem])|(refine eop_nexts' ?_;simp only[go_sem,hd])|(simp (disch:=omega) only[wrap64E])|(refine spl (fun h=>?_) (fun h=>?_)<;>first|omega|((try simp only[pickZ]);(try simp only[go_sem,h])))|fail)
    (refine ⟨(m+1),?_,?_,rfl,rfl,?_,?_⟩;rotate_left;(focus (simp only[];omega));(focus ((try simp only[go_sem,weakL]);((repeat' apply And.intro)<;>(rfl))));(focus (simp only[go_sem,lessL,hst]));(try simp only[]))
    exact ⟨hl,fun _=>by omega⟩
  ·repeat' (first|refine esem_seqK 2156822771 ?_|refine esem_block ?_|(refine stp ?_;simp only[go_sem])|(refine eop_nexts' ?_;simp only[go_sem,hd])|(simp (disch:=omega) only[wrap64E])|(refine spl (fun h=>?_) (fun h=>?_)<;>first|omega|((try simp only[pickZ]);(try simp only[go_sem,h])))|fail)
   (refine ⟨(m+1),?_,?_,rfl,rfl,?_,?_⟩;rotate_left;(focus (simp only[];omega));(focus ((try simp only[go_sem,weakL]);((repeat' apply And.intro)<;>(rfl))));(focus (simp only[go_sem,lessL,hst]));(try simp only[]))
   exact ⟨hl,fun _=>by omega⟩
 ·obtain rfl:m=(tlG s 0).1:=by omega
  rw[c2]
  rcases hn with ⟨q1,q2,q3,q4⟩ | ⟨q1,q2⟩
  ·have hm2:=hm1 q1;have hnm:(tlG s 0).1=n+1:=by omega
   rw[hnm];have e1:((n+1:Nat):Int) - 1=n:=by omega
   repeat' (first|(simp (disch:=omega) only[wrap64E,e1])|refine esem_seqK 2156822771 ?_|(refine stp ?_;simp only[go_sem])|(refine eop_nexts' ?_;simp only[go_sem])|(refine spl (fun h=>?_) (fun h=>?_)<;>first|omega|try simp only[go_sem,h])|fail)
   refine done_zero (by simp[EV.bel,allBelow]) ?_;rw[hV]
  ·subst q1 q2
   repeat' (first|refine esem_seqK 2156822771 ?_|(refine stp ?_;simp only[go_sem])|(refine eop_nexts' ?_;simp only[go_sem])|(refine spl (fun h=>?_) (fun h=>?_)<;>first|omega|try simp only[go_sem,h])|fail)
   refine done_zero (by simp[EV.bel,allBelow]) ?_;rw[hV]
end
section
theorem contB_iff (b:UInt8):contB b=true↔b.toNat / 64=2:=by unfold contB;exact decide_eq_true_iff
theorem dec_local {l l':List UInt8} (h:l.take 4=l'.take 4) (h0:l ≠ []):decE l=decE l':=by
 have loc:∀ {x y:List UInt8} {c w:Nat},x.take 4=y.take 4→Mul x c w→Mul y c w:=fun {x y c w} e hm=>hm.loc (by
  have e2:=congrArg (List.take w) e;rw[List.take_take,List.take_take,Nat.min_eq_left hm.wide.2.1] at e2
  exact e2.symm)
 by_cases q:∃ c w,Mul l c w
 ·obtain ⟨c,w,hm⟩:=q;rw[decE_mul hm,decE_mul (loc h hm)]
 ·obtain ⟨a,r,rfl⟩:=List.exists_cons_of_ne_nil h0
  match l',h with
  | [],h=>simp at h
  | b::r',h=>
    have e:a=b:=by simp at h;exact h.1
    subst e;rw[decE_one q rfl,decE_one (fun ⟨c,w,hm⟩=>q ⟨c,w,loc h.symm hm⟩) rfl]
theorem in_cont {s:List UInt8} {f j:Nat} (hf:f<s.length) (h1:f<j) (h2:j<f+(decE (s.drop f)).2):contB (s.getD j 0)=true:=by
 have h0:s.drop f ≠ []:=List.ne_nil_of_length_pos (by rw[List.length_drop];omega);obtain ⟨c,hm⟩:=dec_wide_mul h0 (by omega);obtain ⟨b,hb,hb2⟩:=hm.bytes.2 (j - f) (by omega) (by omega);rw[List.getElem?_drop,show f+(j - f)=j by omega] at hb
 rw[List.getD_eq_getElem?_getD,hb,contB_iff];exact hb2
theorem cont_one {s:List UInt8} {f:Nat} (hf:f<s.length) (h:contB (s.getD f 0)=true):(decE (s.drop f)).2=1:=by
 rw[List.drop_eq_getElem_cons hf,decE_cont (by
  rw[← contB_iff];rw[List.getD_eq_getElem?_getD,List.getElem?_eq_getElem hf] at h
  exact h)]
theorem start_of {s:List UInt8} {q:Nat} (hq:q<s.length) (h:contB (s.getD q 0)=false):∃ n,n<(tlG s 0).1∧itU s n=q:=by
 obtain ⟨n,hn⟩:=hasU s q (by omega)
 rcases hn with ⟨q1,q2,q3,q4⟩ | ⟨q1,q2⟩
 ·refine ⟨n,q4,?_⟩
  rcases Nat.eq_or_lt_of_le q2 with e | e
  ·exact e
  ·have hl:=(itU_cnt s).1 n q4;rw[itU_step hl] at q3
   rw[in_cont hl e q3] at h;cases h
 ·omega
theorem near_getD {s:List UInt8} {a j:Nat} (hj:a - 3+j<a+4):(nearG s a).getD j 0=s.getD (a - 3+j) 0:=by
 unfold nearG;rw[List.getD_eq_getElem?_getD,List.getD_eq_getElem?_getD,List.getElem?_take]
 split
 ·rw[List.getElem?_drop]
 ·rw[List.getElem?_eq_none (by omega)]
theorem near_length (s:List UInt8) (a:Nat):(nearG s a).length=min (a+4) s.length - (a - 3):=by
 unfold nearG;rw[List.length_take,List.length_drop];omega
theorem near_dec {s:List UInt8} {a j:Nat} (hj:a - 3+j≤a) (hl:a - 3+j<s.length):decE ((nearG s a).drop j)=decE (s.drop (a - 3+j)):=by
 refine dec_local ?_ (List.ne_nil_of_length_pos (by rw[List.length_drop,near_length];omega));unfold nearG;rw[List.drop_take,List.drop_drop,List.take_take]
 rcases Nat.le_total (a+4) s.length with q | q
 ·rw[Nat.min_eq_left (by omega)]
 ·have e:(s.drop (a - 3+j)).length=s.length - (a - 3+j):=List.length_drop;rw[show min (a+4) s.length=s.length by omega]
  rcases Nat.le_total 4 (s.length - (a - 3) - j) with r | r
  ·rw[Nat.min_eq_left r]
  ·rw[Nat.min_eq_right r,List.take_of_length_le (by omega),List.take_of_length_le (by omega)]
theorem beg_in {s:List UInt8} {a f:Nat} (hf:f<s.length) (hfa:f≤a) (haf:a<f+(decE (s.drop f)).2) {j:Nat} (h1:f<a - 3+j) (h2:a - 3+j≤a):begB (nearG s a) j=false:=by
 have hw:=decE_le4 (s.drop f);have hle:=decE_le (s.drop f) (by rw[List.length_drop];omega);rw[List.length_drop] at hle
 have hnl:=near_length s a;unfold begB;rw[if_neg (by omega),near_getD (by omega),in_cont hf h1 (by omega),if_pos rfl];have key:∀ d k,k+d=a - 3+j - f→1≤k→∀ g,d<g→begK (nearG s a) j g k=false:=by
  intro d
  induction d with
  | zero=>
    intro k hk h1 g hg;obtain ⟨g',rfl⟩:∃ g',g=g' + 1:=⟨g - 1,by omega⟩;rw[begK,if_pos (by omega),near_getD (by omega),show a - 3+(j - k)=f by omega];have hc:contB (s.getD f 0)=false:=by
     cases q:contB (s.getD f 0) with
     | false=>rfl
     | true=>have:=cont_one hf q;omega
    rw[hc,if_neg Bool.false_ne_true,near_dec (by omega) (by omega),show a - 3+(j - k)=f by omega];exact decide_eq_false (by omega)
  | succ d ih=>
    intro k hk h1 g hg;obtain ⟨g',rfl⟩:∃ g',g=g' + 1:=⟨g - 1,by omega⟩;rw[begK,if_pos (by omega),near_getD (by omega),in_cont hf (show f<a - 3+(j - k) by omega) (by omega),if_pos rfl];exact ih (k+1) (by omega) (by omega) g' (by omega)
 exact key (a - 3+j - f - 1) 1 (by omega) (Nat.le_refl _) 3 (by omega)
theorem beg_at {s:List UInt8} {a n j:Nat} (hl:itU s n<s.length) (hj:a - 3+j=itU s n) (h1:itU s n≤a) (h2:a<itU s (n+1)):begB (nearG s a) j=true:=by
 have hnl:=near_length s a;unfold begB;rw[if_neg (by omega),near_getD (by omega),hj]
 cases hc:contB (s.getD (itU s n) 0) with
 | false=>rfl
 | true=>
   rw[if_pos rfl];have hw:=cont_one hl hc;rw[itU_step hl,hw] at h2
   have hkey:∀ g k,1≤k→begK (nearG s a) j g k=true:=by
    intro g
    induction g with
    | zero=>intro k _;rfl
    | succ g ih=>
      intro k hk;rw[begK]
      split
      ·rename_i hkj
       rw[near_getD (by omega)]
       cases hq:contB (s.getD (a - 3+(j - k)) 0) with
       | true=>rw[if_pos rfl];exact ih (k+1) (by omega)
       | false=>
         rw[if_neg Bool.false_ne_true,near_dec (by omega) (by omega)];obtain ⟨m,hm,hme⟩:=start_of (s:=s) (q:=a - 3+(j - k)) (by omega) hq;have hml:=(itU_cnt s).1 m hm;have hlt:itU s m<itU s n:=by omega
         have hmn:m+1≤n:=by
          rcases Nat.lt_or_ge m n with r | r
          ·exact r
          ·have:=itU_mono s r;omega
         have:=itU_mono s hmn;rw[itU_step hml,hme] at this
         exact decide_eq_true (by omega)
      ·rfl
   exact hkey 3 1 (Nat.le_refl _)
theorem dnB_stop {l:List UInt8} {j:Nat} (h:begB l j=true):dnB l j=j:=by
 cases j with
 | zero=>rfl
 | succ i=>rw[dnB,if_pos h]
theorem dnB_down {l:List UInt8} {i:Nat}:∀ j,i≤j→(∀ k,i<k→k≤j→begB l k=false)→begB l i=true→dnB l j=i
 | 0,h1,_,_=>by have:i=0:=by omega
                rw[this];rfl
 | j+1,h1,h2,h3=>by
   rcases Nat.eq_or_lt_of_le h1 with e | e
   ·subst e;exact dnB_stop h3
   ·rw[dnB,h2 (j+1) e (Nat.le_refl _),if_neg Bool.false_ne_true];exact dnB_down j (by omega) (fun k q1 q2=>h2 k q1 (by omega)) h3
theorem first_has {s:List UInt8} {a n:Nat} (h:HasU s a n):firstG s a=itU s n:=by
 unfold firstG
 rcases h with ⟨q1,q2,q3,q4⟩ | ⟨q1,q2⟩
 ·have hl:=(itU_cnt s).1 n q4;have hst:=itU_step hl;have hw:=decE_le4 (s.drop (itU s n));obtain ⟨j,hj⟩:∃ j,a - 3+j=itU s n:=⟨itU s n - (a - 3),by omega⟩;rw[dnB_down (l:=nearG s a) (i:=j) (a - (a - 3)) (by omega) (fun k k1 k2=>beg_in hl q2 (by omega) (by omega) (by omega)) (beg_at hl hj q2 q3)];exact hj
 ·subst q1 q2;rw[(itU_cnt s).2];have hb:begB (nearG s s.length) (s.length - (s.length - 3))=true:=by
   have:=near_length s s.length;unfold begB;rw[if_pos (by omega)];exact decide_eq_true (by omega)
  rw[dnB_stop hb];omega
theorem it_take {s:List UInt8} {n:Nat} (hn:n≤(tlG s 0).1):∀ k,k≤n→itU (s.take (itU s n)) k=itU s k
 | 0,_=>rfl
 | k+1,hk=>by
   have ih:=it_take hn k (by omega);have hl:=(itU_cnt s).1 k (by omega);have hlt:=itU_lt hl;have hm:=itU_mono s hk;have hle:=itU_le s n;have htl:(s.take (itU s n)).length=itU s n:=by rw[List.length_take];omega
   have hst:=itU_step hl;have e:=dec_left (a:=s.take (itU s n)) (b:=s.drop (itU s n)) (pos:=itU s k) (by omega) (by rw[List.take_append_drop,htl];omega);rw[List.take_append_drop] at e
   rw[itU_step (s:=s.take (itU s n)) (by rw[ih,htl];omega),ih,← e,← hst]
theorem tl_take {s:List UInt8} {n:Nat} (hn:n≤(tlG s 0).1):(tlG (s.take (itU s n)) 0).1=n:=by
 have hle:=itU_le s n;have htl:(s.take (itU s n)).length=itU s n:=by rw[List.length_take];omega
 have h1:=itU_tl (s.take (itU s n)) n fun k hk=>by
  rw[it_take hn k (by omega),htl];have hl:=(itU_cnt s).1 k (by omega);have:=itU_lt hl;have:=itU_mono s (show k+1≤n from hk);omega
 rw[it_take hn n (Nat.le_refl _),tlG_end _ _ (by rw[htl];exact Nat.le_refl _)] at h1
 simp only at h1;omega
theorem of_same {s:List UInt8} {a n:Nat} (h:HasU s a n):(tlG (s.take (firstG s a)) 0).1=n:=by
 rw[first_has h];exact tl_take (by rcases h with q | q<;>omega)
end
section
def endG (s:List UInt8) (i:Nat):Option Nat:=
 if (s.getD i 0).toNat=10 then (if 0<i∧(s.getD (i - 1) 0).toNat=13 then none else some 1)
 else if (s.getD i 0).toNat=13 then (if i+1<s.length∧(s.getD (i+1) 0).toNat=10 then some 2 else some 1)
 else if (decE (s.drop i)).1=133∨(decE (s.drop i)).1=8232∨(decE (s.drop i)).1=8233 then some (decE (s.drop i)).2 else none
def endE:Option Nat→EV
 | some n=>.tuple [.int .i64 n,.bool true]
 | none=>.tuple [.int .i64 0,.bool false]
theorem endG_pos {s:List UInt8} {i n:Nat} (hi:i<s.length) (h:endG s i=some n):1≤n∧i+n≤s.length:=by
 unfold endG at h
 have h1:=decE_pos (s.drop i);have h2:=decE_le (s.drop i) (by rw[List.length_drop];omega);rw[List.length_drop] at h2
 repeat' split at h
 all_goals (cases h)
 all_goals omega
theorem lend_c {G:List Gl} (hG:Tabs G) (s:List UInt8) (hs:s.length≤9000000000) (i:Nat) (hi:i<s.length):E.Pure G Tryz.prog 86 [.str s,.int .i64 i] (endE (endG s i)):=by
 refine pure_hid fun V hV=>?_
 have e0:((i:Int)).toNat=i:=by omega
 have e1:((i:Int) - 1).toNat=i - 1:=by omega
 have e2:((i:Int)+1).toNat=i+1:=by omega
 have hgi:=getD_cons hi;have hgp:s[i - 1]? = some (s.getD (i - 1) 0):=getD_cons (by omega);have hgn:∀ k,k<s.length→s[k]? = some (s.getD k 0):=fun k hk=>getD_cons hk
 have hne:s.drop i ≠ []:=List.ne_nil_of_length_pos (by rw[List.length_drop];omega);have hfi:=first_c hG (s.drop i) (by rw[List.length_drop];omega);have hr:((decE (s.drop i)).1=133∨(decE (s.drop i)).1=8232∨(decE (s.drop i)).1=8233)→rightB (s.drop i)=true:=fun w=>by
  unfold rightB;exact decide_eq_true (.inl (by omega))
 by_cases hsp:(decE (s.drop i)).1=133∨(decE (s.drop i)).1=8232∨(decE (s.drop i)).1=8233
 ·rw[hr hsp] at hfi
  refine ecalls_I 60 [.tmp 4,.tmp 5] Tryz.func86 ?_
  repeat' (first|refine esem_seqK 27039193173131763 ?_|refine esem_block ?_|(refine stp ?_;simp only[go_sem,e0])|(refine Pure.at (hfi) (by simp) (by simp) rfl ?_;(try simp only[go_sem]))|(simp only[go_sem,e1,e2])|(simp (disch:=omega) only[wrap64E])|(refine spl (fun h=>?_) (fun h=>?_)<;>first|omega|((try simp only[opRun,opSkip]);(try simp only[go_sem,h])))|(refine and_om ?_ ?_;focus omega))
  all_goals (
   refine done_zero (by simp[EV.bel,allBelow]) ?_;rw[hV];unfold endG
   (repeat' split)<;>first|rfl|(exfalso;omega))
 ·refine ecalls_I 60 [.tmp 4,.tmp 5] Tryz.func86 ?_
  repeat' (first|refine esem_seqK 27039193173131763 ?_|refine esem_block ?_|(refine stp ?_;simp only[go_sem,e0])|(refine Pure.at (hfi) (by simp) (by simp) rfl ?_;(try simp only[go_sem]))|(simp only[go_sem,e1,e2])|(simp (disch:=omega) only[wrap64E])|(refine spl (fun h=>?_) (fun h=>?_)<;>first|omega|((try simp only[opRun,opSkip]);(try simp only[go_sem,h])))|(refine and_om ?_ ?_;focus omega))
  all_goals (
   refine done_zero (by simp[EV.bel,allBelow]) ?_;rw[hV];unfold endG
   (repeat' split)<;>first|rfl|(exfalso;omega))
def lnP (s:List UInt8):Nat→Nat→Nat→List (Nat × Nat × Nat)
 | 0,o,_=>[(o,s.length,0)]
 | f+1,o,i=>if i<s.length then (match endG s i with | none=>lnP s f o (i+1) | some n=>(o,i,n)::lnP s f (i+n) (i+n)) else [(o,s.length,0)]
theorem lnP_fuel (s:List UInt8):∀ (f g o i:Nat),s.length - i≤f→s.length - i≤g→lnP s f o i=lnP s g o i
 | 0,0,_,_,_,_=>rfl
 | 0,g+1,o,i,h,_=>by rw[lnP,lnP,if_neg (by omega)]
 | f+1,0,o,i,_,h=>by rw[lnP,lnP,if_neg (by omega)]
 | f+1,g+1,o,i,h1,h2=>by
   rw[lnP,lnP]
   split
   ·rename_i hi
    cases he:endG s i with
    | none=>exact lnP_fuel s f g _ _ (by omega) (by omega)
    | some n=>
      have:=endG_pos hi he;simp only;rw[lnP_fuel s f g _ _ (by omega) (by omega)]
   ·rfl
def lnG (s:List UInt8) (o i:Nat):List (Nat × Nat × Nat):=lnP s (s.length - i) o i
theorem lnG_end (s:List UInt8) (o i:Nat) (h:s.length≤i):lnG s o i=[(o,s.length,0)]:=by
 unfold lnG;rw[show s.length - i=0 by omega];rfl
theorem lnG_none {s:List UInt8} (o:Nat) {i:Nat} (h:i<s.length) (he:endG s i=none):lnG s o i=lnG s o (i+1):=by
 unfold lnG;rw[lnP_fuel s (s.length - i) (s.length - i - 1+1) _ _ (by omega) (by omega),lnP,if_pos h,he];exact lnP_fuel s _ _ _ _ (by omega) (by omega)
theorem lnG_some {s:List UInt8} (o:Nat) {i n:Nat} (h:i<s.length) (he:endG s i=some n):lnG s o i=(o,i,n)::lnG s (i+n) (i+n):=by
 have:=endG_pos h he;unfold lnG;rw[lnP_fuel s (s.length - i) (s.length - i - 1+1) _ _ (by omega) (by omega),lnP,if_pos h,he];simp only;rw[lnP_fuel s _ (s.length - (i+n)) _ _ (by omega) (by omega)]
theorem lnG_bound (s:List UInt8):∀ (m o i:Nat),s.length - i≤m→1≤(lnG s o i).length∧(lnG s o i).length≤s.length - i+1
 | 0,o,i,h=>by rw[lnG_end s o i (by omega)];simp
 | m+1,o,i,h=>by
   rcases Nat.lt_or_ge i s.length with hi | hi
   ·cases he:endG s i with
    | none=>
      rw[lnG_none o hi he];have:=lnG_bound s m o (i+1) (by omega);omega
    | some n=>
      have hp:=endG_pos hi he;rw[lnG_some o hi he,List.length_cons];have:=lnG_bound s m (i+n) (i+n) (by omega);omega
   ·rw[lnG_end s o i hi];simp
theorem lall_c (G:List Gl) (s:List UInt8):Eff G Tryz.prog 46 [.str s] [] 0 (.fn (.func 85) [] [.ptr (some ⟨0,0⟩)]) [(0,.cells [.str s] 9 0 true 0)] 1:=by
 unfold Eff;refine ecalls_I 4 [.tmp 2] Tryz.func46 ?_
 repeat' (first|refine esem_seqK 7 ?_|(refine stp ?_;simp only[go_sem])|fail)
 exact done_eff [0] (by simp) (by simp) (by simp) (by simp) (by simp) (by simp) rfl (by simp) (by simp)
theorem lcount_c {G:List Gl} (hG:Tabs G) (s:List UInt8) (hs:s.length≤9000000000):E.Pure G Tryz.prog 20 [.str s] (.int .i64 (lnG s 0 0).length):=by
 refine pure_hid fun V hV=>?_
 have hal:=lall_c G s;refine ecalls_I 11 [.tmp 2] Tryz.func20 ?_
 repeat' (first|refine esem_seqK 237 ?_|refine esem_block ?_|(refine stp ?_;simp only[go_sem])|(refine Eff.at2 (hal ) [] rfl (by first|(simp;done)|fail) rfl ?_;(try simp only[go_sem]))|fail)
 refine esem_rangeC [(3,.ptr (some ⟨0,0⟩))] 85 [] [.ptr (some ⟨1,0⟩)] (by simp only[go_sem]) Tryz.func85 rfl rfl (by simp only[go_sem,weakL]) ?_;intro cd hcd D;simp only[go_sem,List.nil_append,List.cons_append];refine ecalls_I 38 [] Tryz.func85 ?_
 repeat' (first|refine esem_seqK 134481019 ?_|refine esem_block ?_|(refine stp ?_;simp only[go_sem])|(refine esem_scope0 0 ?_)|fail)
 obtain ⟨tl,htm⟩:∃ l,l=tlM 11 [(3,.ptr (some ⟨0,0⟩))]:=⟨_,rfl⟩;have htlb:allBelow 1 tl:=by rw[htm];exact tlM_bel (by simp[frBel])
 have htlk:∀ k,1≤k→allBelow k tl=True:=fun k hk=>eq_true (allBelow_mono hk _ htlb)
 rw[← htm];have hb:=lnG_bound s s.length 0 0 (by omega);refine esem_loopS (fun z:Nat × Nat × Nat=>[(0,.fn (.yield (D+1)) [] []),(1,.ptr (some ⟨1,0⟩)),(3,.int .i64 z.1),(4,.int .i64 z.2.1)]) (fun z:Nat × Nat × Nat=>[(3,.rng (D+1) tl .ready none cd),(2,.raw D (.deferred (some []))),(1,.cells [.str s] 9 0 true 0),(0,.cells [.int .i64 z.2.2] 3 0 true 0)]) (fun z:Nat × Nat × Nat=>4) (fun z:Nat × Nat × Nat=>z.2.1≤s.length∧z.1≤s.length∧z.2.2+(lnG s z.1 z.2.1).length=(lnG s 0 0).length) (fun z:Nat × Nat × Nat=>s.length - z.2.1) ((0,0,0)) (fun z hz=>⟨by simp[frBel],by simp[htlk],Nat.le_refl _⟩) (by exact ⟨Nat.zero_le _,Nat.zero_le _,Nat.zero_add _⟩) (by simp only[go_sem,weakL];done) ?_ ?_
 ·simp only[go_sem,lessL]
 rintro ⟨o,i,m⟩ ⟨h1,h2,h3⟩
 simp only at h1 h2 h3 ⊢
 rcases Nat.lt_or_ge i s.length with hi | hi
 ·have hle:=lend_c hG s hs i hi
  cases he:endG s i with
  | none=>
    rw[he] at hle
    simp only[endE] at hle
    rw[lnG_none o hi he] at h3
    repeat' (first|refine esem_seqK 134481019 ?_|refine esem_block ?_|(refine stp ?_;simp only[go_sem])|(refine Pure.at (hle) (by simp) (by simp) rfl ?_;(try simp only[go_sem]))|(simp (disch:=omega) only[wrap64E])|(refine spl (fun h=>?_) (fun h=>?_)<;>first|omega|try simp only[go_sem,h])|fail)
    (refine ⟨(o,i+1,m),?_,?_,rfl,rfl,?_,?_⟩;rotate_left;(focus (simp only[];omega));(focus ((try simp only[go_sem,weakL]);((repeat' apply And.intro)<;>(rfl))));(focus (trivial));(try simp only[]))
    exact ⟨hi,h2,h3⟩
  | some n=>
    have hp:=endG_pos hi he;rw[he] at hle
    simp only[endE] at hle
    rw[lnG_some o hi he,List.length_cons] at h3
    repeat' (first|refine esem_seqK 134481019 ?_|refine esem_block ?_|(refine stp ?_;simp only[go_sem])|(refine Pure.at (hle) (by simp) (by simp) rfl ?_;(try simp only[go_sem]))|(refine spl (fun h=>?_) (fun h=>?_)<;>first|omega|try simp only[go_sem,h])|fail)
    refine eyields_round 3 11 [(3,.ptr (some ⟨0,0⟩))] cd (by simp only[go_sem,← htm]) hcd rfl rfl rfl rfl rfl ?_;rw[← htm];simp only[go_sem,putArgs]
    repeat' (first|(refine esem_skip ?_)|refine esem_block ?_|(refine stp ?_;simp only[go_sem])|(simp only[rndAsg,go_sem])|(simp (disch:=omega) only[wrap64E])|fail)
    simp only[rndPost,go_sem]
    repeat' (first|refine esem_seqK 134481019 ?_|(refine stp ?_;simp only[go_sem])|(simp (disch:=omega) only[wrap64E])|fail)
    (refine ⟨(i+n,i+n,m+1),?_,?_,rfl,rfl,?_,?_⟩;rotate_left;(focus (simp only[];omega));(focus ((try simp only[go_sem,weakL]);((repeat' apply And.intro)<;>(rfl))));(focus (trivial));(try simp only[]))
    exact ⟨hp.2,hp.2,by rw[← h3];omega⟩
 ·obtain rfl:i=s.length:=by omega
  rw[lnG_end s o _ (Nat.le_refl _)] at h3
  repeat' (first|refine esem_seqK 134481019 ?_|(refine stp ?_;simp only[go_sem])|(refine spl (fun h=>?_) (fun h=>?_)<;>first|omega|try simp only[go_sem,h])|fail)
  refine eyields_round 3 11 [(3,.ptr (some ⟨0,0⟩))] cd (by simp only[go_sem,← htm]) hcd rfl rfl rfl rfl rfl ?_;rw[← htm];simp only[go_sem,putArgs]
  repeat' (first|(refine esem_skip ?_)|refine esem_block ?_|(refine stp ?_;simp only[go_sem])|(simp only[rndAsg,go_sem])|(simp only[rndPost,go_sem])|(simp (disch:=omega) only[wrap64E])|fail)
  refine done_same ?_ ?_ ?_ ⟨.ready,none,?_,by simp,?_⟩
  ·simp[htlk]
  ·simp only[];omega
  ·simp[EV.bel,allBelow]
  ·simp only[go_sem]
  ·simp only[jumpE,go_sem]
   repeat' (first|refine esem_seqK 237 ?_|(refine stp ?_;simp only[go_sem])|fail)
   refine ⟨2,D,rfl,by simp only[go_sem],?_⟩;simp only[go_sem];have h4:(lnG s 0 0).length=m+1:=by rw[← h3];rfl
   rw[h4] at hV
   refine done_zero (by simp[EV.bel]) ?_;rw[hV];rfl
end
section
def lineE:Option (Nat × Nat × Nat)→EV
 | some (a,b,w)=>.tuple [.agg [.int .i64 a,.int .i64 b],.int .i64 w,.int .i64 0]
 | none=>.tuple [.agg [.int .i64 0,.int .i64 0],.int .i64 0,.int .i64 6]
theorem lline_c {G:List Gl} (hG:Tabs G) (s:List UInt8) (hs:s.length≤9000000000) (n:Nat) (hn:n≤9000000000):E.Pure G Tryz.prog 25 [.str s,.int .i64 n] (lineE (lnG s 0 0)[n]?):=by
 refine pure_hid fun V hV=>?_
 have hal:=lall_c G s;refine ecalls_I 22 [.cell 4 63,.cell 5 3,.cell 6 34] Tryz.func25 ?_
 repeat' (first|refine esem_seqK 80891 ?_|refine esem_block ?_|(refine stp ?_;simp only[go_sem])|(refine Eff.at2 (hal ) [] rfl (by first|(simp;done)|fail) rfl ?_;(try simp only[go_sem]))|fail)
 refine esem_rangeC [(3,.ptr (some ⟨0,0⟩)),(4,.ptr (some ⟨1,0⟩)),(5,.ptr (some ⟨2,0⟩)),(6,.ptr (some ⟨3,0⟩)),(7,.ptr (some ⟨4,0⟩))] 85 [] [.ptr (some ⟨5,0⟩)] (by simp only[go_sem]) Tryz.func85 rfl rfl (by simp only[go_sem,weakL]) ?_;intro cd hcd D;simp only[go_sem,List.nil_append,List.cons_append];refine ecalls_I 38 [] Tryz.func85 ?_
 repeat' (first|refine esem_seqK 134481019 ?_|refine esem_block ?_|(refine stp ?_;simp only[go_sem])|(refine esem_scope0 0 ?_)|fail)
 obtain ⟨tl,htm⟩:∃ l,l=tlM 22 [(3,.ptr (some ⟨0,0⟩)),(4,.ptr (some ⟨1,0⟩)),(5,.ptr (some ⟨2,0⟩)),(6,.ptr (some ⟨3,0⟩)),(7,.ptr (some ⟨4,0⟩))]:=⟨_,rfl⟩;have htlb:allBelow 5 tl:=by rw[htm];exact tlM_bel (by simp[frBel])
 have htlk:∀ k,5≤k→allBelow k tl=True:=fun k hk=>eq_true (allBelow_mono hk _ htlb)
 have htlr:∀ q,renL (nam 8 q) tl=tl:=fun q=>renL_nam (k:=5) (i:=3) htlb
 rw[← htm];have hb:=lnG_bound s s.length 0 0 (by omega);refine esem_loopP (fun z:Nat × Nat × Nat=>[(0,.fn (.yield (D+1)) [] []),(1,.ptr (some ⟨5,0⟩)),(3,.int .i64 z.1),(4,.int .i64 z.2.1)]) (fun z:Nat × Nat × Nat=>[(7,.rng (D+1) tl .ready none cd),(6,.raw D (.deferred (some []))),(5,.cells [.str s] 9 0 true 0),(4,.cells [.int .i64 z.2.2] 3 0 true 0),(3,.cells [.int .i64 0] 34 0 true 0),(2,.cells [.int .i64 0] 3 0 true 0),(1,.cells [.int .i64 0,.int .i64 0] 63 0 true 0),(0,.cells [.int .i64 n] 3 0 true 0)]) (fun z:Nat × Nat × Nat=>8) (fun z:Nat × Nat × Nat=>z.2.1≤s.length∧z.1≤s.length∧z.2.2≤n∧(lnG s z.1 z.2.1)[n - z.2.2]? = (lnG s 0 0)[n]?) (fun z:Nat × Nat × Nat=>s.length - z.2.1) ((0,0,0)) ?_ ?_ ?_ ?_ ?_
 ·rintro z -
  exact ⟨by simp[frBel],by simp[htlk],by decide⟩
 ·exact ⟨Nat.zero_le _,Nat.zero_le _,Nat.zero_le _,rfl⟩
 ·simp only[go_sem,weakL]
 ·simp only[go_sem,lessL]
 rintro ⟨o,i,m⟩ ⟨h1,h2,h3,h4⟩
 simp only at h1 h2 h3 h4 ⊢
 rcases Nat.lt_or_ge i s.length with hi | hi
 ·have hle:=lend_c hG s hs i hi
  cases he:endG s i with
  | none=>
    rw[he] at hle
    simp only[endE] at hle
    rw[lnG_none o hi he] at h4
    repeat' (first|refine esem_seqK 134481019 ?_|refine esem_block ?_|(refine stp ?_;simp only[go_sem])|(refine Pure.at (hle) (by simp) (by simp) rfl ?_;(try simp only[go_sem]))|(simp (disch:=omega) only[wrap64E])|(refine spl (fun h=>?_) (fun h=>?_)<;>first|omega|try simp only[go_sem,h])|fail)
    (refine ⟨(o,i+1,m),8,[],?_,?_,rfl,rfl,?_,⟨?_,rfl,?_,?_,?_,?_,?_⟩⟩;rotate_left;(focus (simp only[];omega));(focus (simp[go_sem,weakL]));(focus (omega));(focus simp);(focus (simp));(focus (simp only[];omega));(focus (simp[htlk]));(focus (simp[htlr]));(try simp only[]))
    exact ⟨hi,h2,h3,h4⟩
  | some w=>
    have hp:=endG_pos hi he;rw[he] at hle
    simp only[endE] at hle
    rw[lnG_some o hi he] at h4
    repeat' (first|refine esem_seqK 134481019 ?_|refine esem_block ?_|(refine stp ?_;simp only[go_sem])|(refine Pure.at (hle) (by simp) (by simp) rfl ?_;(try simp only[go_sem]))|(refine spl (fun h=>?_) (fun h=>?_)<;>first|omega|try simp only[go_sem,h])|fail)
    rcases Nat.eq_or_lt_of_le h3 with e | e
    ·subst e;rw[Nat.sub_self,List.getElem?_cons_zero] at h4
     refine eyields_round 7 22 [(3,.ptr (some ⟨0,0⟩)),(4,.ptr (some ⟨1,0⟩)),(5,.ptr (some ⟨2,0⟩)),(6,.ptr (some ⟨3,0⟩)),(7,.ptr (some ⟨4,0⟩))] cd (by simp only[go_sem,← htm]) hcd rfl rfl rfl rfl rfl ?_;rw[← htm];simp only[go_sem,putArgs]
     repeat' (first|refine esem_seqK 80891 ?_|refine esem_block ?_|(refine stp ?_;simp only[go_sem,List.append_nil])|(simp only[rndAsg,go_sem])|fail)
     simp only[rndPost,go_sem]
     repeat' (first|(refine stp ?_;simp only[go_sem])|fail)
     refine done_same ?_ ?_ ?_ ⟨.done,some .ret,?_,by simp,?_⟩
     ·simp[htlk]
     ·simp only[];omega
     ·simp[EV.bel,allBelow]
     ·simp only[go_sem]
     ·simp only[jumpE,go_sem]
      repeat' (skip)
      refine ⟨6,D,rfl,by simp only[go_sem],?_⟩;simp only[go_sem];refine done_zero (by simp[EV.bel,allBelow]) ?_;rw[hV,← h4];rfl
    ·rw[show n - m=(n - (m+1))+1 by omega,List.getElem?_cons_succ] at h4
     have e1:((m:Int)=(n:Int))=False:=eq_false (by omega);refine eyields_round 7 22 [(3,.ptr (some ⟨0,0⟩)),(4,.ptr (some ⟨1,0⟩)),(5,.ptr (some ⟨2,0⟩)),(6,.ptr (some ⟨3,0⟩)),(7,.ptr (some ⟨4,0⟩))] cd (by simp only[go_sem,← htm]) hcd rfl rfl rfl rfl rfl ?_;rw[← htm];simp only[go_sem,putArgs]
     repeat' (first|(refine esem_skip ?_)|refine esem_seqK 80891 ?_|refine esem_block ?_|(refine stp ?_;simp only[go_sem,e1])|(simp only[rndAsg,go_sem])|(simp (disch:=omega) only[wrap64E])|fail)
     simp only[rndPost,go_sem]
     repeat' (first|refine esem_seqK 134481019 ?_|(refine stp ?_;simp only[go_sem])|(simp (disch:=omega) only[wrap64E])|fail)
     (refine ⟨(i+w,i+w,m+1),8,[],?_,?_,rfl,rfl,?_,⟨?_,rfl,?_,?_,?_,?_,?_⟩⟩;rotate_left;(focus (simp only[];omega));(focus (simp[go_sem,weakL]));(focus (omega));(focus simp);(focus (simp));(focus (simp only[];omega));(focus (simp[htlk]));(focus (simp[htlr]));(try simp only[]))
     exact ⟨hp.2,hp.2,e,h4⟩
 ·obtain rfl:i=s.length:=by omega
  rw[lnG_end s o _ (Nat.le_refl _)] at h4
  repeat' (first|refine esem_seqK 134481019 ?_|(refine stp ?_;simp only[go_sem])|(refine spl (fun h=>?_) (fun h=>?_)<;>first|omega|try simp only[go_sem,h])|fail)
  rcases Nat.eq_or_lt_of_le h3 with e | e
  ·subst e;rw[Nat.sub_self,List.getElem?_cons_zero] at h4
   refine eyields_round 7 22 [(3,.ptr (some ⟨0,0⟩)),(4,.ptr (some ⟨1,0⟩)),(5,.ptr (some ⟨2,0⟩)),(6,.ptr (some ⟨3,0⟩)),(7,.ptr (some ⟨4,0⟩))] cd (by simp only[go_sem,← htm]) hcd rfl rfl rfl rfl rfl ?_;rw[← htm];simp only[go_sem,putArgs]
   repeat' (first|refine esem_seqK 80891 ?_|refine esem_block ?_|(refine stp ?_;simp only[go_sem,List.append_nil])|(simp only[rndAsg,go_sem])|fail)
   simp only[rndPost,go_sem]
   repeat' (skip)
   refine done_same ?_ ?_ ?_ ⟨.done,some .ret,?_,by simp,?_⟩
   ·simp[htlk]
   ·simp only[];omega
   ·simp[EV.bel,allBelow]
   ·simp only[go_sem]
   ·simp only[jumpE,go_sem]
    repeat' (skip)
    refine ⟨6,D,rfl,by simp only[go_sem],?_⟩;simp only[go_sem];refine done_zero (by simp[EV.bel,allBelow]) ?_;rw[hV,← h4];rfl
  ·rw[List.getElem?_eq_none (by simp;omega)] at h4
   have e1:((m:Int)=(n:Int))=False:=eq_false (by omega);refine eyields_round 7 22 [(3,.ptr (some ⟨0,0⟩)),(4,.ptr (some ⟨1,0⟩)),(5,.ptr (some ⟨2,0⟩)),(6,.ptr (some ⟨3,0⟩)),(7,.ptr (some ⟨4,0⟩))] cd (by simp only[go_sem,← htm]) hcd rfl rfl rfl rfl rfl ?_;rw[← htm];simp only[go_sem,putArgs]
   repeat' (first|(refine esem_skip ?_)|refine esem_seqK 80891 ?_|refine esem_block ?_|(refine stp ?_;simp only[go_sem,e1])|(simp only[rndAsg,go_sem])|(simp (disch:=omega) only[wrap64E])|fail)
   simp only[rndPost,go_sem]
   repeat' (skip)
   refine done_same ?_ ?_ ?_ ⟨.ready,none,?_,by simp,?_⟩
   ·simp[htlk]
   ·simp only[];omega
   ·simp[EV.bel,allBelow]
   ·simp only[go_sem]
   ·simp only[jumpE,go_sem]
    repeat' (first|refine esem_seqK 80891 ?_|(refine stp ?_;simp only[go_sem])|fail)
    refine ⟨6,D,rfl,by simp only[go_sem],?_⟩;simp only[go_sem];refine done_zero (by simp[EV.bel,allBelow]) ?_;rw[hV,← h4];rfl
end
end Go.Proofs.YtgajmgkhlkghjaaGreatDoor
