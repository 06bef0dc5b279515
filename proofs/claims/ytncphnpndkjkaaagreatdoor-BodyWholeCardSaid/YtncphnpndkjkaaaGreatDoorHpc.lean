/-
  Own work: a part of the proof that the last text closes.
-/
import Derived.Test.YtncphnpndkjkaaaGreatDoorHp
namespace Go.Proofs.YtncphnpndkjkaaaGreatDoor
open Go.E
set_option linter.all false
set_option maxRecDepth 100000
set_option maxHeartbeats 16000000
section
def itU (s:List UInt8):Nat→Nat
 | 0=>0
 | n+1=>if itU s n<s.length then itU s n+(zZX (s.drop (itU s n))).2 else itU s n
theorem zZB {s:List UInt8} {n:Nat} (h:itU s n<s.length):itU s (n+1)=itU s n+(zZX (s.drop (itU s n))).2:=by rw[itU,if_pos h]
theorem yNF {s:List UInt8} {n:Nat} (h:s.length≤itU s n):itU s (n+1)=itU s n:=by rw[itU,if_neg (by omega)]
theorem zGD (s:List UInt8):∀ n,itU s n≤s.length
 | 0=>Nat.zero_le _
 | n+1=>by
   rcases Nat.lt_or_ge (itU s n) s.length with h | h
   ·rw[zZB h];have:=yQG (s.drop (itU s n)) (by rw[List.length_drop];omega);rw[List.length_drop] at this;omega
   ·rw[yNF h];exact zGD s n
theorem yRZ {s:List UInt8} {n:Nat} (h:itU s n<s.length):itU s n<itU s (n+1):=by
 rw[zZB h];have:=zJM (s.drop (itU s n));omega
theorem itU_succ (s:List UInt8) (n:Nat):itU s n≤itU s (n+1):=by
 rcases Nat.lt_or_ge (itU s n) s.length with h | h
 ·exact Nat.le_of_lt (yRZ h)
 ·rw[yNF h];exact Nat.le_refl _
theorem zTP (s:List UInt8) {m n:Nat} (h:m≤n):itU s m≤itU s n:=by
 induction h with
 | refl=>exact Nat.le_refl _
 | step _ ih=>exact Nat.le_trans ih (itU_succ s _)
theorem xRX (s:List UInt8):∀ n,(∀ k,k<n→itU s k<s.length)→(tlG s (itU s n)).1+n=(tlG s 0).1
 | 0,_=>rfl
 | n+1,h=>by
   have ih:=xRX s n fun k hk=>h k (by omega)
   have hl:=h n (Nat.lt_succ_self n);rw[zPN s _ hl] at ih
   rw[zZB hl];simp only at ih
   omega
theorem zKV (s:List UInt8):(∀ k,k<(tlG s 0).1→itU s k<s.length)∧itU s (tlG s 0).1=s.length:=by
 have h1:∀ k,k<(tlG s 0).1→itU s k<s.length:=by
  intro k
  induction k using Nat.strongRecOn with
  | ind k ih=>
    intro hk;have h2:=xRX s k fun j hj=>ih j hj (by omega)
    rcases Nat.lt_or_ge (itU s k) s.length with q | q
    ·exact q
    ·rw[zSN s _ q] at h2;simp only at h2;omega
 refine ⟨h1,?_⟩;have h2:=xRX s _ h1;have h3:=zGD s (tlG s 0).1
 rcases Nat.lt_or_ge (itU s (tlG s 0).1) s.length with q | q
 ·rw[zPN s _ q] at h2;simp only at h2;omega
 ·omega
theorem nth_it (s:List UInt8):∀ m k,k+m≤(tlG s 0).1→xPS s (itU s k) m=some (itU s (k+m))
 | 0,k,h=>by
   rcases Nat.lt_or_ge (itU s k) s.length with q | q
   ·exact xQX s _ q
   ·rw[xPT s _ _ q,if_pos rfl];have:=zGD s k;rw[Nat.add_zero,show s.length=itU s k by omega]
 | m+1,k,h=>by
   have q:=(zKV s).1 k (by omega);rw[xQZ s _ _ q,← zZB q,nth_it s m (k+1) (by omega),show k+1+m=k+(m+1) by omega]
def HasU (s:List UInt8) (a n:Nat):Prop:=a<s.length∧itU s n≤a∧a<itU s (n+1)∧n<(tlG s 0).1∨a=s.length∧n=(tlG s 0).1
theorem hasU (s:List UInt8) (a:Nat) (ha:a≤s.length):∃ n,HasU s a n:=by
 rcases Nat.lt_or_ge a s.length with h | h
 ·have key:∀ m,a<itU s m→∃ n,n<m∧itU s n≤a∧a<itU s (n+1):=by
   intro m
   induction m with
   | zero=>intro q;exact absurd q (by simp[itU])
   | succ m ih=>
     intro q
     rcases Nat.lt_or_ge a (itU s m) with r | r
     ·obtain ⟨n,q1,q2⟩:=ih r;exact ⟨n,by omega,q2⟩
     ·exact ⟨m,Nat.lt_succ_self m,r,q⟩
  obtain ⟨n,q1,q2,q3⟩:=key (tlG s 0).1 (by rw[(zKV s).2];exact h);exact ⟨n,.inl ⟨h,q2,q3,q1⟩⟩
 ·exact ⟨_,.inr ⟨by omega,rfl⟩⟩
theorem xJS (G:List Gl) (s:List UInt8) (hs:s.length≤9000000000):E.Pure G Tryz.prog 7 [.str s] (.int .i64 (tlG s 0).1):=by
 refine zXP fun V hV=>?_
 obtain ⟨c1,c2⟩:=zKV s;have c3:=(zYR s).2.1;refine zQV 11 [.tmp 2] Tryz.func7 ?_
 repeat' (first|refine zQQ 173 ?_|refine zQW ?_|(refine stp ?_;simp only[go_sem])|(refine zKT ?_;simp only[go_sem])|fail)
 refine zWK (fun n:Nat=>[(5,.ptr (some ⟨0,0⟩)),(3,.int .i64 n)]) (fun n:Nat=>[(0,.sIter s (itU s n))]) (fun n:Nat=>1) (fun n:Nat=>n≤(tlG s 0).1) (fun n:Nat=>(tlG s 0).1 - n) (0) (fun z hz=>⟨by simp[zWP],by trivial,by exact Nat.zero_le _⟩) (by exact Nat.zero_le _) (by simp only[go_sem,zQS];done) (by trivial) ?_;intro n hn
 rcases Nat.lt_or_ge n (tlG s 0).1 with hl | hl
 ·have hl2:=c1 n hl;have hst:=zZB hl2;generalize hd:zZX (s.drop (itU s n))=d at *
  obtain ⟨r,w⟩:=d;simp only at hst
  repeat' (first|refine zQQ 173 ?_|refine zQW ?_|(refine stp ?_;simp only[go_sem])|(refine zXQ ?_;simp only[go_sem,hd])|(simp (disch:=omega) only[zQK])|(refine spl (fun h=>?_) (fun h=>?_)<;>first|omega|((try simp only[zRM]);(try simp only[go_sem,h])))|fail)
  (refine ⟨(n+1),?_,?_,rfl,rfl,?_,?_⟩;rotate_left;(focus (simp only[];omega));(focus ((try simp only[go_sem,zQS]);((repeat' apply And.intro)<;>(rfl))));(focus (simp only[go_sem,zWG,hst]));(try simp only[]))
  exact hl
 ·obtain rfl:n=(tlG s 0).1:=by omega
  rw[c2]
  repeat' (first|refine zQQ 173 ?_|(refine stp ?_;simp only[go_sem])|(refine zXQ ?_;simp only[go_sem])|fail)
  (refine zQH (by simp[EV.bel]) ?_;rw[hV])
theorem uof_c (G:List Gl) (s:List UInt8) (hs:s.length≤9000000000) (a n:Nat) (ha:a≤s.length) (hn:HasU s a n):E.Pure G Tryz.prog 38 [.str s,.int .i64 a] (.tuple [.int .i64 n,.int .i64 0]):=by
 refine zXP fun V hV=>?_
 obtain ⟨c1,c2⟩:=zKV s;have c3:=(zYR s).2.1;have hn2:n≤(tlG s 0).1:=by rcases hn with q | q<;>omega
 refine zQV 35 [.tmp 4,.tmp 5] Tryz.func38 ?_
 repeat' (first|refine zQQ 2156822771 ?_|refine zQW ?_|(refine stp ?_;simp only[go_sem])|(refine zKT ?_;simp only[go_sem])|(refine spl (fun h=>?_) (fun h=>?_)<;>first|omega|((try simp only[zZQ]);(try simp only[go_sem,h])))|fail)
 refine zWK (fun m:Nat=>[(17,.ptr (some ⟨0,0⟩)),(6,.int .i64 m),(0,.str s),(1,.int .i64 a)]) (fun m:Nat=>[(0,.sIter s (itU s m))]) (fun m:Nat=>1) (fun m:Nat=>m≤(tlG s 0).1∧(a<s.length→m≤n+1)) (fun m:Nat=>(tlG s 0).1 - m) (0) (fun z hz=>⟨by simp[zWP],by trivial,by exact Nat.zero_le _⟩) (by exact ⟨Nat.zero_le _,fun _=>Nat.zero_le _⟩) (by simp only[go_sem,zQS];done) (by trivial) ?_
 rintro m ⟨hm,hm1⟩
 rcases Nat.lt_or_ge m (tlG s 0).1 with hl | hl
 ·have hl2:=c1 m hl;have hst:=zZB hl2;generalize hd:zZX (s.drop (itU s m))=d at *
  obtain ⟨r,w⟩:=d;simp only at hst
  rcases hn with ⟨q1,q2,q3,q4⟩ | ⟨q1,q2⟩
  ·have hm2:=hm1 q1
   rcases Nat.lt_or_ge n m with q | q
   ·obtain rfl:m=n+1:=by omega
    have e1:((n+1:Nat):Int) - 1=n:=by omega
    repeat' (first|(simp (disch:=omega) only[zQK,e1])|refine zQQ 2156822771 ?_|refine zQW ?_|(refine stp ?_;simp only[go_sem])|(refine zXQ ?_;simp only[go_sem,hd])|(refine spl (fun h=>?_) (fun h=>?_)<;>first|omega|((try simp only[zRM]);(try simp only[go_sem,h])))|fail)
    refine zQH (by simp[EV.bel,zQX]) ?_;rw[hV]
   ·have:=zTP s q
    repeat' (first|refine zQQ 2156822771 ?_|refine zQW ?_|(refine stp ?_;simp only[go_sem])|(refine zXQ ?_;simp only[go_sem,hd])|(simp (disch:=omega) only[zQK])|(refine spl (fun h=>?_) (fun h=>?_)<;>first|omega|((try simp only[zRM]);(try simp only[go_sem,h])))|fail)
    (refine ⟨(m+1),?_,?_,rfl,rfl,?_,?_⟩;rotate_left;(focus (simp only[];omega));(focus ((try simp only[go_sem,zQS]);((repeat' apply And.intro)<;>(rfl))));(focus (simp only[go_sem,zWG,hst]));(try simp only[]))
    exact ⟨hl,fun _=>by omega⟩
  ·repeat' (first|refine zQQ 2156822771 ?_|refine zQW ?_|(refine stp ?_;simp only[go_sem])|(refine zXQ ?_;simp only[go_sem,hd])|(simp (disch:=omega) only[zQK])|(refine spl (fun h=>?_) (fun h=>?_)<;>first|omega|((try simp only[zRM]);(try simp only[go_sem,h])))|fail)
   (refine ⟨(m+1),?_,?_,rfl,rfl,?_,?_⟩;rotate_left;(focus (simp only[];omega));(focus ((try simp only[go_sem,zQS]);((repeat' apply And.intro)<;>(rfl))));(focus (simp only[go_sem,zWG,hst]));(try simp only[]))
   exact ⟨hl,fun _=>by omega⟩
 ·obtain rfl:m=(tlG s 0).1:=by omega
  rw[c2]
  rcases hn with ⟨q1,q2,q3,q4⟩ | ⟨q1,q2⟩
  ·have hm2:=hm1 q1;have hnm:(tlG s 0).1=n+1:=by omega
   rw[hnm];have e1:((n+1:Nat):Int) - 1=n:=by omega
   repeat' (first|(simp (disch:=omega) only[zQK,e1])|refine zQQ 2156822771 ?_|(refine stp ?_;simp only[go_sem])|(refine zXQ ?_;simp only[go_sem])|(refine spl (fun h=>?_) (fun h=>?_)<;>first|omega|try simp only[go_sem,h])|fail)
   refine zQH (by simp[EV.bel,zQX]) ?_;rw[hV]
  ·subst q1 q2
   repeat' (first|refine zQQ 2156822771 ?_|(refine stp ?_;simp only[go_sem])|(refine zXQ ?_;simp only[go_sem])|(refine spl (fun h=>?_) (fun h=>?_)<;>first|omega|try simp only[go_sem,h])|fail)
   refine zQH (by simp[EV.bel,zQX]) ?_;rw[hV]
end
section
theorem yTS (b:UInt8):zRR b=true↔b.toNat / 64=2:=by unfold zRR;exact decide_eq_true_iff
theorem dec_local {l l':List UInt8} (h:l.take 4=l'.take 4) (h0:l ≠ []):zZX l=zZX l':=by
 have loc:∀ {x y:List UInt8} {c w:Nat},x.take 4=y.take 4→Mul x c w→Mul y c w:=fun {x y c w} e hm=>hm.loc (by
  have e2:=congrArg (List.take w) e;rw[List.take_take,List.take_take,Nat.min_eq_left hm.wide.2.1] at e2
  exact e2.symm)
 by_cases q:∃ c w,Mul l c w
 ·obtain ⟨c,w,hm⟩:=q;rw[zYN hm,zYN (loc h hm)]
 ·obtain ⟨a,r,rfl⟩:=List.exists_cons_of_ne_nil h0
  match l',h with
  | [],h=>simp at h
  | b::r',h=>
    have e:a=b:=by simp at h;exact h.1
    subst e;rw[zSJ q rfl,zSJ (fun ⟨c,w,hm⟩=>q ⟨c,w,loc h.symm hm⟩) rfl]
theorem yMQ {s:List UInt8} {f j:Nat} (hf:f<s.length) (h1:f<j) (h2:j<f+(zZX (s.drop f)).2):zRR (s.getD j 0)=true:=by
 have h0:s.drop f ≠ []:=List.ne_nil_of_length_pos (by rw[List.length_drop];omega);obtain ⟨c,hm⟩:=zMN h0 (by omega);obtain ⟨b,hb,hb2⟩:=hm.bytes.2 (j - f) (by omega) (by omega);rw[List.getElem?_drop,show f+(j - f)=j by omega] at hb
 rw[List.getD_eq_getElem?_getD,hb,yTS];exact hb2
theorem xTW {s:List UInt8} {f:Nat} (hf:f<s.length) (h:zRR (s.getD f 0)=true):(zZX (s.drop f)).2=1:=by
 rw[List.drop_eq_getElem_cons hf,yXG (by
  rw[← yTS];rw[List.getD_eq_getElem?_getD,List.getElem?_eq_getElem hf] at h
  exact h)]
theorem xYJ {s:List UInt8} {q:Nat} (hq:q<s.length) (h:zRR (s.getD q 0)=false):∃ n,n<(tlG s 0).1∧itU s n=q:=by
 obtain ⟨n,hn⟩:=hasU s q (by omega)
 rcases hn with ⟨q1,q2,q3,q4⟩ | ⟨q1,q2⟩
 ·refine ⟨n,q4,?_⟩
  rcases Nat.eq_or_lt_of_le q2 with e | e
  ·exact e
  ·have hl:=(zKV s).1 n q4;rw[zZB hl] at q3
   rw[yMQ hl e q3] at h;cases h
 ·omega
theorem zMP {s:List UInt8} {a j:Nat} (hj:a - 3+j<a+4):(zSX s a).getD j 0=s.getD (a - 3+j) 0:=by
 unfold zSX;rw[List.getD_eq_getElem?_getD,List.getD_eq_getElem?_getD,List.getElem?_take]
 split
 ·rw[List.getElem?_drop]
 ·rw[List.getElem?_eq_none (by omega)]
theorem zNQ (s:List UInt8) (a:Nat):(zSX s a).length=min (a+4) s.length - (a - 3):=by
 unfold zSX;rw[List.length_take,List.length_drop];omega
theorem xPH {s:List UInt8} {a j:Nat} (hj:a - 3+j≤a) (hl:a - 3+j<s.length):zZX ((zSX s a).drop j)=zZX (s.drop (a - 3+j)):=by
 refine dec_local ?_ (List.ne_nil_of_length_pos (by rw[List.length_drop,zNQ];omega));unfold zSX;rw[List.drop_take,List.drop_drop,List.take_take]
 rcases Nat.le_total (a+4) s.length with q | q
 ·rw[Nat.min_eq_left (by omega)]
 ·have e:(s.drop (a - 3+j)).length=s.length - (a - 3+j):=List.length_drop;rw[show min (a+4) s.length=s.length by omega]
  rcases Nat.le_total 4 (s.length - (a - 3) - j) with r | r
  ·rw[Nat.min_eq_left r]
  ·rw[Nat.min_eq_right r,List.take_of_length_le (by omega),List.take_of_length_le (by omega)]
theorem beg_in {s:List UInt8} {a f:Nat} (hf:f<s.length) (hfa:f≤a) (haf:a<f+(zZX (s.drop f)).2) {j:Nat} (h1:f<a - 3+j) (h2:a - 3+j≤a):xZW (zSX s a) j=false:=by
 have hw:=yXS (s.drop f);have hle:=yQG (s.drop f) (by rw[List.length_drop];omega);rw[List.length_drop] at hle
 have hnl:=zNQ s a;unfold xZW;rw[if_neg (by omega),zMP (by omega),yMQ hf h1 (by omega),if_pos rfl];have key:∀ d k,k+d=a - 3+j - f→1≤k→∀ g,d<g→begK (zSX s a) j g k=false:=by
  intro d
  induction d with
  | zero=>
    intro k hk h1 g hg;obtain ⟨g',rfl⟩:∃ g',g=g' + 1:=⟨g - 1,by omega⟩;rw[begK,if_pos (by omega),zMP (by omega),show a - 3+(j - k)=f by omega];have hc:zRR (s.getD f 0)=false:=by
     cases q:zRR (s.getD f 0) with
     | false=>rfl
     | true=>have:=xTW hf q;omega
    rw[hc,if_neg Bool.false_ne_true,xPH (by omega) (by omega),show a - 3+(j - k)=f by omega];exact decide_eq_false (by omega)
  | succ d ih=>
    intro k hk h1 g hg;obtain ⟨g',rfl⟩:∃ g',g=g' + 1:=⟨g - 1,by omega⟩;rw[begK,if_pos (by omega),zMP (by omega),yMQ hf (show f<a - 3+(j - k) by omega) (by omega),if_pos rfl];exact ih (k+1) (by omega) (by omega) g' (by omega)
 exact key (a - 3+j - f - 1) 1 (by omega) (Nat.le_refl _) 3 (by omega)
theorem beg_at {s:List UInt8} {a n j:Nat} (hl:itU s n<s.length) (hj:a - 3+j=itU s n) (h1:itU s n≤a) (h2:a<itU s (n+1)):xZW (zSX s a) j=true:=by
 have hnl:=zNQ s a;unfold xZW;rw[if_neg (by omega),zMP (by omega),hj]
 cases hc:zRR (s.getD (itU s n) 0) with
 | false=>rfl
 | true=>
   rw[if_pos rfl];have hw:=xTW hl hc;rw[zZB hl,hw] at h2
   have hkey:∀ g k,1≤k→begK (zSX s a) j g k=true:=by
    intro g
    induction g with
    | zero=>intro k _;rfl
    | succ g ih=>
      intro k hk;rw[begK]
      split
      ·rename_i hkj
       rw[zMP (by omega)]
       cases hq:zRR (s.getD (a - 3+(j - k)) 0) with
       | true=>rw[if_pos rfl];exact ih (k+1) (by omega)
       | false=>
         rw[if_neg Bool.false_ne_true,xPH (by omega) (by omega)];obtain ⟨m,hm,hme⟩:=xYJ (s:=s) (q:=a - 3+(j - k)) (by omega) hq;have hml:=(zKV s).1 m hm;have hlt:itU s m<itU s n:=by omega
         have hmn:m+1≤n:=by
          rcases Nat.lt_or_ge m n with r | r
          ·exact r
          ·have:=zTP s r;omega
         have:=zTP s hmn;rw[zZB hml,hme] at this
         exact decide_eq_true (by omega)
      ·rfl
   exact hkey 3 1 (Nat.le_refl _)
theorem xRB {l:List UInt8} {j:Nat} (h:xZW l j=true):dnB l j=j:=by
 cases j with
 | zero=>rfl
 | succ i=>rw[dnB,if_pos h]
theorem xRN {l:List UInt8} {i:Nat}:∀ j,i≤j→(∀ k,i<k→k≤j→xZW l k=false)→xZW l i=true→dnB l j=i
 | 0,h1,_,_=>by have:i=0:=by omega
                rw[this];rfl
 | j+1,h1,h2,h3=>by
   rcases Nat.eq_or_lt_of_le h1 with e | e
   ·subst e;exact xRB h3
   ·rw[dnB,h2 (j+1) e (Nat.le_refl _),if_neg Bool.false_ne_true];exact xRN j (by omega) (fun k q1 q2=>h2 k q1 (by omega)) h3
theorem first_has {s:List UInt8} {a n:Nat} (h:HasU s a n):zDS s a=itU s n:=by
 unfold zDS
 rcases h with ⟨q1,q2,q3,q4⟩ | ⟨q1,q2⟩
 ·have hl:=(zKV s).1 n q4;have hst:=zZB hl;have hw:=yXS (s.drop (itU s n));obtain ⟨j,hj⟩:∃ j,a - 3+j=itU s n:=⟨itU s n - (a - 3),by omega⟩;rw[xRN (l:=zSX s a) (i:=j) (a - (a - 3)) (by omega) (fun k k1 k2=>beg_in hl q2 (by omega) (by omega) (by omega)) (beg_at hl hj q2 q3)];exact hj
 ·subst q1 q2;rw[(zKV s).2];have hb:xZW (zSX s s.length) (s.length - (s.length - 3))=true:=by
   have:=zNQ s s.length;unfold xZW;rw[if_pos (by omega)];exact decide_eq_true (by omega)
  rw[xRB hb];omega
theorem yRX {s:List UInt8} {n:Nat} (hn:n≤(tlG s 0).1):∀ k,k≤n→itU (s.take (itU s n)) k=itU s k
 | 0,_=>rfl
 | k+1,hk=>by
   have ih:=yRX hn k (by omega);have hl:=(zKV s).1 k (by omega);have hlt:=yRZ hl;have hm:=zTP s hk;have hle:=zGD s n;have htl:(s.take (itU s n)).length=itU s n:=by rw[List.length_take];omega
   have hst:=zZB hl;have e:=yMH (a:=s.take (itU s n)) (b:=s.drop (itU s n)) (pos:=itU s k) (by omega) (by rw[List.take_append_drop,htl];omega);rw[List.take_append_drop] at e
   rw[zZB (s:=s.take (itU s n)) (by rw[ih,htl];omega),ih,← e,← hst]
theorem tl_take {s:List UInt8} {n:Nat} (hn:n≤(tlG s 0).1):(tlG (s.take (itU s n)) 0).1=n:=by
 have hle:=zGD s n;have htl:(s.take (itU s n)).length=itU s n:=by rw[List.length_take];omega
 have h1:=xRX (s.take (itU s n)) n fun k hk=>by
  rw[yRX hn k (by omega),htl];have hl:=(zKV s).1 k (by omega);have:=yRZ hl;have:=zTP s (show k+1≤n from hk);omega
 rw[yRX hn n (Nat.le_refl _),zSN _ _ (by rw[htl];exact Nat.le_refl _)] at h1
 simp only at h1;omega
theorem of_same {s:List UInt8} {a n:Nat} (h:HasU s a n):(tlG (s.take (zDS s a)) 0).1=n:=by
 rw[first_has h];exact tl_take (by rcases h with q | q<;>omega)
end
section
def endG (s:List UInt8) (i:Nat):Option Nat:=
 if (s.getD i 0).toNat=10 then (if 0<i∧(s.getD (i - 1) 0).toNat=13 then none else some 1)
 else if (s.getD i 0).toNat=13 then (if i+1<s.length∧(s.getD (i+1) 0).toNat=10 then some 2 else some 1)
 else if (zZX (s.drop i)).1=133∨(zZX (s.drop i)).1=8232∨(zZX (s.drop i)).1=8233 then some (zZX (s.drop i)).2 else none
def endE:Option Nat→EV
 | some n=>.tuple [.int .i64 n,.bool true]
 | none=>.tuple [.int .i64 0,.bool false]
theorem yXX {s:List UInt8} {i n:Nat} (hi:i<s.length) (h:endG s i=some n):1≤n∧i+n≤s.length:=by
 unfold endG at h
 have h1:=zJM (s.drop i);have h2:=yQG (s.drop i) (by rw[List.length_drop];omega);rw[List.length_drop] at h2
 repeat' split at h
 all_goals (cases h)
 all_goals omega
theorem lend_c {G:List Gl} (hG:Tabs G) (s:List UInt8) (hs:s.length≤9000000000) (i:Nat) (hi:i<s.length):E.Pure G Tryz.prog 87 [.str s,.int .i64 i] (endE (endG s i)):=by
 refine zXP fun V hV=>?_
 have e0:((i:Int)).toNat=i:=by omega
 have e1:((i:Int) - 1).toNat=i - 1:=by omega
 have e2:((i:Int)+1).toNat=i+1:=by omega
 have hgi:=zBZ hi;have hgp:s[i - 1]? = some (s.getD (i - 1) 0):=zBZ (by omega);have hgn:∀ k,k<s.length→s[k]? = some (s.getD k 0):=fun k hk=>zBZ hk
 have hne:s.drop i ≠ []:=List.ne_nil_of_length_pos (by rw[List.length_drop];omega);have hfi:=yRY hG (s.drop i) (by rw[List.length_drop];omega);have hr:((zZX (s.drop i)).1=133∨(zZX (s.drop i)).1=8232∨(zZX (s.drop i)).1=8233)→zHF (s.drop i)=true:=fun w=>by
  unfold zHF;exact decide_eq_true (.inl (by omega))
 by_cases hsp:(zZX (s.drop i)).1=133∨(zZX (s.drop i)).1=8232∨(zZX (s.drop i)).1=8233
 ·rw[hr hsp] at hfi
  refine zQV 60 [.tmp 4,.tmp 5] Tryz.func87 ?_
  repeat' (first|refine zQQ 27039193173131763 ?_|refine zQW ?_|(refine stp ?_;simp only[go_sem,e0])|(refine Pure.at (hfi) (by simp) (by simp) rfl ?_;(try simp only[go_sem]))|(simp only[go_sem,e1,e2])|(simp (disch:=omega) only[zQK])|(refine spl (fun h=>?_) (fun h=>?_)<;>first|omega|((try simp only[zZQ,zJB]);(try simp only[go_sem,h])))|(refine zQT ?_ ?_;focus omega))
  all_goals (
   refine zQH (by simp[EV.bel,zQX]) ?_;rw[hV];unfold endG
   (repeat' split)<;>first|rfl|(exfalso;omega))
 ·refine zQV 60 [.tmp 4,.tmp 5] Tryz.func87 ?_
  repeat' (first|refine zQQ 27039193173131763 ?_|refine zQW ?_|(refine stp ?_;simp only[go_sem,e0])|(refine Pure.at (hfi) (by simp) (by simp) rfl ?_;(try simp only[go_sem]))|(simp only[go_sem,e1,e2])|(simp (disch:=omega) only[zQK])|(refine spl (fun h=>?_) (fun h=>?_)<;>first|omega|((try simp only[zZQ,zJB]);(try simp only[go_sem,h])))|(refine zQT ?_ ?_;focus omega))
  all_goals (
   refine zQH (by simp[EV.bel,zQX]) ?_;rw[hV];unfold endG
   (repeat' split)<;>first|rfl|(exfalso;omega))
def lnP (s:List UInt8):Nat→Nat→Nat→List (Nat × Nat × Nat)
 | 0,o,_=>[(o,s.length,0)]
 | f+1,o,i=>if i<s.length then (match endG s i with | none=>lnP s f o (i+1) | some n=>(o,i,n)::lnP s f (i+n) (i+n)) else [(o,s.length,0)]
theorem zFT (s:List UInt8):∀ (f g o i:Nat),s.length - i≤f→s.length - i≤g→lnP s f o i=lnP s g o i
 | 0,0,_,_,_,_=>rfl
 | 0,g+1,o,i,h,_=>by rw[lnP,lnP,if_neg (by omega)]
 | f+1,0,o,i,_,h=>by rw[lnP,lnP,if_neg (by omega)]
 | f+1,g+1,o,i,h1,h2=>by
   rw[lnP,lnP]
   split
   ·rename_i hi
    cases he:endG s i with
    | none=>exact zFT s f g _ _ (by omega) (by omega)
    | some n=>
      have:=yXX hi he;simp only;rw[zFT s f g _ _ (by omega) (by omega)]
   ·rfl
def lnG (s:List UInt8) (o i:Nat):List (Nat × Nat × Nat):=lnP s (s.length - i) o i
theorem yPF (s:List UInt8) (o i:Nat) (h:s.length≤i):lnG s o i=[(o,s.length,0)]:=by
 unfold lnG;rw[show s.length - i=0 by omega];rfl
theorem yNR {s:List UInt8} (o:Nat) {i:Nat} (h:i<s.length) (he:endG s i=none):lnG s o i=lnG s o (i+1):=by
 unfold lnG;rw[zFT s (s.length - i) (s.length - i - 1+1) _ _ (by omega) (by omega),lnP,if_pos h,he];exact zFT s _ _ _ _ (by omega) (by omega)
theorem yNP {s:List UInt8} (o:Nat) {i n:Nat} (h:i<s.length) (he:endG s i=some n):lnG s o i=(o,i,n)::lnG s (i+n) (i+n):=by
 have:=yXX h he;unfold lnG;rw[zFT s (s.length - i) (s.length - i - 1+1) _ _ (by omega) (by omega),lnP,if_pos h,he];simp only;rw[zFT s _ (s.length - (i+n)) _ _ (by omega) (by omega)]
theorem yWH (s:List UInt8):∀ (m o i:Nat),s.length - i≤m→1≤(lnG s o i).length∧(lnG s o i).length≤s.length - i+1
 | 0,o,i,h=>by rw[yPF s o i (by omega)];simp
 | m+1,o,i,h=>by
   rcases Nat.lt_or_ge i s.length with hi | hi
   ·cases he:endG s i with
    | none=>
      rw[yNR o hi he];have:=yWH s m o (i+1) (by omega);omega
    | some n=>
      have hp:=yXX hi he;rw[yNP o hi he,List.length_cons];have:=yWH s m (i+n) (i+n) (by omega);omega
   ·rw[yPF s o i hi];simp
theorem lall_c (G:List Gl) (s:List UInt8):Eff G Tryz.prog 62 [.str s] [] 0 (.fn (.func 86) [] [.ptr (some ⟨0,0⟩)]) [(0,.cells [.str s] 9 0 true 0)] 1:=by
 unfold Eff;refine zQV 4 [.tmp 2] Tryz.func62 ?_
 repeat' (first|refine zQQ 7 ?_|(refine stp ?_;simp only[go_sem])|fail)
 exact zWW [0] (by simp) (by simp) (by simp) (by simp) (by simp) (by simp) rfl (by simp) (by simp)
end
section

end
end Go.Proofs.YtncphnpndkjkaaaGreatDoor
