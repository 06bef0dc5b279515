/-
  Own work: a part of the proof that the last text closes.
-/
import Derived.Test.YtncphnpndkjkaaaGreatDoorHpc
import Derived.Test.YtncphnpndkjkaaaGreatDoorFk
namespace Go.Proofs.YtncphnpndkjkaaaGreatDoor
open Go.E
set_option linter.all false
set_option maxRecDepth 100000
set_option maxHeartbeats 16000000
section
theorem cont_dec {s:List UInt8} {f:Nat} (hf:f<s.length) (h:zRR (s.getD f 0)=true):zZX (s.drop f)=(65533,1):=by
 rw[List.drop_eq_getElem_cons hf];refine yXG ?_;have h2:=(yTS _).1 h
 rwa [List.getD_eq_getElem?_getD,List.getElem?_eq_getElem hf] at h2
theorem last_c {G:List Gl} (hG:Tabs G) (s:List UInt8) (hs:s.length≤9000000000) (k:Nat) (hk:itU s k<s.length) (hk1:itU s (k+1)=s.length) :
  E.Pure G Tryz.prog 128 [.str s] (.tuple [.int .i32 (zZX (s.drop (itU s k))).1,.int .i64 (zZX (s.drop (itU s k))).2,.bool (zHF (s.drop (itU s k)))]):=by
 have hst:=zZB hk;rw[hk1] at hst
 have hwp:=zJM (s.drop (itU s k));have hw4:=yXS (s.drop (itU s k));obtain ⟨f,hf⟩:∃ f,itU s k=f:=⟨_,rfl⟩;have hfl:f<s.length:=by rw[← hf];exact hk
 have hin:∀ j,f<j→j<s.length→zRR (s.getD j 0)=true:=fun j h1 h2=>yMQ hfl h1 (by rw[← hf,← hst];exact h2)
 have hone:zRR (s.getD f 0)=true→zZX (s.drop f)=(65533,1):=cont_dec hfl;have hbef:∀ q,q<f→zRR (s.getD q 0)=false→q+(zZX (s.drop q)).2≤f:=by
  intro q hq hc;obtain ⟨n,hn,hnq⟩:=xYJ (by omega) hc;have hnk:n<k:=by
   rcases Nat.lt_or_ge n k with h | h
   ·exact h
   ·have:=zTP s h;omega
  have:=zTP s (show n+1≤k from hnk);rw[zZB (by omega),hnq,hf] at this
  exact this
 have hrb:zHF (s.drop f)=decide ((zZX (s.drop f)).1 ≠ 65533∨(zZX (s.drop f)).2 > 1):=rfl;rw[hf] at hst hwp hw4 ⊢
 obtain ⟨R,hR⟩:∃ R,zHF (s.drop f)=R:=⟨_,rfl⟩;rw[hR] at hrb ⊢
 obtain ⟨d,hd⟩:∃ d,zZX (s.drop f)=d:=⟨_,rfl⟩;rw[hd] at hst hwp hw4 hone hrb ⊢
 obtain ⟨c,w⟩:=d;simp only at hst hwp hw4 hone hrb ⊢
 refine zXP fun V hV=>?_
 have hn0:((s.length:Int)=0)=False:=eq_false (by omega);have hdef:w=1→zRR (s.getD f 0)=true→V=.tuple [.int .i32 65533,.int .i64 1,.bool false]:=fun h1 h2=>by
  have h3:=hone h2;simp only[Prod.mk.injEq] at h3
  obtain ⟨rfl,rfl⟩:=h3;rw[hV,hrb];rfl
 refine zQV 47 [.tmp 2,.tmp 3,.tmp 4] Tryz.func128 ?_
 repeat' (first|refine zQQ 17592455537661 ?_|refine zQW ?_|(refine stp ?_;simp only[go_sem,hn0])|fail)
 refine zWK (fun j:Nat=>[(6,.int .i64 j),(5,.int .i64 s.length),(0,.str s)]) (fun j:Nat=>[]) (fun j:Nat=>0) (fun j:Nat=>1≤j∧j≤5∧(∀ i,1≤i→i<j→i≤s.length∧zRR (s.getD (s.length - i) 0)=true)∧(2≤w→j≤w)∧(w=1→R=true→j≤1)) (fun j:Nat=>6 - j) (1) (fun z hz=>⟨by simp[zWP],by trivial,by exact Nat.le_refl _⟩) (by exact ⟨Nat.le_refl _,by omega,fun i h1 h2=>absurd h2 (by omega),fun h=>by omega,fun _ _=>Nat.le_refl _⟩) (by simp only[go_sem,zQS];done) (by trivial) ?_
 rintro j ⟨h1,h5,hpre,hw2,hw1⟩
 by_cases hcond:j≤4∧j≤s.length
 ·obtain ⟨hj4,hjl⟩:=hcond;have hgk:=zBZ (s:=s) (i:=s.length - j) (by omega);have hfk:=xRJ G (s.getD (s.length - j) 0);have e1:((s.length:Int) - (j:Int)).toNat=s.length - j:=by omega
  cases hc2:zRR (s.getD (s.length - j) 0) with
  | true=>
    rw[hc2] at hfk
    repeat' (first|refine zQQ 17592455537661 ?_|refine zQW ?_|(refine stp ?_;simp only[go_sem])|(refine Pure.at (hfk) (by simp) (by simp) rfl ?_;(try simp only[go_sem]))|(simp only[go_sem,e1])|(simp (disch:=omega) only[zQK])|(refine spl (fun h=>?_) (fun h=>?_)<;>first|omega|((try simp only[zZQ]);(try simp only[go_sem,h])))|(refine zQT ?_ ?_;focus omega))
    (refine ⟨(j+1),?_,?_,rfl,rfl,?_,?_⟩;rotate_left;(focus (simp only[];omega));(focus ((try simp only[go_sem,zQS]);((repeat' apply And.intro)<;>(rfl))));(focus (trivial));(try simp only[]))
    refine ⟨by omega,by omega,fun i hi1 hi2=>?_,fun h2=>?_,fun hw hr=>?_⟩
    ·rcases Nat.lt_or_ge i j with q | q
     ·exact hpre i hi1 q
     ·obtain rfl:i=j:=by omega
      exact ⟨hjl,hc2⟩
    ·have:=hw2 h2
     rcases Nat.eq_or_lt_of_le this with q | q
     ·subst q;rw[show s.length - j=f by omega] at hc2
      have:=hone hc2;simp only[Prod.mk.injEq] at this
      omega
     ·exact q
    ·have:=hw1 hw hr;rw[show s.length - j=f by omega] at hc2
     have:=hone hc2;simp only[Prod.mk.injEq] at this
     rw[hrb,this.1,this.2] at hr
     exact absurd hr (by decide)
  | false=>
    rw[hc2] at hfk
    have hfi:=yRY hG (s.drop (s.length - j)) (by rw[List.length_drop];omega)
    by_cases hq:s.length - j=f
    ·rw[hq,hd,hR] at hfi
     have e2:((w:Int)=(j:Int))=True:=eq_true (by omega)
     cases R with
     | true=>
       rw[hq] at hgk e1 hfk
       repeat' (first|refine zQQ 17592455537661 ?_|refine zQW ?_|(refine stp ?_;simp only[go_sem,hq,e2])|(refine Pure.at (hfk) (by simp) (by simp) rfl ?_;(try simp only[go_sem,hq]))|(refine Pure.at (hfi) (by simp) (by simp) rfl ?_;(try simp only[go_sem,hq]))|(simp only[go_sem,hq,e1])|(simp (disch:=omega) only[zQK])|(refine spl (fun h=>?_) (fun h=>?_)<;>first|omega|((try simp only[zZQ]);(try simp only[go_sem,hq,h])))|(refine zQT ?_ ?_;focus omega))
       (refine zQH (by simp[EV.bel,zQX]) ?_;rw[hV])
     | false=>
       have h3:=of_decide_eq_false hrb.symm;have hc3:c=65533:=by omega
       have hw3:w=1:=by omega
       rw[hq] at hgk e1 hfk
       repeat' (first|refine zQQ 17592455537661 ?_|refine zQW ?_|(refine stp ?_;simp only[go_sem,hq])|(refine Pure.at (hfk) (by simp) (by simp) rfl ?_;(try simp only[go_sem,hq]))|(refine Pure.at (hfi) (by simp) (by simp) rfl ?_;(try simp only[go_sem,hq]))|(simp only[go_sem,hq,e1])|(simp (disch:=omega) only[zQK])|(refine spl (fun h=>?_) (fun h=>?_)<;>first|omega|((try simp only[zZQ]);(try simp only[go_sem,hq,h])))|(refine zQT ?_ ?_;focus omega))
       (refine zQH (by simp[EV.bel,zQX]) ?_;rw[hV])
       rw[hc3,hw3];rfl
    ·have hjw:¬ j<w:=fun hlt=>by
      have:=hin (s.length - j) (by omega) (by omega);rw[hc2] at this;cases this
     have hw3:w=1:=by
      rcases Nat.lt_or_ge w 2 with q | q
      ·omega
      ·have:=hw2 q;omega
     have h4:=hbef (s.length - j) (by omega) hc2;obtain ⟨h6,h7⟩:=hpre 1 (Nat.le_refl _) (by omega);rw[show s.length - 1=f by omega] at h7
     have hVd:=hdef hw3 h7;generalize hde:zZX (s.drop (s.length - j))=de at hfi h4
     generalize zHF (s.drop (s.length - j))=rr at hfi
     have e2:((de.2:Int)=(j:Int))=False:=eq_false (by omega)
     repeat' (first|refine zQQ 17592455537661 ?_|refine zQW ?_|(refine stp ?_;simp only[go_sem])|(refine Pure.at (hfk) (by simp) (by simp) rfl ?_;(try simp only[go_sem]))|(refine Pure.at (hfi) (by simp) (by simp) rfl ?_;(try simp only[go_sem]))|(simp only[go_sem,e1])|(simp (disch:=omega) only[zQK])|(refine spl (fun h=>?_) (fun h=>?_)<;>first|omega|((try simp only[zZQ,zJB]);(try simp only[go_sem,e2,h])))|(refine zQT ?_ ?_;focus omega))
     all_goals (refine zQH (by simp[EV.bel,zQX]) ?_;rw[hVd])
 ·have hj2:2≤j:=by omega
  have hw3:w=1:=by
   rcases Nat.lt_or_ge w 2 with q | q
   ·omega
   ·have:=hw2 q;omega
  obtain ⟨h6,h7⟩:=hpre 1 (Nat.le_refl _) (by omega);rw[show s.length - 1=f by omega] at h7
  have hVd:=hdef hw3 h7
  repeat' (first|refine zQQ 17592455537661 ?_|(refine stp ?_;simp only[go_sem])|(refine spl (fun h=>?_) (fun h=>?_)<;>first|omega|((try simp only[zZQ,zJB]);(try simp only[go_sem,h])))|fail)
  all_goals (refine zQH (by simp[EV.bel,zQX]) ?_;rw[hVd])
end
section
theorem cnt_le0 (s:List UInt8):∀ n,n≤(tlG s 0).1→n≤itU s n
 | 0,_=>Nat.zero_le _
 | n+1,h=>by
   have h1:=cnt_le0 s n (by omega);have h2:=yRZ ((zKV s).1 n (by omega));omega
theorem cnt_len0 (s:List UInt8):(tlG s 0).1≤s.length:=by
 have h1:=cnt_le0 s (tlG s 0).1 (Nat.le_refl _);have h2:=zGD s (tlG s 0).1;omega
def rnE (s:List UInt8) (k:Nat):List EV:=(List.range k).map fun i=>.int .i32 (zZX (s.drop (itU s i))).1
def rnC (s:List UInt8) (k:Nat):List EV:=rnE s k++zWT [.int .i32 0] (s.length - k)
theorem yZR (s:List UInt8) (k:Nat):(rnE s k).length=k:=by simp[rnE]
theorem yBW (n:Nat):(zWT [.int .i32 0] n).length=n:=by
 induction n with
 | zero=>rfl
 | succ n ih=>rw[zWT,List.length_append,ih];simp;omega
theorem yYJ (n:Nat):zWT [.int .i32 0] n=List.replicate n (.int .i32 0):=by
 induction n with
 | zero=>rfl
 | succ n ih=>rw[zWT,ih];rfl
theorem rnE_succ (s:List UInt8) (k:Nat):rnE s (k+1)=rnE s k++[.int .i32 (zZX (s.drop (itU s k))).1]:=by
 unfold rnE;rw[List.range_succ,List.map_append];rfl
theorem rnC_put (s:List UInt8) (k r w:Nat) (hk:k<s.length) (hd:zZX (s.drop (itU s k))=(r,w)):zZH (rnC s k) k [.int .i32 r]=rnC s (k+1):=by
 unfold rnC zZH;have h1:=yZR s k;rw[rnE_succ,hd,List.take_left' h1,yYJ,yYJ];rw[List.drop_append,h1,List.drop_of_length_le (by rw[h1];simp),List.nil_append,List.drop_replicate,List.append_assoc]
 congr 3
 simp only[List.length_cons,List.length_nil];omega
theorem yYM (s:List UInt8) (n k:Nat):zQX k (rnC s n):=zTZ fun v hv=>by
 unfold rnC rnE at hv
 rw[yYJ] at hv
 rcases List.mem_append.1 hv with q | q
 ·obtain ⟨_,_,rfl⟩:=List.mem_map.1 q;trivial
 ·rw[List.eq_of_mem_replicate q];trivial
theorem rnC_ren (s:List UInt8) (n:Nat) (π:Nat→Nat):zZG π (rnC s n)=rnC s n:=zPV (k:=0) (fun i hi=>absurd hi (by omega)) _ (yYM s n 0)
theorem rnC_get (s:List UInt8) (n i:Nat) (h:i<n):(rnC s n)[i]? = some (.int .i32 (zZX (s.drop (itU s i))).1):=by
 unfold rnC;rw[List.getElem?_append_left (by rw[yZR];exact h)];unfold rnE;rw[List.getElem?_map,List.getElem?_range h];rfl
theorem rnC_zero (s:List UInt8):rnC s 0=zWT [.int .i32 0] s.length:=by
 unfold rnC rnE;simp
theorem rnC_length (s:List UInt8) (k:Nat) (hk:k≤s.length):(rnC s k).length=s.length:=by
 unfold rnC;rw[List.length_append,yZR,yBW];omega
theorem runes_c (G:List Gl) (s:List UInt8) (hs:s.length≤4000):Eff G Tryz.prog 64 [.str s] [] 0 (.slice (some ⟨0,0⟩) (tlG s 0).1 s.length) [(0,.cells (rnC s (tlG s 0).1) 21 0 true 0)] 1:=by
 obtain ⟨c1,c2⟩:=zKV s;have c3:=cnt_len0 s;have hz0:=rnC_zero s;have hrb:∀ n k,zQX k (rnC s n)=True:=fun n k=>eq_true (yYM s n k)
 unfold Eff;refine zQV 19 [.tmp 2] Tryz.func64 ?_
 repeat' (first|refine zQQ 7213 ?_|refine zQW ?_|(refine stp ?_;simp only[go_sem])|(refine zKT ?_;simp only[go_sem])|((refine zZW ?_;unfold zZD);simp only[go_sem])|(refine zQT ?_ ?_;focus omega))
 refine zWK (fun n:Nat=>[(10,.ptr (some ⟨1,0⟩)),(3,.slice (some ⟨0,0⟩) n s.length)]) (fun n:Nat=>[(1,.sIter s (itU s n)),(0,.cells (rnC s n) 21 0 true 0)]) (fun n:Nat=>2) (fun n:Nat=>n≤(tlG s 0).1) (fun n:Nat=>(tlG s 0).1 - n) (0) (fun z hz=>⟨by simp[zWP],by simp[hrb],Nat.zero_le _⟩) (by exact Nat.zero_le _) (by simp only[go_sem,zQS];done) ?_ ?_
 ·simp only[go_sem,zWG,hz0,and_true];try rfl
 intro n hn;have hrl:=rnC_length s n
 rcases Nat.lt_or_ge n (tlG s 0).1 with hl | hl
 ·have hl2:=c1 n hl;have hst:=zZB hl2;generalize hd:zZX (s.drop (itU s n))=d at *
  obtain ⟨r,w⟩:=d;simp only at hst
  have hpu:=rnC_put s n r w (by omega) hd;have hcp:(n+1≤s.length)=True:=eq_true (by omega)
  repeat' (first|refine zQQ 7213 ?_|refine zQW ?_|(refine stp ?_;simp only[go_sem,hpu,hcp])|(refine zXQ ?_;simp only[go_sem,hd])|(refine spl (fun h=>?_) (fun h=>?_)<;>first|omega|((try simp only[zRM]);(try simp only[go_sem,h])))|(refine zQT ?_ ?_;focus omega))
  (refine ⟨(n+1),?_,?_,rfl,rfl,?_,?_⟩;rotate_left;(focus (simp only[];omega));(focus (simp only[go_sem,zQS]));(focus (simp only[go_sem,zWG,hst]));(try simp only[]))
  exact hl
 ·obtain rfl:n=(tlG s 0).1:=by omega
  rw[c2]
  repeat' (first|refine zQQ 7213 ?_|(refine stp ?_;simp only[go_sem])|(refine zXQ ?_;simp only[go_sem])|fail)
  exact zWW [0] (by simp;done) (by simp;done) (by simp;done) (by simp;done) (by simp[hrb]) (by simp;done) rfl (by simp) (by simp[rnC_ren])
end
end Go.Proofs.YtncphnpndkjkaaaGreatDoor
