/-
  Own work: a part of the proof that the last text closes.
-/
import Derived.Test.YtgajmgkhlkghjaaGreatDoorHq
import Derived.Test.YtgajmgkhlkghjaaGreatDoorFj
namespace Go.Proofs.YtgajmgkhlkghjaaGreatDoor
open Go.E
set_option linter.all false
set_option maxRecDepth 100000
set_option maxHeartbeats 16000000
theorem WorkG.ext {B B':List (Nat × EO)} {t t' d a n lg pl hp nb lv pu:Nat} {lns:List Nat} (h:WorkG B t d a n lns lg pl hp nb lv pu) (e:Ext B t B' t'):WorkG B' t' d a n lns lg pl hp nb lv pu:=
 ⟨h.dev.mono e,AtG.mono h.log e,AtG.mono h.pool e,AtG.mono h.heap e,h.live.mono e,h.put.mono e,h.txn.mono e,h.tk.mono e,h.gv.mono e,h.wk.mono e,h.ord,h.nd⟩
variable (B:List (Nat × EO)) {t:Nat}
theorem plain_c (G:List Gl) [hB:Bg t B] (nb:Nat) (h1:1≤nb) (h2:nb≤60):EffR G Tryz.prog 8 [.int .i64 nb] B t (fun v bl nx=>∃ d a lns lg pl hp lv pu,v=.tuple [pE hp,pE (pu+4),.bool true]∧Bg nx bl∧Keep badG B t bl nx∧WorkG bl nx d a (258+4*nb) lns lg pl hp nb lv pu∧t≤a∧(∀ b∈lns,t≤b)):=by
 refine EffR.enter fun Q hQ=>?_
 refine zQV 30 [.tmp 2,.tmp 3,.tmp 4] Tryz.func8 ?_
 repeat' (first|refine zQQ 2097277 ?_|(refine stp ?_;simp only[go_sem])|(refine EffR.at (laid_c B G nb h1 h2) ?_)|(simp only[go_sem])|fail)
 rintro v B1 nx ⟨X,wk',d,a,lns,lg,pl,hp,lv,pu,r,rhp,rfl,hB1,hK,hw,hta,hln,hx⟩
 haveI:=hB1;have hX:=AtG.f hx;have q1:=AtG.lt hw.heap;have q2:=AtG.lt hw.wk
 repeat' (first|refine zQQ 2097277 ?_|(refine stp ?_;simp only[go_sem,hX])|(refine drawQ (id:=4) mixed [(0,[]),(1,[]),(2,[]),(4,[]),(5,[]),(6,[]),(3,[]),(8,[]),(7,[]),(9,[]),(10,[])] (by kernel_rfl) ?_;simp only[go_sem,hX])|fail)
 obtain ⟨u1,u2⟩:=Bg.up (B:=B1) (t:=nx) (t':=nx+11) (by omega);have hle:=hK.le;refine zWJ hQ (by omega) u1.below (by simp[EV.bel,zQX];omega) ⟨d,a,lns,lg,pl,hp,lv,pu,rfl,u1,hK.trans (Keep.of u2),hw.ext u2,hta,hln⟩
def tabL (f:Nat→EO):Nat→Nat→List (Nat × EO)
 | _,0=>[]
 | k,m+1=>(k,f k)::tabL f (k+1) m
theorem lkp_tab (f:Nat→EO):∀ (m k i:Nat),lkp (tabL f k m) i=if k≤i∧i<k+m then some (f i) else none
 | 0,k,i=>by rw[if_neg (by omega)];rfl
 | m+1,k,i=>by
   simp only[tabL,lkp];rw[lkp_tab f m (k+1) i]
   by_cases h:k=i
   ·subst h;rw[if_pos rfl,if_pos (by omega)]
   ·rw[if_neg h]
    by_cases h2:k+1≤i∧i<k+1+m
    ·rw[if_pos h2,if_pos (by omega)]
    ·rw[if_neg h2,if_neg (by omega)]
theorem keys_tab (f:Nat→EO):∀ (m k:Nat),keysOK (tabL f k m)
 | 0,_=>trivial
 | m+1,k=>⟨by rw[lkp_tab,if_neg (by omega)],keys_tab f m (k+1)⟩
theorem below_tab (f:Nat→EO) (t:Nat):∀ (m k:Nat),k+m≤t→(∀ i,i<t→(f i).bel t)→blBelow t (tabL f k m)
 | 0,_,_,_=>trivial
 | m+1,k,h,hf=>⟨by omega,hf k (by omega),below_tab f t m (k+1) (by omega) hf⟩
def bcF (nl:Nat) (A:List EO) (i:Nat):EO:=if i<11+nl then lineZ else A.getD (i - (11+nl)) lineZ
def bcL (nl:Nat) (A:List EO):List (Nat × EO):=tabL (bcF nl A) 0 (11+nl+A.length)
def pZ (nb:Nat):Gp:=⟨16512,nb,258+4*nb⟩
def sZ:Gs:=⟨[],[],0,false⟩
theorem pZ_ok {nb:Nat} (h:nb≤60):(pZ nb).ok:=⟨by show 64*(258+4*nb)≤_;omega,by show 16512+256*nb≤64*(258+4*nb);omega,by show 128≤16512;omega⟩
theorem bcF_bel {nl:Nat} {A:List EO} (hA:∀ o∈A,o.bel 0) (t i:Nat):(bcF nl A i).bel t:=by
 unfold bcF
 split
 ·simp[EO.bel,zQX,EV.bel]
 ·rw[List.getD_eq_getElem?_getD]
  cases hq:A[i - (11+nl)]? with
  | none=>simp[EO.bel,zQX,EV.bel]
  | some o=>exact EO.bel_mono (Nat.zero_le _) o (hA o (List.mem_of_getElem? hq))
theorem bcL_StL {nb:Nat} {A:List EO} (hA:∀ o∈A,o.bel 0):StL (pZ nb) (bcL (258+4*nb) A) (11+(258+4*nb)+A.length) where
 bg:=⟨below_tab _ _ _ _ (by omega) fun i _=>bcF_bel hA _ i,keys_tab _ _ _⟩
 big:=by omega
 has i hi:=by unfold bcL;rw[lkp_tab,if_pos (by omega)];rfl
 line i hi:=by
  have hi':i<258+4*nb:=hi;unfold bcL;rw[lkp_tab,if_pos (by omega)];unfold bcF;rw[if_pos (by omega)]
 top:=by show 11+(258+4*nb)≤_;omega
theorem bcL_arg {nb:Nat} {A:List EO} {j:Nat} {o:EO} (h:A[j]? = some o):AtB (bcL (258+4*nb) A) (11+(258+4*nb)+A.length) (11+(258+4*nb)+j) o:=by
 have hj:=(List.getElem?_eq_some_iff.1 h).1;refine ⟨by omega,by omega,?_⟩;unfold bcL;rw[lkp_tab,if_pos (by omega)];unfold bcF;rw[if_neg (by omega),Nat.add_sub_cancel_left,List.getD_eq_getElem?_getD,h];rfl
def canQ (d a:Nat) (lns:List Nat) (lg pl hp lv pu k:Nat):List Nat:=[pu+4,hp,pu+1,pu,pl,d,a,lg,lv,pu+2,pu+3]++(lns++List.range k)
theorem canQ_lo (d a:Nat) (lns:List Nat) (lg pl hp lv pu k i:Nat) (hi:i<11):nam 0 (canQ d a lns lg pl hp lv pu k) i=[pu+4,hp,pu+1,pu,pl,d,a,lg,lv,pu+2,pu+3].getD i 0:=by
 unfold nam canQ;rw[if_neg (by omega),Nat.sub_zero,List.getD_eq_getElem?_getD,List.getD_eq_getElem?_getD,List.getElem?_append_left (by show i<11;exact hi)]
theorem canQ_ln (d a:Nat) (lns:List Nat) (lg pl hp lv pu k i b:Nat) (hb:lns[i]? = some b):nam 0 (canQ d a lns lg pl hp lv pu k) (11+i)=b:=by
 have hi:=(List.getElem?_eq_some_iff.1 hb).1;unfold nam canQ;rw[if_neg (by omega),Nat.sub_zero,List.getD_eq_getElem?_getD,List.getElem?_append_right (by show 11≤11+i;omega),show 11+i - [pu+4,hp,pu+1,pu,pl,d,a,lg,lv,pu+2,pu+3].length=i by show 11+i - 11=i;omega,List.getElem?_append_left hi,hb];rfl
theorem canQ_arg (d a:Nat) (lns:List Nat) (lg pl hp lv pu k j:Nat) (hj:j<k):nam 0 (canQ d a lns lg pl hp lv pu k) (11+lns.length+j)=j:=by
 unfold nam canQ;rw[if_neg (by omega),Nat.sub_zero,List.getD_eq_getElem?_getD,List.getElem?_append_right (by show 11≤11+lns.length+j;omega),show 11+lns.length+j - [pu+4,hp,pu+1,pu,pl,d,a,lg,lv,pu+2,pu+3].length=lns.length+j by show 11+lns.length+j - 11=_;omega,List.getElem?_append_right (by omega),Nat.add_sub_cancel_left,List.getElem?_range hj];rfl
theorem linesE_ren {π:Nat→Nat}:∀ (n:Nat) (lns:List Nat),lns.length=n→(∀ i b,lns[i]? = some b→π (11+i)=b)→renL π (linesE n)=lnE lns
 | 0,lns,hl,_=>by
   obtain rfl:lns=[]:=List.eq_nil_of_length_eq_zero hl;rfl
 | n+1,lns,hl,h=>by
   rcases List.eq_nil_or_concat lns with rfl | ⟨l',b,rfl⟩
   ·simp at hl
   ·rw[List.concat_eq_append] at hl h ⊢
    have hl':l'.length=n:=by simpa using hl
    have e:linesE (n+1)=linesE n++[.slice (some ⟨11+n,0⟩) 1 1,.int .i64 (-1)]:=by unfold linesE;rw[List.range_succ,List.flatMap_append];rfl
    have hb:=h n b (by rw[List.getElem?_append_right (by omega),hl',Nat.sub_self];rfl);rw[e,renL_append,linesE_ren n l' hl' (fun i x hx=>h i x (by rw[List.getElem?_append_left (List.getElem?_eq_some_iff.1 hx).1];exact hx)),lnE_append];simp[renL,EV.ren,hb,lnE]
theorem esem_ground {P:Program} {c:Code} {Q:X→Fr→ES→Prop} {fr:Fr} {G:List Gl} {B':List (Nat × EO)} {nx d a nb lg pl hp lv pu:Nat} {lns:List Nat} (A:List EO) (hA:∀ o∈A,o.bel 0) (hw:WorkG B' nx d a (258+4*nb) lns lg pl hp nb lv pu) (hB':Bg nx B') (hat:∀ j o,A[j]? = some o→AtG B' nx j o) (hta:A.length≤a) (hln:∀ b∈lns,A.length≤b)
  (F:List (Nat × EV)) (hF:zWQ fr (renF (nam 0 (canQ d a lns lg pl hp lv pu A.length)) F)) (hb:frBel (11+(258+4*nb)+A.length) F) (h:ESem P 0 c Q ⟨F,.unk,fr.n,fr.ds⟩ ⟨gnd (pZ nb) sZ (bcL (258+4*nb) A),11+(258+4*nb)+A.length,G⟩):ESem P 0 c Q fr ⟨B',nx,G⟩:=by
 obtain ⟨o1,o2,o3,o4,o5,o6,o7⟩:=hw.ord;have t1:=hw.dev.dev.lt;have t2:=hw.dev.arr.lt;have t3:=AtG.lt hw.log;have t4:=AtG.lt hw.pool;have t5:=AtG.lt hw.heap;have t6:=hw.live.lt;have t7:=hw.put.lt;have t8:=hw.txn.lt;have t9:=hw.tk.lt;have t10:=hw.gv.lt;have t11:=hw.wk.lt;have hll:=hw.dev.len;haveI hS:=bcL_StL (nb:=nb) hA;have hln2:∀ b∈lns,b<nx:=fun b hb=>(hw.dev.ln b hb).lt
 have hqn:(canQ d a lns lg pl hp lv pu A.length).Nodup:=by
  unfold canQ;refine List.nodup_append.2 ⟨?_,List.nodup_append.2 ⟨hw.nd,List.nodup_range,fun x hx y hy e=>?_⟩,fun x hx y hy e=>?_⟩
  ·simp only[List.nodup_cons,List.mem_cons,List.not_mem_nil,or_false,not_or,List.nodup_nil,and_true,not_false_eq_true];omega
  ·have:=hln x hx;have:=List.mem_range.1 hy;omega
  ·rcases List.mem_append.1 hy with q | q
   ·have:=o1 y q;simp only[List.mem_cons,List.not_mem_nil,or_false] at hx
    omega
   ·have:=List.mem_range.1 q;simp only[List.mem_cons,List.not_mem_nil,or_false] at hx
    omega
 have hget:∀ {b:Nat} {o:EO},AtG B' nx b o→(⟨B',nx,G⟩:ES).get b=some o:=fun {b o} hx=>by
  unfold ES.get;rw[if_pos hx.lt];exact hx.lk
 refine esem_anewP F (gnd (pZ nb) sZ (bcL (258+4*nb) A)) (11+(258+4*nb)+A.length) 0 (canQ d a lns lg pl hp lv pu A.length) hF hb ⟨Nat.le_refl _,?_,hqn,fun x hx=>⟨Nat.zero_le _,?_⟩,Nat.zero_le _,Bg.below,allIn_of fun i o hm=>?_⟩ h
 ·unfold canQ;simp only[List.length_append,List.length_cons,List.length_nil,List.length_range,hll];omega
 ·unfold canQ at hx
  show x<nx
  rcases List.mem_append.1 hx with q | q
  ·simp only[List.mem_cons,List.not_mem_nil,or_false] at q
   omega
  ·rcases List.mem_append.1 q with q | q
   ·exact hln2 x q
   ·have:=List.mem_range.1 q;omega
 ·obtain ⟨j,x,h1,rfl,rfl⟩:=renB_mem hm;have h2:=keysOK_mem (Bg.keys (11+(258+4*nb)+A.length)) h1;have h3:=(blBelow_mem (Bg.below (t:=11+(258+4*nb)+A.length)) h1).1
  rcases Nat.lt_or_ge j 11 with q | q
  ·rw[StL.lk q] at h2
   obtain rfl:=Option.some.inj h2;rw[canQ_lo _ _ _ _ _ _ _ _ _ _ q];have c:=fun i hi=>canQ_lo d a lns lg pl hp lv pu A.length i hi
   refine hget ?_
   rcases (show j=0∨j=1∨j=2∨j=3∨j=4∨j=5∨j=6∨j=7∨j=8∨j=9∨j=10 by omega) with rfl | rfl | rfl | rfl | rfl | rfl | rfl | rfl | rfl | rfl | rfl
   all_goals simp only[objs,pZ,sZ,whoE,puE,tkE,List.map_nil,Bool.false_eq_true,if_false,EO.ren,renL,EV.ren,renP,List.getD_cons_zero,List.getD_cons_succ]
   ·rw[c 1 (by omega),c 2 (by omega),c 9 (by omega),c 10 (by omega)];exact hw.wk
   ·rw[c 4 (by omega),c 8 (by omega),c 0 (by omega)];exact hw.heap
   ·rw[c 4 (by omega),c 3 (by omega)];exact hw.txn
   ·exact hw.put
   ·rw[c 5 (by omega),c 7 (by omega),c 2 (by omega)];exact hw.pool
   ·rw[c 6 (by omega)];exact hw.dev.dev
   ·rw[linesE_ren _ lns hll fun i b hb=>canQ_ln _ _ _ _ _ _ _ _ _ _ _ hb];exact hw.dev.arr
   ·rw[c 5 (by omega)];exact hw.log
   ·exact hw.live
   ·exact hw.tk
   ·exact hw.gv
  ·rw[StG.lkp_hi q] at h2
   unfold bcL at h2
   rw[lkp_tab,if_pos (by omega)] at h2
   obtain rfl:=Option.some.inj h2
   rcases Nat.lt_or_ge j (11+(258+4*nb)) with q2 | q2
   ·obtain ⟨i,rfl⟩:∃ i,j=11+i:=⟨j - 11,by omega⟩;obtain ⟨b,hb⟩:∃ b,lns[i]? = some b:=⟨lns[i]'(by omega),List.getElem?_eq_getElem _⟩;rw[canQ_ln _ _ _ _ _ _ _ _ _ _ _ hb,bcF,if_pos q2];exact hget (hw.dev.ln b (List.mem_of_getElem? hb))
   ·obtain ⟨i,rfl⟩:∃ i,j=11+(258+4*nb)+i:=⟨j - (11+(258+4*nb)),by omega⟩;obtain ⟨o,ho⟩:∃ o,A[i]? = some o:=⟨A[i]'(by omega),List.getElem?_eq_getElem _⟩;have e:=canQ_arg d a lns lg pl hp lv pu A.length i (by omega);rw[hll] at e
    rw[e,bcF,if_neg (by omega),Nat.add_sub_cancel_left,List.getD_eq_getElem?_getD,ho];show _=some (o.ren _);rw[EO.ren_idF (k:=0) (fun i hi=>absurd hi (by omega)) o (hA o (List.mem_of_getElem? ho))];exact hget (hat i o ho)
end Go.Proofs.YtgajmgkhlkghjaaGreatDoor
