/-
  Own work: a part of the proof that the last text closes.
-/
import Derived.Test.YtncphnpndkjkaaaGreatDoorHq
import Derived.Test.YtncphnpndkjkaaaGreatDoorFj
namespace Go.Proofs.YtncphnpndkjkaaaGreatDoor
open Go.E
set_option linter.all false
set_option maxRecDepth 100000
set_option maxHeartbeats 16000000
variable (B:List (Nat × EO)) {t:Nat}
def tabL (f:Nat→EO):Nat→Nat→List (Nat × EO)
 | _,0=>[]
 | k,m+1=>(k,f k)::tabL f (k+1) m
theorem yQJ (f:Nat→EO):∀ (m k i:Nat),lkp (tabL f k m) i=if k≤i∧i<k+m then some (f i) else none
 | 0,k,i=>by rw[if_neg (by omega)];rfl
 | m+1,k,i=>by
   simp only[tabL,lkp];rw[yQJ f m (k+1) i]
   by_cases h:k=i
   ·subst h;rw[if_pos rfl,if_pos (by omega)]
   ·rw[if_neg h]
    by_cases h2:k+1≤i∧i<k+1+m
    ·rw[if_pos h2,if_pos (by omega)]
    ·rw[if_neg h2,if_neg (by omega)]
theorem yNM (f:Nat→EO):∀ (m k:Nat),zWN (tabL f k m)
 | 0,_=>trivial
 | m+1,k=>⟨by rw[yQJ,if_neg (by omega)],yNM f m (k+1)⟩
theorem yTD (f:Nat→EO) (t:Nat):∀ (m k:Nat),k+m≤t→(∀ i,i<t→(f i).bel t)→blBelow t (tabL f k m)
 | 0,_,_,_=>trivial
 | m+1,k,h,hf=>⟨by omega,hf k (by omega),yTD f t m (k+1) (by omega) hf⟩
def bcF (nl:Nat) (A:List EO) (i:Nat):EO:=if i<11+nl then lineZ else A.getD (i - (11+nl)) lineZ
def bcL (nl:Nat) (A:List EO):List (Nat × EO):=tabL (bcF nl A) 0 (11+nl+A.length)
def sZ:Gs:=⟨[],[],0,false⟩
theorem bcF_bel {nl:Nat} {A:List EO} (hA:∀ o∈A,o.bel 0) (t i:Nat):(bcF nl A i).bel t:=by
 unfold bcF
 split
 ·simp[EO.bel,zQX,EV.bel]
 ·rw[List.getD_eq_getElem?_getD]
  cases hq:A[i - (11+nl)]? with
  | none=>simp[EO.bel,zQX,EV.bel]
  | some o=>exact EO.bel_mono (Nat.zero_le _) o (hA o (List.mem_of_getElem? hq))
def yJZ (d a:Nat) (lns:List Nat) (lg pl hp lv pu k:Nat):List Nat:=[pu+4,hp,pu+1,pu,pl,d,a,lg,lv,pu+2,pu+3]++(lns++List.range k)
theorem xJZ (d a:Nat) (lns:List Nat) (lg pl hp lv pu k i:Nat) (hi:i<11):nam 0 (yJZ d a lns lg pl hp lv pu k) i=[pu+4,hp,pu+1,pu,pl,d,a,lg,lv,pu+2,pu+3].getD i 0:=by
 unfold nam yJZ;rw[if_neg (by omega),Nat.sub_zero,List.getD_eq_getElem?_getD,List.getD_eq_getElem?_getD,List.getElem?_append_left (by show i<11;exact hi)]
theorem canQ_ln (d a:Nat) (lns:List Nat) (lg pl hp lv pu k i b:Nat) (hb:lns[i]? = some b):nam 0 (yJZ d a lns lg pl hp lv pu k) (11+i)=b:=by
 have hi:=(List.getElem?_eq_some_iff.1 hb).1;unfold nam yJZ;rw[if_neg (by omega),Nat.sub_zero,List.getD_eq_getElem?_getD,List.getElem?_append_right (by show 11≤11+i;omega),show 11+i - [pu+4,hp,pu+1,pu,pl,d,a,lg,lv,pu+2,pu+3].length=i by show 11+i - 11=i;omega,List.getElem?_append_left hi,hb];rfl
theorem xTJ (d a:Nat) (lns:List Nat) (lg pl hp lv pu k j:Nat) (hj:j<k):nam 0 (yJZ d a lns lg pl hp lv pu k) (11+lns.length+j)=j:=by
 unfold nam yJZ;rw[if_neg (by omega),Nat.sub_zero,List.getD_eq_getElem?_getD,List.getElem?_append_right (by show 11≤11+lns.length+j;omega),show 11+lns.length+j - [pu+4,hp,pu+1,pu,pl,d,a,lg,lv,pu+2,pu+3].length=lns.length+j by show 11+lns.length+j - 11=_;omega,List.getElem?_append_right (by omega),Nat.add_sub_cancel_left,List.getElem?_range hj];rfl
theorem yGB {π:Nat→Nat}:∀ (n:Nat) (lns:List Nat),lns.length=n→(∀ i b,lns[i]? = some b→π (11+i)=b)→zZG π (zGF n)=lnE lns
 | 0,lns,hl,_=>by
   obtain rfl:lns=[]:=List.eq_nil_of_length_eq_zero hl;rfl
 | n+1,lns,hl,h=>by
   rcases List.eq_nil_or_concat lns with rfl | ⟨l',b,rfl⟩
   ·simp at hl
   ·rw[List.concat_eq_append] at hl h ⊢
    have hl':l'.length=n:=by simpa using hl
    have e:zGF (n+1)=zGF n++[.slice (some ⟨11+n,0⟩) 1 1,.int .i64 (-1)]:=by unfold zGF;rw[List.range_succ,List.flatMap_append];rfl
    have hb:=h n b (by rw[List.getElem?_append_right (by omega),hl',Nat.sub_self];rfl);rw[e,zZT,yGB n l' hl' (fun i x hx=>h i x (by rw[List.getElem?_append_left (List.getElem?_eq_some_iff.1 hx).1];exact hx)),zSR];simp[zZG,EV.ren,hb,lnE]
end Go.Proofs.YtncphnpndkjkaaaGreatDoor
