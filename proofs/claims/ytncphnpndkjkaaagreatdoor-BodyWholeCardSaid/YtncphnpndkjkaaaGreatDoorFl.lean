/-
  Own work: a part of the proof that the last text closes.
-/
import Derived.Test.YtncphnpndkjkaaaGreatDoorFc
import Derived.ProofKit
import Derived.OpenShut
import Derived.ShutString
import Derived.ChangeOld
import Derived.Carry
import Derived.ChangeCalls
import Derived.Test.YtncphnpndkjkaaaGreatDoorFd
import Derived.ChangeArms
namespace Go.E
open Go.ChangeShapes Go.WideShapes Go.ChangeAt Go.RowKit
set_option linter.all false
section
theorem xXY {H:Type} {enc:TypeId × Value→H} {P:Program} {W W':World} (hl:laidOutB P=true) (hb:Below W.heap.size W W'):∀ {ts:List TypeId} {vs:List Value} {ds:List (DataW H)} {ps:List MemPlace},
  DataW.TrodAll enc P W 0 (fun _=>true) true ts vs ds ps→(∀ t∈ts,P.readableRec t=true∧t<P.types.size)→DataW.TrodAll enc P W' 0 (fun b=>decide (b<W.heap.size)) true ts vs ds ps
 | [],_,_,_,h,_=>by
   obtain ⟨rfl,rfl,rfl⟩:=trodAll_nil h;exact trodAll_mk0
 | t::ts,_,_,_,h,hr=>by
   obtain ⟨v,vs,d,ds,p,q,rfl,rfl,rfl,h1,r⟩:=trodAll_cons h;have hlt:∀ x∈p,x.block<W.heap.size:=by
    obtain ⟨m,hm⟩:=h1;exact DataW.trod_lt m _ _ _ hm
   obtain ⟨q1,q2⟩:=hr t (by simp);exact trodAll_cons_mk (Below.trod hl q1 q2 h1 hb hlt) (xXY hl hb r fun u hu=>hr u (by simp[hu]))
theorem xVW {P:Program} {w:World} {r:Reach} {base:Nat} {t:TypeId} {v:Value} (hn:match P.underlying t with | some (.struct _) | some (.array _ _)=>False | _=>True) (h:Value.okWide P w r base t v):Cell.okWide P w r base t v:=by
 unfold Value.okWide at h
 split at h
 ·rename_i hu;rw[hu] at hn;exact hn.elim
 ·rename_i hu;rw[hu] at hn;exact hn.elim
 ·exact h
end
section
theorem yFQ {w:World} {base:Nat} {a:Addr} {n:Nat} {cs:List Value} (h:w.cells? base a n=some cs):cs.length=n∧∀ i,i<n→w.cell? (a.add i)=cs[i]?:=by
 unfold World.cells? at h
 split at h
 ·exact ⟨by simpa using mapM_some_length h,fun i hi=>mapM_some_get h i i (by simp[hi])⟩
 ·cases h
theorem xTX {w:World} {r o:Nat} {v:Value} (h:w.cell? ⟨r,o,none⟩=some v):∃ cs t fr,w.heap[r]? = some (.cells cs t fr)∧cs[o]? = some v:=by
 unfold World.cell? at h
 split at h
 ·rename_i c t fr he
  exact ⟨c,t,fr,he,by simpa using h⟩
 ·cases h
def SlIn (W:World) (v:Value) (k n:Nat) (c:List EV):Prop:=
 (v=.slice none 0 0∧n=0∧c=[])∨∃ (l:Loc) (ty:TypeId),(∀ ρ,BR ρ W l (.cells c ty k false 0))∧∀ (ρ:Env) (b:Nat),ρ b=some l→VR ρ (.slice (some ⟨b,0⟩) n n) v
theorem slIn {H α:Type} {enc:TypeId × Value→H} {P:Program} {W:World} {r:Reach} {b0 base:Nat} {held:Bool} {t e:TypeId} {k:Nat} {v:Value} {fuel:Nat} {x:DataW H × List MemPlace} (encV:α→List Value) (encE:α→List EV) (ok:α→DataW H→Prop)
  (hu:P.underlying t=some (.slice e)) (hk:P.cellsOf e=k) (h0:0<k) (hV:∀ ρ a,VRs ρ (encE a) (encV a))
  (hdec:∀ n cs y,DataW.trod enc P W base (fun _=>true) held n e cs=some y→∃ a,cs=encV a∧ok a y.1)
  (hc:Cell.okWide P W r b0 t v) (h:DataW.trod enc P W base (fun _=>true) held fuel t [v]=some x) :
  ∃ (l:List α) (ds:List (DataW H)),ds.length=l.length∧(∀ (i:Nat) (a:α) (d:DataW H),l[i]? = some a→ds[i]? = some d→ok a d)∧SlIn W v k l.length (l.flatMap encE)∧(x.1=.nil∧l=[]∨∃ rest,x.1=.slice ds rest):=by
 rcases DataW.trod_slice hu h with ⟨h1,rfl⟩ | ⟨a,len,cap,elems,rest,n,-,h1,rfl,hb,hlc,-,hel,hget,hrest,-⟩
 ·obtain rfl:v=.slice none 0 0:=by simpa using h1
  exact ⟨[],[],rfl,fun i a d h=>by simp at h,.inl ⟨rfl,rfl,rfl⟩,.inl ⟨rfl,rfl⟩⟩
 ·obtain rfl:v=.slice (some a) len cap:=by simpa using h1
  have hhas:W.has P r b0 a e cap:=by
   simp only[Cell.okWide,hu,Cell.ok] at hc
   exact hc.2.2
  obtain ⟨-,hsp,row,cells,hsh,-⟩:=hhas;obtain ⟨rb,ro,sp⟩:=a;simp only at hsp
  subst hsp;obtain ⟨hrl,hrest⟩:=hrest rfl;have hall:∀ j,j<cap→∃ cs y,W.cells? base ⟨rb,ro+j*k,none⟩ k=some cs∧DataW.trod enc P W base (fun _=>true) held n e cs=some y∧(j<len→elems[j]? = some y):=by
   intro j hj
   by_cases hjl:j<len
   ·have:=hget j hjl;rw[hk,zVR] at this
    have hlt:j<elems.length:=by omega
    rw[List.getElem?_eq_getElem hlt] at this
    obtain ⟨cs,h1,h2⟩:=Option.bind_eq_some_iff.1 this;exact ⟨cs,_,h1,h2,fun _=>List.getElem?_eq_getElem hlt⟩
   ·obtain ⟨m,rfl⟩:∃ m,j=len+m:=⟨j - len,by omega⟩;have:=hrest m (by omega);rw[hk,zVR] at this
    have hlt:m<rest.length:=by omega
    rw[List.getElem?_eq_getElem hlt] at this
    obtain ⟨cs,h1,h2⟩:=Option.bind_eq_some_iff.1 this;exact ⟨cs,_,h1,h2,fun h=>absurd h hjl⟩
  have hex:∀ j,j<len→∃ a d,(∃ y,elems[j]? = some (d,y))∧ok a d∧W.cells? base ⟨rb,ro+j*k,none⟩ k=some (encV a):=by
   intro j hj;obtain ⟨cs,y,h1,h2,h3⟩:=hall j (by omega);obtain ⟨a,rfl,ha⟩:=hdec n cs y h2;exact ⟨a,y.1,⟨y.2,h3 hj⟩,ha,h1⟩
  have hlist:∀ m,m≤len→∃ l:List α,l.length=m∧∀ j a,l[j]? = some a→∃ d,(∃ y,elems[j]? = some (d,y))∧ok a d∧W.cells? base ⟨rb,ro+j*k,none⟩ k=some (encV a):=by
   intro m
   induction m with
   | zero=>intro _;exact ⟨[],rfl,fun j a h=>by simp at h⟩
   | succ m ih=>
     intro hm;obtain ⟨l,hl,hall2⟩:=ih (by omega);obtain ⟨a,d,hd,ha,hc⟩:=hex m (by omega);refine ⟨l++[a],by simp[hl],fun j b hj=>?_⟩;rw[List.getElem?_append] at hj
     split at hj
     ·exact hall2 j b hj
     ·rename_i hjl
      have hjm:j=m:=by
       by_cases h:j - l.length=0
       ·omega
       ·obtain ⟨q,hq⟩:∃ q,j - l.length=q+1:=⟨j - l.length - 1,by omega⟩;rw[hq] at hj;simp at hj
      subst hjm;rw[hl,Nat.sub_self] at hj
      obtain rfl:a=b:=by simpa using hj
      exact ⟨d,hd,ha,hc⟩
  obtain ⟨l,hl,hls⟩:=hlist len (Nat.le_refl _);have hvl:∀ a,(encE a).length=(encV a).length:=fun a=>(VRs.length (hV (fun _=>none) a)).symm
  have hEl:∀ a∈l,(encE a).length=k:=fun a ha=>by
   obtain ⟨j,hj⟩:=List.getElem?_of_mem ha;obtain ⟨d,-,-,hc⟩:=hls j a hj;rw[hvl];exact (yFQ hc).1
  have hflat:∀ (l:List α),(∀ a∈l,(encE a).length=k)→(l.flatMap encE).length=l.length*k∧∀ j a i,l[j]? = some a→i<k→(l.flatMap encE)[j*k+i]? = (encE a)[i]?:=by
   intro l
   induction l with
   | nil=>intro _;exact ⟨by simp,fun j a i h=>by simp at h⟩
   | cons b r ih=>
     intro hb;obtain ⟨i1,i2⟩:=ih fun a ha=>hb a (.tail _ ha)
     have hbk:=hb b (.head _);refine ⟨by rw[List.flatMap_cons,List.length_append,i1,hbk,List.length_cons,Nat.add_mul];omega,fun j a i hj hi=>?_⟩;rw[List.flatMap_cons]
     cases j with
     | zero=>
       obtain rfl:b=a:=by simpa using hj
       rw[Nat.zero_mul,Nat.zero_add,List.getElem?_append_left (by omega)]
     | succ j=>
       rw[List.getElem?_append_right (by rw[hbk,Nat.add_mul];omega),hbk];have:(j+1)*k+i - k=j*k+i:=by rw[Nat.add_mul];omega
       rw[this];exact i2 j a i (by simpa using hj) hi
  obtain ⟨f1,f2⟩:=hflat l hEl;refine ⟨l,elems.map (·.1),by simp[hl,hel],fun i a d hi hd=>?_,.inr ?_,.inr ⟨_,rfl⟩⟩
  ·obtain ⟨d',⟨y,hy⟩,ho,-⟩:=hls i a hi;rw[List.getElem?_map,hy] at hd
   obtain rfl:d'=d:=by simpa using hd
   exact ho
  ·by_cases hcap:cap=0
   ·subst hcap;obtain rfl:len=0:=by omega
    have hln:l=[]:=List.length_eq_zero_iff.1 hl;subst hln;have hblk:∃ cs ty fr,W.heap[rb]? = some (.cells cs ty fr):=by
     unfold World.shape? at hsh
     split at hsh
     ·rename_i c e' fr he;exact ⟨c,e',fr,he⟩
     ·cases hsh
    obtain ⟨cs,ty,fr,hb⟩:=hblk;refine ⟨⟨rb,0,0,0,k⟩,ty,fun ρ=>⟨rfl,rfl,fun _=>rfl,Nat.le_refl _,cs,fr,hb,⟨Nat.zero_le _,fun h=>by cases h⟩,fun i v h=>by simp at h,fun h=>by cases h⟩,fun ρ b hb=>?_⟩;rw[VR];exact ⟨_,0,ro,hb,.inl rfl,Nat.le_refl _,.inr rfl,rfl⟩
   ·obtain ⟨cs0,y0,c1,-,-⟩:=hall (cap - 1) (by omega);obtain ⟨q1,q2⟩:=yFQ c1;have q3:=q2 (k - 1) (by omega);rw[zVR,List.getElem?_eq_getElem (by omega)] at q3
    obtain ⟨cs,ty,fr,hb,hlast⟩:=xTX q3;have hsz:ro+cap*k≤cs.size:=by
     have h1:=(Array.getElem?_eq_some_iff.1 hlast).1;have h2:(cap - 1)*k+k=cap*k:=by
      have:cap=cap - 1+1:=by omega
      conv=>rhs;rw[this,Nat.add_mul,Nat.one_mul]
     omega
    have hlk:len*k≤cap*k:=Nat.mul_le_mul_right k hlc;refine ⟨⟨rb,ro,len*k,cap*k,k⟩,ty,fun ρ=>⟨by rw[f1,hl],rfl,fun h=>by omega,hlk,cs,fr,hb,⟨hsz,fun h=>by cases h⟩,fun i v hi=>?_,fun h=>by cases h⟩,fun ρ b hb=>?_⟩
    ·have hil:=(List.getElem?_eq_some_iff.1 hi).1;rw[f1,hl] at hil
     have hj:i / k<l.length:=by rw[hl];exact Nat.div_lt_of_lt_mul (by rw[Nat.mul_comm];exact hil)
     have hik:i / k*k+i % k=i:=by rw[Nat.mul_comm];exact Nat.div_add_mod i k
     have hm:i % k<k:=Nat.mod_lt _ h0;have hg:=f2 (i / k) l[i / k] (i % k) (List.getElem?_eq_getElem hj) hm;rw[hik,hi] at hg
     obtain ⟨d,-,-,hcc⟩:=hls (i / k) _ (List.getElem?_eq_getElem hj);obtain ⟨z1,z2⟩:=yFQ hcc;have z3:=z2 (i % k) hm;rw[zVR] at z3
     obtain ⟨v',e1,e2⟩:=(hV ρ l[i / k]).get (i % k) v hg.symm;rw[e1] at z3
     obtain ⟨cs',ty',fr',hb',hv'⟩:=xTX z3;rw[hb] at hb'
     cases hb'
     rw[Nat.add_assoc,hik] at hv'
     exact ⟨v',hv',e2⟩
    ·rw[VR];rw[hl];exact ⟨_,cap,ro,hb,.inr ⟨by simp only;omega,by simp,hlc,by simp⟩,Nat.le_refl _,.inl (by simp),rfl⟩
end
end Go.E
