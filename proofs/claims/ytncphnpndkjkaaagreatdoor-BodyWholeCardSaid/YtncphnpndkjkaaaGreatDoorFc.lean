/-
  Own work: a part of the proof that the last text closes.
-/
import Derived.Test.YtncphnpndkjkaaaGreatDoorFb
import Derived.OrdersIn
import Derived.Laws.Append
namespace Go.E
set_option linter.all false
section
inductive Cls where
 | P | R | A | E
 deriving DecidableEq
def cls (P:Program):Op→Cls
 | .move _ | .assign _ | .pick .. | .build .. | .nilCheck _ | .binOp .. | .unOp .. | .fieldAddr .. | .field .. | .indexAddr .. | .index .. | .makeInterface .. | .makeFunc .. | .extract ..=>.P
 | .load .. | .slice ..=>.R
 | .call { callee:=.builtin .len,.. }=>.R
 | .call { callee:=.builtin .min,.. } | .call { callee:=.builtin .max,.. }=>.P
 | .alloc _ | .box .. | .buildSlice .. | .makeSlice ..=>.A
 | .convert s d _=>match convP P s d with | true=>.P | false=>match b2sP P s d with | true=>.R | false=>.E
 | _=>.E
theorem xWN {P:Program} {i:TI} {x:EV} {lo hi mx:Option EV} {s:ES} {K:EV→ES→Prop}:zHX P i x lo hi mx s K=zHX P i x lo hi mx s fun v _=>K v s:=by
 unfold zHX;rfl
theorem yXJ {P:Program} {i:TI} {x:EV} {f:Nat} {s:ES} {K:EV→ES→Prop}:zKK P i x f s K=zKK P i x f s fun v _=>K v s:=by
 unfold zKK;rfl
theorem yXK {P:Program} {i:TI} {x ix:EV} {s:ES} {K:EV→ES→Prop}:zVN P i x ix s K=zVN P i x ix s fun v _=>K v s:=by
 unfold zVN;rfl
theorem eop_det {P:Program} {op:Op} {fr:Fr} {s:ES} {K Kp:EV→ES→Prop} (hc:cls P op=.P∨cls P op=.R) (h:eop P op fr s K Kp):∃ v,∀ K2 Kp2:EV→ES→Prop,eop P op fr s K2 Kp2↔K2 v s:=by
 have lift:∀ {f:(EV→Prop)→Prop},Det f→f (fun v=>K v s)→∃ v,∀ K2 Kp2:EV→ES→Prop,f (fun v=>K2 v s)↔K2 v s:=fun hd hf=>let ⟨v,hv⟩:=hd _ hf;⟨v,fun K2 _=>hv _⟩
 cases op<;>simp only[cls,reduceCtorEq,or_self,or_false,false_or] at hc<;>simp only[eop] at h ⊢ <;> try exact h.elim
 case move=>exact ⟨_,fun _ _=>Iff.rfl⟩
 case assign=>exact ⟨_,fun _ _=>Iff.rfl⟩
 case pick=>
  split at h
  ·rename_i t ht
   try simp only[ht]
   cases t with
   | true=>exact ⟨_,fun K2 _=>⟨fun q=>q.1 rfl,fun q=>⟨fun _=>q,fun e=>Bool.noConfusion e⟩⟩⟩
   | false=>exact ⟨_,fun K2 _=>⟨fun q=>q.2 rfl,fun q=>⟨fun e=>Bool.noConfusion e,fun _=>q⟩⟩⟩
  ·exact h.elim
 case build=>
  split at h
  ·rename_i i hi;(try simp only[hi]);exact lift (yHG _ _ _) h
  ·exact h.elim
 case load=>
  split at h
  ·rename_i i hi;(try simp only[hi]);exact lift (det_eLoad _ _ _) h
  ·exact h.elim
 case nilCheck=>
  split at h
  ·rename_i hx;(try simp only[hx]);exact ⟨_,fun _ _=>Iff.rfl⟩
  ·exact h.elim
 case binOp=>exact lift (yTY _ _ _ _ _ _) h
 case unOp=>exact lift (xKM _ _) h
 case convert src dst x=>
  cases hcv:convP P src dst with
  | false=>
    cases hbs:b2sP P src dst with
    | false=>simp[hcv,hbs] at hc
    | true=>
      simp only[hcv,hbs] at h ⊢
      obtain ⟨v,hv⟩:=det_eB2S _ _ _ _ _ _ h;exact ⟨v,fun K2 _=>hv _⟩
  | true=>
    simp only[hcv] at h ⊢
    exact lift (yTJ _ _ _ _) h
 case slice=>
  split at h
  ·rename_i i hi
   try simp only[hi]
   rw[xWN] at h
   obtain ⟨v,hv⟩:=det_eSlice _ _ _ _ _ _ _ _ h;exact ⟨v,fun K2 _=>by rw[xWN];exact hv _⟩
  ·exact h.elim
 case fieldAddr=>
  split at h
  ·rename_i i hi
   try simp only[hi]
   rw[yXJ] at h
   obtain ⟨v,hv⟩:=ySH _ _ _ _ _ _ h;exact ⟨v,fun K2 _=>by rw[yXJ];exact hv _⟩
  ·exact h.elim
 case field=>
  split at h
  ·rename_i i hi;(try simp only[hi]);exact lift (yVR _ _ _ _) h
  ·exact h.elim
 case indexAddr=>
  split at h
  ·rename_i i hi
   try simp only[hi]
   rw[yXK] at h
   obtain ⟨v,hv⟩:=ySG _ _ _ _ _ _ h;exact ⟨v,fun K2 _=>by rw[yXK];exact hv _⟩
  ·exact h.elim
 case index=>
  split at h
  ·rename_i i hi;(try simp only[hi]);exact lift (yVP _ _ _ _) h
  ·exact h.elim
 case makeInterface=>
  split at h
  ·rename_i i hi
   obtain ⟨u,sz,by_,z⟩:=i
   try simp only[hi]
   simp only at h
   cases u<;>first|exact h.elim|exact ⟨_,fun _ _=>Iff.rfl⟩
  ·exact h.elim
 case makeFunc=>exact ⟨_,fun _ _=>Iff.rfl⟩
 case extract=>exact lift (zMB _ _) h
 case call c=>
  obtain ⟨callee,args,ts⟩:=c
  cases callee with
  | invoke x m=>exact h.elim
  | value f=>simp[cls] at hc
  | builtin b=>
    simp only[yTW] at h ⊢
    have hown:hereB b=true:=by cases b<;>simp[cls] at hc<;>rfl
    simp only[hown] at h ⊢
    clear hown;unfold zSK at h
    split at h
    ·rename_i t tr x xr e1 e2
     split at h
     ·rename_i i hi
      simp only[zSK,e1,e2,hi];exact lift (det_elen _ _ _) h
     ·exact h.elim
    ·rename_i x xr e2
     simp only[zSK,e2];exact lift (zTW _ _ _) h
    ·rename_i x xr e2
     simp only[zSK,e2];exact lift (zTW _ _ _) h
    ·exact h.elim
theorem xRT {P:Program} {op:Op} {fr:Fr} {s s2:ES} {K K2 Kp Kp2:EV→ES→Prop} (hc:cls P op=.P) (h:eop P op fr s K Kp) (hK:∀ v,K v s→K2 v s2):eop P op fr s2 K2 Kp2:=by
 cases op<;>simp only[cls,reduceCtorEq] at hc<;>simp only[eop] at h ⊢ <;> try exact h.elim
 case move=>exact hK _ h
 case assign=>exact hK _ h
 case pick=>split at h<;>first|exact ⟨fun e=>hK _ (h.1 e),fun e=>hK _ (h.2 e)⟩|exact h.elim
 case build=>
  split at h
  ·exact (yHG _ _ _).mono hK h
  ·exact h.elim
 case nilCheck=>
  split at h
  ·exact hK _ h
  ·exact h.elim
 case binOp=>exact (yTY _ _ _ _ _ _).mono hK h
 case unOp=>exact (xKM _ _).mono hK h
 case convert src dst x=>
  cases hcv:convP P src dst with
  | false=>cases hbs:b2sP P src dst<;>simp[hcv,hbs] at hc
  | true=>
    simp only[hcv] at h ⊢
    exact (yTJ _ _ _ _).mono hK h
 case fieldAddr=>
  split at h
  ·unfold zKK at h ⊢
   split at h
   ·split at h
    ·split at h
     ·exact ⟨h.1,hK _ h.2⟩
     ·exact h.elim
    ·exact h.elim
   ·exact h.elim
  ·exact h.elim
 case field=>
  split at h
  ·exact (yVR _ _ _ _).mono hK h
  ·exact h.elim
 case indexAddr=>
  split at h
  ·unfold zVN at h ⊢
   split at h
   ·split at h
    ·split at h
     ·exact ⟨h.1,hK _ h.2⟩
     ·exact h.elim
    ·split at h
     ·exact ⟨h.1,hK _ h.2⟩
     ·exact h.elim
    ·exact h.elim
   ·exact h.elim
  ·exact h.elim
 case index=>
  split at h
  ·exact (yVP _ _ _ _).mono hK h
  ·exact h.elim
 case makeInterface=>
  split at h
  ·split at h
   ·exact h.elim
   ·exact hK _ h
  ·exact h.elim
 case makeFunc=>exact hK _ h
 case extract=>exact (zMB _ _).mono hK h
 case call c=>
  obtain ⟨callee,args,ts⟩:=c
  cases callee with
  | invoke x m=>exact h.elim
  | value f=>simp[cls] at hc
  | builtin b=>
    cases b<;>simp[cls] at hc
    all_goals
     simp only[yTW,hereB] at h ⊢
     unfold zSK at h ⊢
     split at h<;>first|exact h.elim|(rename_i hb _ _;cases hb;done)|exact (zTW _ _ _).mono hK h
def eopA (P:Program) (b:Nat) (op:Op) (fr:Fr) (s:ES) (K:EV→ES→Prop):Prop:=
 match op with
 | .alloc t=>match zXZ P t with
   | some i=>K (.ptr (some ⟨b,0⟩)) (s.add b (.cells i.zero t 0 true 0))
   | none=>False
 | .box t x=>(ev fr x).known=true∧K (.ptr (some ⟨b,0⟩)) (s.add b (.cells (ev fr x).cells t 0 true 0))
 | .buildSlice t len ps=>match zXZ P t with
   | some i=>match i.u with
     | .slice e=>match zXZ P e with
       | some j=>(j.zero.length=j.size∧len*j.size≤16777216)∧match yMK (fun n=>some (n*j.size,j.size)) (zWT j.zero len) (zMX fr ps.toList) with
         | some c=>K (.slice (some ⟨b,0⟩) len len) (s.add b (.cells c e 0 true 0))
         | none=>False
       | none=>False
     | _=>False
   | none=>False
 | .makeSlice t x y=>match zXZ P t with
   | some i=>match i.u with
     | .slice e=>match zXZ P e with
       | some j=>match ev fr x,ev fr y with
         | .int _ n,.int _ m=>((0≤n∧n≤m∧j.bytes*m≤281474976710656∧m≤4611686018427387904)∧j.zero.length=j.size)∧K (.slice (some ⟨b,0⟩) n.toNat m.toNat) (s.add b (.cells (zWT j.zero m.toNat) e 0 true 0))
         | _,_=>False
       | none=>False
     | _=>False
   | none=>False
 | _=>False
theorem xRG {P:Program} {b:Nat} {op:Op} {fr:Fr} {s:ES} {K:EV→ES→Prop} (h:eopA P b op fr s K):∃ v o,o.wr=true∧∀ s2 (K2:EV→ES→Prop),eopA P b op fr s2 K2↔K2 v (s2.add b o):=by
 cases op<;>simp only[eopA] at h ⊢ <;> try exact h.elim
 case alloc=>
  split at h
  ·rename_i i hi;(try simp only[hi]);exact ⟨_,_,rfl,fun _ _=>Iff.rfl⟩
  ·exact h.elim
 case box=>exact ⟨_,_,rfl,fun _ _=>⟨fun q=>q.2,fun q=>⟨h.1,q⟩⟩⟩
 case buildSlice=>
  split at h
  ·rename_i i hi
   obtain ⟨u,sz,by_,z⟩:=i
   try simp only[hi]
   split at h
   ·rename_i e hu
    simp only at hu;subst hu
    split at h
    ·rename_i j hj
     obtain ⟨h1,h2⟩:=h
     split at h2
     ·rename_i c hc
      simp only[hj,hc];exact ⟨_,_,rfl,fun _ _=>⟨fun q=>q.2,fun q=>⟨h1,q⟩⟩⟩
     ·exact h2.elim
    ·exact h.elim
   ·exact h.elim
  ·exact h.elim
 case makeSlice=>
  split at h
  ·rename_i i hi
   obtain ⟨u,sz,by_,z⟩:=i
   try simp only[hi]
   split at h
   ·rename_i e hu
    simp only at hu;subst hu
    split at h
    ·rename_i j hj
     split at h
     ·rename_i k1 n k2 m hx hy
      simp only[hj,hx,hy];exact ⟨_,_,rfl,fun _ _=>⟨fun q=>q.2,fun q=>⟨h.1,q⟩⟩⟩
     ·exact h.elim
    ·exact h.elim
   ·exact h.elim
  ·exact h.elim
theorem yHK {P:Program} {b:Nat} {op:Op} {fr fr2:Fr} {s:ES} {K:EV→ES→Prop} (h:∀ x∈op.operands.toList,ev fr2 x=ev fr x):eopA P b op fr2 s K=eopA P b op fr s K:=by
 cases op<;>simp only[eopA]<;>(try simp only[Op.operands,List.mem_cons,List.not_mem_nil,or_false,forall_eq_or_imp,forall_eq] at h)
 case box=>rw[h]
 case buildSlice t n ps=>rw[zMW (by simpa using h)]
 case makeSlice t x y=>rw[h.1,h.2]
end
section
theorem Rel.newAt {ρ:Env} {s:ES} {w:World} (h:Rel ρ s w) (b:Nat) (hb:b<s.nx) (hg0:s.get b=none) (hρ:ρ b=none) (o:EO) (ob:Obj) (l:Loc) (hl:l.r=w.heap.size)
  (hbr:BR (fun i=>if i=b then some l else ρ i) (w.alloc ob) l o) {k:Nat} (hk:k≤b) :
  GoK k ρ s w (fun i=>if i=b then some l else ρ i) (s.add b o) (w.alloc ob):=by
 have hle:ρ.le (fun i=>if i=b then some l else ρ i):=fun c l' hc=>by
  by_cases hx:c=b
  ·subst hx;rw[hρ] at hc;cases hc
  ·simp[hx,hc]
 have hold:∀ r,r<w.heap.size→(w.alloc ob).heap[r]? = w.heap[r]?:=fun r hr=>by
  simp only[World.alloc,Array.getElem?_push,Nat.ne_of_lt hr,if_false]
 refine ⟨⟨?_,?_,?_,?_⟩,fun i hi=>by simp[show ¬ i=b by omega],by simp[ES.add];omega,fun c hc hn=>by rw[ES.get_add hb,if_neg (by omega)];exact hn,⟨rfl,rfl,rfl,by simp,fun r hr _=>hold r hr⟩,?_,rfl,h⟩
 ·intro c o' l' hg hr;rw[ES.get_add hb] at hg
  by_cases hx:b=c
  ·subst hx;simp at hg hr;subst hg;subst hr;exact hbr
  ·simp only[hx,if_false] at hg
   simp only[show ¬ c=b from fun e=>hx e.symm,if_false] at hr
   have:=h.live c o' l' hg hr;exact this.mono hle (hold _ this.lt)
 ·intro i hi;simp only[ES.add] at hi
  simp only[show ¬ i=b by omega,if_false];exact h.fresh i hi
 ·intro c c' o1 o2 l1 l2 hg hg' hr hr' hne hw;rw[ES.get_add hb] at hg hg'
  by_cases hx:b=c
  ·subst hx;simp at hg hr;subst hg;subst hr
   simp only[hne,if_false] at hg'
   simp only[show ¬ c'=b from fun e=>hne e.symm,if_false] at hr'
   have:=(h.live c' o2 l2 hg' hr').lt;omega
  ·simp only[hx,if_false] at hg
   simp only[show ¬ c=b from fun e=>hx e.symm,if_false] at hr
   have h1:=(h.live c o1 l1 hg hr).lt
   by_cases hy:b=c'
   ·subst hy;simp at hg' hr';subst hg';subst hr'
    omega
   ·simp only[hy,if_false] at hg'
    simp only[show ¬ c'=b from fun e=>hy e.symm,if_false] at hr'
    exact h.sep c c' o1 o2 l1 l2 hg hg' hr hr' hne hw
 ·intro c o' hg;rw[ES.get_add hb] at hg
  by_cases hx:b=c
  ·exact ⟨l,if_pos hx.symm⟩
  ·rw[if_neg hx] at hg
   obtain ⟨l',hl'⟩:=h.dom c o' hg;exact ⟨l',hle _ _ hl'⟩
 ·intro c o' l' hg hr;rw[ES.get_add hb] at hg
  by_cases hx:b=c
  ·subst hx;simp at hr;subst hr
   exact .inr (by omega)
  ·simp only[hx,if_false] at hg
   simp only[show ¬ c=b from fun e=>hx e.symm,if_false] at hr
   exact .inl ⟨c,o',l',hg,hr,rfl,id⟩
theorem Rel.newCellsAt {ρ:Env} {s:ES} {w:World} (hR:Rel ρ s w) (b:Nat) (hb:b<s.nx) (hg0:s.get b=none) (hρ:ρ b=none) (c:List EV) (cs:Array Value) (t:TypeId) (hc:VRs ρ c cs.toList) {k:Nat} (hk:k≤b) :
  GoK k ρ s w (fun i=>if i=b then some ⟨w.heap.size,0,c.length,c.length,0⟩ else ρ i) (s.add b (.cells c t 0 true 0)) (w.alloc (.cells cs t)):=by
 refine hR.newAt b hb hg0 hρ _ _ ⟨w.heap.size,0,c.length,c.length,0⟩ rfl ?_ hk;have hle:ρ.le (fun i=>if i=b then some ⟨w.heap.size,0,c.length,c.length,0⟩ else ρ i):=fun x l' hx=>by
  by_cases h:x=b
  ·subst h;rw[hρ] at hx;cases hx
  ·simp[h,hx]
 refine ⟨rfl,rfl,fun _=>rfl,Nat.le_refl _,cs,(0,0),?_,?_,fun i v hi=>?_,fun _ i _ _=>by simp[free]⟩
 ·simp only[World.alloc,Array.getElem?_push,if_true]
 ·have:=hc.length;simp at this;exact ⟨by simp;omega,fun _ _=>⟨rfl,by simp;omega⟩⟩
 ·obtain ⟨v',a,b⟩:=hc.get i v hi;exact ⟨v',by simpa using a,b.mono hle⟩
theorem eopA_run {P:Program} {b:Nat} {o:Oper} {fr:Fr} {s:ES} {K:EV→ES→Prop} (h:eopA P b o.op fr s K) {ρ:Env} {w:World} {a:Act} (hF:FR ρ fr a) :
  ∃ (v:EV) (c:List EV) (cs:Array Value) (t:TypeId) (v':Value),K v (s.add b (.cells c t 0 true 0))∧VRs ρ c cs.toList∧(execOp a.eval o).run P w=.ok (.value v') (w.alloc (.cells cs t)) ∧
   ∀ ρ':Env,ρ' b=some ⟨w.heap.size,0,c.length,c.length,0⟩→VR ρ' v v':=by
 obtain ⟨dst,op,type,pos,after,guard⟩:=o;simp only at h
 cases op<;>simp only[eopA] at h<;>try exact h.elim
 case alloc t=>
  split at h
  ·rename_i i hi
   obtain ⟨inf,d,z,T⟩:=zQG hi;refine ⟨_,_,z.cells,_,.pointer (some ⟨w.heap.size,0,none⟩),h,by rw[T.cells];exact VRs.ofV _,?_,fun ρ' hρ'=>by rw[VR];exact ⟨_,hρ',by simp⟩⟩;simp only[execOp,Instr.alloc,Sem.run_bind,T.run_zero w,Result.andThen_ok];simp[newVar,newRow,newObj,Sem.run]
  ·exact h.elim
 case box t x=>
  refine ⟨_,_,(a.eval x).cells,_,.pointer (some ⟨w.heap.size,0,none⟩),h.2,((hF.ev x).cells h.1).1,?_,fun ρ' hρ'=>by rw[VR];exact ⟨_,hρ',by simp⟩⟩;simp[execOp,Instr.box,newVar,newRow,newObj,Sem.run]
 case buildSlice t len ps=>
  split at h
  ·rename_i i hi
   obtain ⟨inf,d,z,T⟩:=zQG hi
   split at h
   ·rename_i e hu
    have hd:d=.slice e:=by rw[T.u] at hu;cases d<;>simp[zRY] at hu;subst hu;rfl
    subst hd
    split at h
    ·rename_i j hj
     obtain ⟨inf2,d2,z2,T2⟩:=zQG hj;obtain ⟨⟨hzl,hle⟩,h⟩:=h
     split at h
     ·rename_i c hf
      have hz:VRs ρ j.zero z2.cells.toList:=by rw[T2.cells];exact VRs.ofV _
      have hzero:VRs ρ (zWT j.zero len) ((Array.range (len*j.size)).map ((if len*j.size=0 then #[] else z2.cells)[· % (if len*j.size=0 then #[] else z2.cells).size]!)).toList:=by
       by_cases h0:len*j.size=0
       ·have:zWT j.zero len=[]:=by
         apply List.eq_nil_of_length_eq_zero;rw[zZJ,hzl];exact h0
        rw[this,h0];simp[VRs]
       ·simp only[h0,if_false];exact zSH hz len _ (by rw[hzl])
      obtain ⟨p1,p2⟩:=yPY hF ps;obtain ⟨cs,h1,h2⟩:=zGK (ρ:=ρ) (zMX fr ps.toList) (ps.map fun (x:Nat × Operand)=>(x.1,a.eval x.2)).toList _ _ c (by simpa using p1) (fun k n v hk=>by simpa using p2 k n v hk) hzero hf;refine ⟨_,c,cs,e,.slice (some ⟨w.heap.size,0,none⟩) len len,h,h2,?_,fun ρ' hρ'=>by rw[VR];exact ⟨_,len,0,hρ',.inl rfl,Nat.le_refl _,.inl rfl,rfl⟩⟩;have hexec:execOp a.eval { dst:=dst,op:=.buildSlice t len ps,type:=type,pos:=pos,after:=after,guard:=guard } = (do pure (.value (← Instr.buildSlice t len (ps.map fun (x:Nat × Operand)=>(x.1,a.eval x.2))))):=rfl;rw[hexec];simp only[Instr.buildSlice,Sem.run_bind,T.run_und w,Result.andThen_ok,T2.run_size w];rw[if_neg (by omega)]
      by_cases h0:len*j.size=0
      ·simp only[h0,if_true] at h1 ⊢
       rw[pure_bind];simp only[h1];simp[newRow,newObj,Sem.run]
      ·simp only[h0,if_false] at h1 ⊢
       simp only[Sem.run_bind,T2.run_zero w,Sem.run_pure,Result.andThen_ok,h1];simp[newRow,newObj,Sem.run]
     ·exact h.elim
    ·exact h.elim
   ·exact h.elim
  ·exact h.elim
 case makeSlice t x y=>
  split at h
  ·rename_i i hi
   obtain ⟨inf,d,z,T⟩:=zQG hi
   split at h
   ·rename_i e hu
    have hd:d=.slice e:=by rw[T.u] at hu;cases d<;>simp[zRY] at hu;subst hu;rfl
    subst hd
    split at h
    ·rename_i j hj
     obtain ⟨inf2,d2,z2,T2⟩:=zQG hj
     split at h
     ·rename_i k1 n k2 m hx hy
      obtain ⟨⟨⟨h0,h1,h2,h3⟩,hzl⟩,hK⟩:=h;have vx:=hF.ev x;have vy:=hF.ev y;rw[hx,VR] at vx
      rw[hy,VR] at vy
      have hz:VRs ρ j.zero z2.cells.toList:=by rw[T2.cells];exact VRs.ofV _
      have w1:IntKind.i64.wrap n=n:=zQK (by omega) (by omega);have w2:IntKind.i64.wrap m=m:=zQK (by omega) (by omega);have hb:¬ ((inf2.bytes:Int)*m > 2 ^ 48):=by
       rw[← T2.bytes];have e:((2:Int) ^ 48)=281474976710656:=by decide
       rw[e];omega
      have hzero:VRs ρ (zWT j.zero m.toNat) ((Array.range (m.toNat*j.size)).map ((if m.toNat*j.size=0 then #[] else z2.cells)[· % (if m.toNat*j.size=0 then #[] else z2.cells).size]!)).toList:=by
       by_cases h00:m.toNat*j.size=0
       ·have:zWT j.zero m.toNat=[]:=by
         apply List.eq_nil_of_length_eq_zero;rw[zZJ,hzl];exact h00
        rw[this,h00];simp[VRs]
       ·simp only[h00,if_false];exact zSH hz m.toNat _ (by rw[hzl])
      refine ⟨_,_,_,e,.slice (some ⟨w.heap.size,0,none⟩) n.toNat m.toNat,hK,hzero,?_,fun ρ' hρ'=>by rw[VR];exact ⟨_,m.toNat,0,hρ',.inl rfl,by omega,.inl rfl,rfl⟩⟩;have hexec:execOp a.eval { dst:=dst,op:=.makeSlice t x y,type:=type,pos:=pos,after:=after,guard:=guard } = (do pure (.value (← Instr.makeSlice t (a.eval x) (a.eval y)))):=rfl;rw[hexec,vx,vy];simp only[Instr.makeSlice,Sem.run_bind,T.run_und w,Result.andThen_ok,asInt,asIntOf,Sem.run_pure,T2.run_info w,w1,w2];rw[if_neg]
      ·by_cases h00:m.toNat*j.size=0
       ·simp only[Sem.run_bind,run_askRoom,Result.andThen_ok,T2.run_size w,h00,if_true,Sem.run_pure];simp[newRow,newObj,Sem.run]
       ·simp only[Sem.run_bind,run_askRoom,Result.andThen_ok,T2.run_size w,h00,if_false,T2.run_zero w,Sem.run_pure];simp[newRow,newObj,Sem.run]
      ·simp only[Bool.or_eq_true,decide_eq_true_eq,not_or];refine ⟨⟨⟨by omega,hb⟩,by omega⟩,by omega⟩
     ·exact h.elim
    ·exact h.elim
   ·exact h.elim
  ·exact h.elim
def yYD (L:List Oper) (o:Oper):List Tmp:=xZD o.op++(match o.guard with
 | some (j,_)=>match zNS L j with
   | some t=>[t]
   | none=>[]
 | none=>[])
def ySY (L:List Oper) (o:Oper) (fr:Fr) (run skip:Prop):Prop:=
 match o.guard with
 | none=>run
 | some (j,want)=>match zNS L j with
   | none=>False
   | some t=>match fr.lk t with
     | .bool b=>zFG b want run skip
     | .tuple []=>skip
     | _=>False
def KF:EV→ES→Prop:=fun _ _=>False
def zBF (P:Program) (b:Nat) (o:Oper) (fr:Fr) (s:ES) (K:Fr→ES→Prop):Prop:=
 match cls P o.op with
 | .A=>b<s.nx∧eopA P b o.op fr s (KO o fr K)
 | _=>eop P o.op fr s (KO o fr K) KF
def stepG (P:Program) (L:List Oper) (base i:Nat) (K:Fr→ES→Prop) (fr:Fr) (s:ES):Prop:=
 match L[i]? with
 | none=>False
 | some o=>ySY L o fr (zBF P (base+i) o fr s K) (zMY fr.n o.dst∧K (fr.putO o.dst zVP) s)
def ES.addO (s:ES) (b:Nat):Option EO→ES
 | some o=>s.add b o
 | none=>s
theorem yQP {L:List Oper} {o:Oper} {fr:Fr} {run skip:Prop} (h:ySY L o fr run skip):(∀ run2 skip2:Prop,ySY L o fr run2 skip2↔run2)∨(∀ run2 skip2:Prop,ySY L o fr run2 skip2↔skip2):=by
 unfold ySY at h ⊢
 cases hg:o.guard with
 | none=>exact .inl fun _ _=>by simp
 | some jw=>
   obtain ⟨j,want⟩:=jw;simp only[hg] at h ⊢
   cases ht:zNS L j with
   | none=>simp[ht] at h
   | some t=>
     simp only[ht] at h ⊢
     cases hv:fr.lk t<;>simp only[hv] at h ⊢ <;> try exact h.elim
     case bool b=>
      by_cases hb:b=want
      ·subst hb;exact .inl fun _ _=>⟨fun q=>q.1 rfl,fun q=>⟨fun _=>q,fun e=>by cases b<;>cases e⟩⟩
      ·have hb':b = !want:=by cases b<;>cases want<;>simp at hb ⊢
       exact .inr fun _ _=>⟨fun q=>q.2 hb',fun q=>⟨fun e=>absurd e hb,fun _=>q⟩⟩
     case tuple vs=>
      cases vs with
      | nil=>exact .inr fun _ _=>Iff.rfl
      | cons _ _=>exact h.elim
theorem yRK {L:List Oper} {o:Oper} {fr fr2:Fr} {run skip:Prop} (ha:Agree (yYD L o) fr fr2):ySY L o fr2 run skip=ySY L o fr run skip:=by
 unfold ySY
 cases hg:o.guard with
 | none=>rfl
 | some jw=>
   obtain ⟨j,want⟩:=jw;simp only
   cases ht:zNS L j with
   | none=>rfl
   | some t=>
     simp only;rw[ha.2 t (by simp[yYD,hg,ht])]
theorem yXF {L:List Oper} {o:Oper} {fr fr2:Fr} (ha:Agree (yYD L o) fr fr2):∀ x∈o.op.operands.toList,Go.E.ev fr2 x=Go.E.ev fr x:=
 Agree.ev (op:=o.op) ⟨ha.1,fun t ht=>ha.2 t (by simp only[yYD,List.mem_append];exact .inl ht)⟩
theorem Ext.addBoth {b c:Nat} {oo:Option EO} {s s2:ES} (h:Ext b oo s s2) (hf:yJY b oo s) (o:EO) (hc:c<s.nx) (hne:oo.isSome=true→b ≠ c):Ext b oo (s.add c o) (s2.add c o)∧yJY b oo (s.add c o):=by
 refine ⟨⟨h.nx,h.gl,fun x=>?_⟩,fun hs=>?_⟩
 ·rw[ES.get_add hc,ES.get_add (by rw[h.nx];exact hc),h.get]
  cases oo with
  | none=>rfl
  | some y=>
    have:=hne rfl
    by_cases h1:c=x
    ·subst h1;simp[this]
    ·simp only[h1,if_false]
 ·obtain ⟨h1,h2,h3⟩:=hf hs;exact ⟨by rw[ES.get_add hc,if_neg (fun e=>hne hs e.symm)];exact h1,h2,h3⟩
theorem zPQ {P:Program} {L:List Oper} {base i:Nat} {o:Oper} (ho:L[i]? = some o) {fr fr2:Fr} {s s2:ES} {K K2:Fr→ES→Prop} {b:Nat} {oo:Option EO} (h:stepG P L base i K fr s) (ha:Agree (yYD L o) fr fr2)
  (hx:Ext b oo s s2) (hf:yJY b oo s) (hne:oo.isSome=true→b ≠ base+i) (hK:∀ v t t2,Ext b oo t t2→yJY b oo t→K (fr.putO o.dst v) t→K2 (fr2.putO o.dst v) t2):stepG P L base i K2 fr2 s2:=by
 unfold stepG at h ⊢
 simp only[ho] at h ⊢
 rw[yRK ha];have hrun:zBF P (base+i) o fr s K→zBF P (base+i) o fr2 s2 K2:=by
  intro hr;have hko:∀ v t t2,Ext b oo t t2→yJY b oo t→KO o fr K v t→KO o fr2 K2 v t2:=fun v t t2 e1 e2 e3=>⟨by rw[ha.1];exact e3.1,hK v t t2 e1 e2 e3.2⟩
  unfold zBF at hr ⊢
  split at hr
  ·rw[yHK (yXF ha)];obtain ⟨hb,hr⟩:=hr;refine ⟨by rw[hx.nx];exact hb,?_⟩;obtain ⟨v,ob,_,hv⟩:=xRG hr;obtain ⟨e1,e2⟩:=hx.addBoth hf ob hb hne;exact (hv s2 _).2 (hko v _ _ e1 e2 ((hv s _).1 hr))
  ·rw[xWK (yXF ha)];exact eop_ext hr hx hf hko fun _ _ _ _ _ e=>e
 have hskip:(zMY fr.n o.dst∧K (fr.putO o.dst zVP) s)→(zMY fr2.n o.dst∧K2 (fr2.putO o.dst zVP) s2):=fun q=>⟨by rw[ha.1];exact q.1,hK _ _ _ hx hf q.2⟩
 rcases yQP h with hs | hs
 ·exact (hs _ _).2 (hrun ((hs _ _).1 h))
 ·exact (hs _ _).2 (hskip ((hs _ _).1 h))
def zTH (P:Program) (L:List Oper) (i:Nat):Cls:=match L[i]? with
 | some o=>cls P o.op
 | none=>.E
theorem xYK {P:Program} {L:List Oper} {base i:Nat} {o:Oper} (ho:L[i]? = some o) (hc:cls P o.op=.P∨cls P o.op=.A) {fr:Fr} {s:ES} {K:Fr→ES→Prop} (h:stepG P L base i K fr s) :
  ∃ v oo,(∀ x,oo=some x→x.wr=true)∧∀ s2 (K2:Fr→ES→Prop),(stepG P L base i K2 fr s2↔(oo.isSome=true→base+i<s2.nx)∧K2 (fr.putO o.dst v) (s2.addO (base+i) oo)):=by
 unfold stepG at h ⊢
 simp only[ho] at h ⊢
 rcases yQP h with hs | hs
 ·have hr:=(hs _ _).1 h
  rcases hc with hc | hc
  ·simp only[zBF,hc] at hr
   obtain ⟨v,hv⟩:=eop_det (.inl hc) hr;refine ⟨v,none,by simp,fun s2 K2=>?_⟩;rw[hs];simp only[zBF,hc,ES.addO];have hok:zMY fr.n o.dst:=((hv _ _).1 hr).1;refine ⟨fun q=>⟨by simp,?_⟩,fun q=>?_⟩
   ·have:=xRT (s2:=s) (K2:=fun u _=>KO o fr K2 u s2) (Kp2:=KF) hc q fun _ e=>e
    exact ((hv _ _).1 this).2
   ·have:=(hv (fun u _=>KO o fr K2 u s2) KF).2 ⟨hok,q.2⟩;exact xRT (s2:=s2) hc this fun _ e=>e
  ·simp only[zBF,hc] at hr
   obtain ⟨v,ob,hw,hv⟩:=xRG hr.2;refine ⟨v,some ob,by rintro x ⟨⟩;exact hw,fun s2 K2=>?_⟩;rw[hs];simp only[zBF,hc,ES.addO];have hok:zMY fr.n o.dst:=((hv _ _).1 hr.2).1;exact ⟨fun q=>⟨fun _=>q.1,((hv _ _).1 q.2).2⟩,fun q=>⟨q.1 rfl,(hv _ _).2 ⟨hok,q.2⟩⟩⟩
 ·have hr:=(hs _ _).1 h;refine ⟨zVP,none,by simp,fun s2 K2=>?_⟩;rw[hs];exact ⟨fun q=>⟨by simp,q.2⟩,fun q=>⟨hr.1,q.2⟩⟩
theorem xYV {P:Program} {L:List Oper} {base i:Nat} {o:Oper} (ho:L[i]? = some o) (hc:cls P o.op=.P∨cls P o.op=.R) {fr:Fr} {s:ES} {K:Fr→ES→Prop} (h:stepG P L base i K fr s) :
  ∃ v,∀ K2:Fr→ES→Prop,stepG P L base i K2 fr s↔K2 (fr.putO o.dst v) s:=by
 unfold stepG at h ⊢
 simp only[ho] at h ⊢
 rcases yQP h with hs | hs
 ·have hr:=(hs _ _).1 h;have hne:∀ K2,zBF P (base+i) o fr s K2=eop P o.op fr s (KO o fr K2) KF:=by
   intro K2;rcases hc with hc | hc<;>simp only[zBF,hc]
  rw[hne] at hr
  obtain ⟨v,hv⟩:=eop_det hc hr;have hok:zMY fr.n o.dst:=((hv _ _).1 hr).1;refine ⟨v,fun K2=>?_⟩;rw[hs,hne,hv];exact ⟨fun q=>q.2,fun q=>⟨hok,q⟩⟩
 ·have hr:=(hs _ _).1 h;refine ⟨zVP,fun K2=>?_⟩;rw[hs];exact ⟨fun q=>q.2,fun q=>⟨hr.1,q⟩⟩
end
section
structure FEq (fr fr2:Fr):Prop where
 n:fr2.n=fr.n
 ds:fr2.ds=fr.ds
 lk:∀ t,fr2.lk t=fr.lk t
theorem FEq.refl (fr:Fr):FEq fr fr:=⟨rfl,rfl,fun _=>rfl⟩
theorem FEq.agree {fr fr2:Fr} (h:FEq fr fr2) (ts:List Tmp):Agree ts fr fr2:=⟨h.n,fun t _=>h.lk t⟩
theorem zYD (fr:Fr) (d:Option Tmp) (v:EV) (u:Tmp):(fr.putO d v).lk u=if d=some u then v else fr.lk u:=by
 cases d with
 | none=>simp[Fr.putO]
 | some t=>
   simp only[Fr.putO,Fr.put,Fr.lk,lkp,Option.some.injEq]
   by_cases h:t=u<;>simp[h]
theorem xPB (fr:Fr) (d:Option Tmp) (v:EV):(fr.putO d v).n=fr.n:=by cases d<;>rfl
theorem xKB (fr:Fr) (d:Option Tmp) (v:EV):(fr.putO d v).ds=fr.ds:=by cases d<;>rfl
theorem FEq.putO {fr fr2:Fr} (h:FEq fr fr2) (d:Option Tmp) (v:EV):FEq (fr.putO d v) (fr2.putO d v):=
 ⟨by rw[xPB,xPB,h.n],by rw[xKB,xKB,h.ds],fun t=>by rw[zYD,zYD,h.lk]⟩
theorem FR.feq {ρ:Env} {fr fr2:Fr} {a:Act} (h:FR ρ fr a) (e:FEq fr fr2):FR ρ fr2 a:=⟨by rw[h.defers,e.ds],by rw[h.size,e.n],fun t=>by rw[e.lk];exact h.slot t⟩
def Apt (d:Option Tmp) (ts:List Tmp):Prop:=∀ t,d=some t→t ∉ ts
def Dne (d e:Option Tmp):Prop:=∀ t,d=some t→e ≠ some t
theorem Apt.agree {d:Option Tmp} {ts:List Tmp} (h:Apt d ts) (fr:Fr) (v:EV):Agree ts fr (fr.putO d v):=
 ⟨xPB _ _ _,fun t ht=>by rw[zYD,if_neg (fun e=>h t e ht)]⟩
theorem Agree.symm {ts:List Tmp} {fr fr2:Fr} (h:Agree ts fr fr2):Agree ts fr2 fr:=⟨h.1.symm,fun t ht=>(h.2 t ht).symm⟩
theorem Agree.trans {ts:List Tmp} {fr fr2 fr3:Fr} (h:Agree ts fr fr2) (k:Agree ts fr2 fr3):Agree ts fr fr3:=⟨k.1.trans h.1,fun t ht=>(k.2 t ht).trans (h.2 t ht)⟩
theorem FEq.swap (fr:Fr) {d e:Option Tmp} (h:Dne d e) (v u:EV):FEq ((fr.putO d v).putO e u) ((fr.putO e u).putO d v):=by
 refine ⟨by simp only[xPB],by simp only[xKB],fun t=>?_⟩;simp only[zYD]
 by_cases h1:d=some t
 ·have:e ≠ some t:=h t h1;simp[h1,this]
 ·simp[h1]
theorem FEq.trans {fr fr2 fr3:Fr} (h:FEq fr fr2) (k:FEq fr2 fr3):FEq fr fr3:=⟨k.n.trans h.n,k.ds.trans h.ds,fun t=>(k.lk t).trans (h.lk t)⟩
theorem FEq.symm {fr fr2:Fr} (h:FEq fr fr2):FEq fr2 fr:=⟨h.n.symm,h.ds.symm,fun t=>(h.lk t).symm⟩
def zKR (L:List Oper) (i:Nat):Option Tmp:=match L[i]? with | some o=>o.dst | none=>none
def zND (L:List Oper) (i:Nat):List Tmp:=match L[i]? with | some o=>yYD L o | none=>[]
theorem zJH {P:Program} {L:List Oper} {base i:Nat} {K:Fr→ES→Prop} {fr:Fr} {s:ES} (h:stepG P L base i K fr s):∃ o,L[i]? = some o:=by
 unfold stepG at h
 split at h
 ·exact h.elim
 ·exact ⟨_,by assumption⟩
theorem zJK (b:Nat) (s:ES):yJY b none s:=fun h=>by simp at h
theorem ext_any {b c:Nat} {s s2:ES} (h:Ext b none s s2):Ext c none s s2:=⟨h.nx,h.gl,h.get⟩
def Val (P:Program) (L:List Oper) (base i:Nat) (fr:Fr) (s:ES) (v:EV) (s':ES):Prop:=∀ K:Fr→ES→Prop,stepG P L base i K fr s↔K (fr.putO (zKR L i) v) s'
theorem yGZ {P:Program} {L:List Oper} {base i:Nat} {o:Oper} (ho:L[i]? = some o) {fr fr2:Fr} (ha:Agree (yYD L o) fr fr2) (s:ES) (K:Fr→ES→Prop) :
  stepG P L base i K fr2 s=stepG P L base i (fun f t=>K (fr2.putO o.dst (match o.dst with | some t=>f.lk t | none=>.unk)) t) fr s:=by
 have hk:∀ v (t:ES),K (fr2.putO o.dst (match o.dst with | some t=>(fr.putO o.dst v).lk t | none=>.unk)) t=K (fr2.putO o.dst v) t:=by
  intro v t
  cases hd:o.dst with
  | none=>rfl
  | some d=>simp[zYD]
 have hko:KO o fr2 K=KO o fr (fun f t=>K (fr2.putO o.dst (match o.dst with | some t=>f.lk t | none=>.unk)) t):=by
  funext v t
  simp only[KO,ha.1,hk]
 unfold stepG;simp only[ho];rw[yRK ha]
 congr 1
 ·unfold zBF
  split
  ·rw[yHK (yXF ha),hko]
  ·rw[xWK (yXF ha),hko]
 ·rw[ha.1];have:=hk zVP s;rw[this]
theorem Val.move {P:Program} {L:List Oper} {base i:Nat} {fr fr2:Fr} {s s':ES} {v:EV} (h:Val P L base i fr s v s') (ha:Agree (zND L i) fr fr2):Val P L base i fr2 s v s':=by
 intro K;obtain ⟨o,ho⟩:=zJH ((h fun _ _=>True).2 trivial);simp only[zND,ho] at ha
 rw[yGZ ho ha,h];simp only[zKR,ho]
 cases hd:o.dst with
 | none=>rfl
 | some d=>simp[zYD]
def ySK (P:Program) (L:List Oper) (base r:Nat) (fr:Fr) (s:ES):Prop:=stepG P L base r (fun f _=>∀ t,zKR L r=some t→f.lk t=fr.lk t) fr s
def yBF (P:Program) (L:List Oper) (base:Nat):List Nat→Fr→ES→Prop
 | [],_,_=>True
 | r::rs,fr,s=>ySK P L base r fr s∧yBF P L base rs fr s
def zPY (P:Program) (L:List Oper) (base:Nat) (K:Fr→ES→Prop):List (Nat × List Nat)→Fr→ES→Prop
 | [],fr,s=>K fr s
 | (i,rs)::rest,fr,s=>stepG P L base i (fun fr s=>yBF P L base rs fr s∧zPY P L base K rest fr s) fr s
variable {P:Program} {L:List Oper} {base:Nat}
theorem rchks_iff:∀ {rs:List Nat} {fr:Fr} {s:ES},yBF P L base rs fr s↔∀ r∈rs,ySK P L base r fr s
 | [],fr,s=>by simp[yBF]
 | r::rs,fr,s=>by simp only[yBF,List.forall_mem_cons,rchks_iff (rs:=rs)]
theorem zMQ {r:Nat} {fr fr2:Fr} {s s2:ES} {b:Nat} {oo:Option EO} (h:ySK P L base r fr s) (ha:Agree (zND L r) fr fr2) (hd:∀ t,zKR L r=some t→fr2.lk t=fr.lk t) (hx:Ext b oo s s2) (hf:yJY b oo s) (hne:oo.isSome=true→b ≠ base+r):ySK P L base r fr2 s2:=by
 obtain ⟨o,ho⟩:=zJH h;unfold ySK at h ⊢
 refine zPQ ho h (by simpa only[zND,ho] using ha) hx hf hne fun v t t2 _ _ hk u hu=>?_
 have:=hk u hu;simp only[zKR,ho] at hu
 rw[zYD,if_pos hu] at this ⊢
 rw[this,hd u (by simp only[zKR,ho,hu])]
def xJP (K:Fr→ES→Prop):Prop:=∀ fr s fr2 s2,K fr s→FEq fr fr2→Ext 0 none s s2→K fr2 s2
theorem zYJ {K:Fr→ES→Prop} (hK:xJP K):∀ pl:List (Nat × List Nat),xJP (zPY P L base K pl)
 | []=>hK
 | (i,rs)::rest=>fun fr s fr2 s2 h hF hS=>by
   simp only[zPY] at h ⊢
   obtain ⟨o,ho⟩:=zJH h;refine zPQ ho h (hF.agree _) hS (zJK _ _) (by simp) fun v t t2 e1 _ hr=>?_
   have hF':=hF.putO o.dst v;exact ⟨rchks_iff.2 fun r hr'=>zMQ (rchks_iff.1 hr.1 r hr') (hF'.agree _) (fun t _=>hF'.lk t) e1 (zJK _ _) (by simp),zYJ hK rest _ _ _ _ hr.2 hF' e1⟩
structure ApartPA (L:List Oper) (j:Nat) (p:Nat × List Nat):Prop where
 ne:p.1 ≠ j
 fwd:Apt (zKR L p.1) (zND L j)
 bwd:Apt (zKR L j) (zND L p.1)
 dne:Dne (zKR L p.1) (zKR L j)
 chk:∀ r∈p.2,r ≠ j∧Apt (zKR L j) (zND L r)∧Dne (zKR L r) (zKR L j)
theorem pullPA {K:Fr→ES→Prop} (hK:xJP K) {j:Nat} {rs:List Nat} {fr0:Fr} {v:EV} {oo:Option EO}
  (hv:∀ f t (K2:Fr→ES→Prop),Agree (zND L j) fr0 f→stepG P L base j K2 f t→K2 (f.putO (zKR L j) v) (t.addO (base+j) oo)) (post:List (Nat × List Nat)) :
  ∀ (pre:List (Nat × List Nat)) (fr fr2:Fr) (s s2:ES),zPY P L base K (pre++(j,rs)::post) fr s→Agree (zND L j) fr0 fr→FEq (fr.putO (zKR L j) v) fr2→Ext (base+j) oo s s2→yJY (base+j) oo s →
   (∀ p∈pre,ApartPA L j p)→zPY P L base K (pre++post) fr2 s2
 | [],fr,fr2,s,s2,h,ha,hF,hx,hf,_=>by
   simp only[List.nil_append,zPY] at h ⊢
   refine zYJ hK post _ _ _ _ (hv fr s _ ha h).2 hF ?_
   cases oo with
   | none=>exact ext_any hx
   | some x=>
     obtain ⟨h1,h2,h3⟩:=hf rfl;exact ⟨hx.nx,hx.gl,fun c=>by rw[hx.get];simp only[ES.addO];rw[ES.get_add h2]⟩
 | (c,rc)::pre,fr,fr2,s,s2,h,ha,hF,hx,hf,hp=>by
   simp only[List.cons_append,zPY] at h ⊢
   obtain ⟨o,ho⟩:=zJH h;have hc:=hp (c,rc) (by simp);have hdc:o.dst=zKR L c:=by simp only[zKR,ho]
   have hrd:yYD L o=zND L c:=by simp only[zND,ho]
   refine zPQ ho h (hrd ▸ (hc.bwd.agree fr v).trans (hF.agree _)) hx hf (fun _ e=>hc.ne (by simp only at *;omega)) fun u t t2 e1 e2 hq=>?_
   rw[hdc] at hq ⊢
   have hF2:FEq ((fr.putO (zKR L c) u).putO (zKR L j) v) (fr2.putO (zKR L c) u):=(FEq.swap fr hc.dne u v).trans (hF.putO _ _);refine ⟨rchks_iff.2 fun r hr=>?_,pullPA hK hv post pre _ _ t t2 hq.2 (ha.trans (hc.fwd.agree fr u)) hF2 e1 e2 fun p hpp=>hp p (by simp[hpp])⟩;obtain ⟨h1,h2,h3⟩:=hc.chk r hr;refine zMQ (rchks_iff.1 hq.1 r hr) ((h2.agree _ v).trans (hF2.agree _)) (fun t ht=>?_) e1 e2 (fun _ e=>h1 (by omega));rw[hF2.lk,zYD,if_neg (h3 t ht)]
structure ApartRE (P:Program) (L:List Oper) (j:Nat) (rs:List Nat) (p:Nat × List Nat) (rest:List (Nat × List Nat)):Prop where
 nil:p.2=[]
 fwd:Apt (zKR L p.1) (zND L j)
 bwd:Apt (zKR L j) (zND L p.1)
 own:Apt (zKR L p.1) (zND L p.1)
 dne:Dne (zKR L p.1) (zKR L j)
 kind:zTH P L p.1=.P∨(zTH P L p.1=.R∧zTH P L j=.R)∨(zTH P L p.1=.R∧p.1∈rs∧p.1 ∉ rest.map (·.1))
 chk:∀ r∈rs,r∈rest.map (·.1)∨r=p.1∨(Apt (zKR L p.1) (zND L r)∧Dne (zKR L p.1) (zKR L r))
def yFH (P:Program) (L:List Oper) (j:Nat) (rs:List Nat):List (Nat × List Nat)→Prop
 | []=>True
 | p::rest=>ApartRE P L j rs p rest∧yFH P L j rs rest
theorem yBZ {i:Nat} (hc:zTH P L i=.P∨zTH P L i=.R) {K:Fr→ES→Prop} {fr:Fr} {s:ES} (h:stepG P L base i K fr s):∃ v,Val P L base i fr s v s:=by
 obtain ⟨o,ho⟩:=zJH h;simp only[zTH,ho] at hc
 obtain ⟨v,hv⟩:=xYV ho hc h;exact ⟨v,fun K2=>by rw[hv];simp only[zKR,ho]⟩
theorem pullRE {K:Fr→ES→Prop} (hK:xJP K) {j:Nat} {rs:List Nat} (post:List (Nat × List Nat)) :
  ∀ (pre:List (Nat × List Nat)) (fr:Fr) (s:ES),zPY P L base K (pre++(j,rs)::post) fr s→yFH P L j rs pre →
   stepG P L base j (fun f t=>(∀ r∈rs,r ∉ pre.map (·.1)→ySK P L base r f t)∧zPY P L base K (pre++post) f t) fr s
 | [],fr,s,h,_=>by
   simp only[List.nil_append,zPY] at h
   obtain ⟨o,ho⟩:=zJH h;refine zPQ ho h ((FEq.refl fr).agree _) (Ext.refl 0 s) (zJK _ _) (by simp) fun v t t2 e1 _ hq=>?_
   exact ⟨fun r hr _=>zMQ (rchks_iff.1 hq.1 r hr) ((FEq.refl _).agree _) (fun _ _=>rfl) e1 (zJK _ _) (by simp),zYJ hK post _ _ _ _ hq.2 (FEq.refl _) e1⟩
 | (c,rc)::pre,fr,s,h,hp=>by
   obtain ⟨hc,hp⟩:=hp;have hnil:rc=[]:=hc.nil;subst hnil;simp only[List.cons_append,zPY] at h
   have hPR:zTH P L c=.P∨zTH P L c=.R:=by rcases hc.kind with h | h | h<;>simp[h]
   obtain ⟨vc,hvc⟩:=yBZ hPR h;have h1:=pullRE hK post pre _ s ((hvc _).1 h).2 hp;obtain ⟨oj,hoj⟩:=zJH h1;have hdj:oj.dst=zKR L j:=by simp only[zKR,hoj]
   have hrj:yYD L oj=zND L j:=by simp only[zND,hoj]
   -- what is looked at again
   have hchk:∀ (v:EV) (t t2:ES),Ext 0 none t t2→(∀ r∈rs,r ∉ pre.map (·.1)→ySK P L base r ((fr.putO (zKR L c) vc).putO (zKR L j) v) t) →
     ∀ r∈rs,r ∉ ((c,([]:List Nat))::pre).map (·.1)→ySK P L base r (fr.putO (zKR L j) v) t2:=by
    intro v t t2 e1 hq r hr hn;simp only[List.map_cons,List.mem_cons,not_or] at hn
    rcases hc.chk r hr with h | h | ⟨h2,h3⟩
    ·exact absurd h hn.2
    ·exact absurd h hn.1
    ·have hF:=FEq.swap fr hc.dne vc v;have hF2:Agree (zND L r) ((fr.putO (zKR L c) vc).putO (zKR L j) v) (fr.putO (zKR L j) v):=(hF.agree _).trans (h2.agree _ vc).symm;refine zMQ (hq r hr hn.2) hF2 (fun u hu=>?_) e1 (zJK _ _) (by simp);have h4:=hF.lk u;rw[zYD _ _ vc,if_neg (fun e=>h3 u e hu)] at h4
     rw[← h4]
   -- behind the act, the earlier one still has its value
   have hend:∀ (v:EV) (t:ES),Val P L base c (fr.putO (zKR L j) v) t vc t→zPY P L base K (pre++post) ((fr.putO (zKR L c) vc).putO (zKR L j) v) t →
     zPY P L base K ((c,[])::pre++post) (fr.putO (zKR L j) v) t:=by
    intro v t hv hq;simp only[List.cons_append,zPY];exact (hv _).2 ⟨trivial,zYJ hK _ _ _ _ _ hq (FEq.swap fr hc.dne vc v) (Ext.refl 0 t)⟩
   by_cases hcR:zTH P L c=.P
   ·refine zPQ hoj h1 (hrj ▸ (hc.fwd.agree fr vc).symm) (Ext.refl 0 s) (zJK _ _) (by simp) fun v t t2 e1 _ hq=>?_
    rw[hdj] at hq ⊢
    refine ⟨hchk v t t2 e1 hq.1,hend v t2 ?_ (zYJ hK _ _ _ _ _ hq.2 (FEq.refl _) e1)⟩;obtain ⟨oc,hoc⟩:=zJH h;obtain ⟨v',oo,_,hv'⟩:=xYK hoc (.inl (by simpa only[zTH,hoc] using hcR)) h;have hcP:cls P oc.op=.P:=by simpa only[zTH,hoc] using hcR
    -- the value is the same in every state
    have hval:Val P L base c fr t2 vc t2:=by
     intro K2;obtain ⟨v2,hv2⟩:=xYV hoc (.inl hcP) ((hv' t2 fun _ _=>True).2 ⟨fun e=>by
      have:=(hv' s fun _ t=>t=s).1 ((hvc fun _ t=>t=s).2 rfl)
      cases oo with
      | none=>simp at e
      | some x=>
        have h3:(s.add (base+c) x)=s:=this.2;have:=congrArg (fun z=>z.bl.length) h3;simp[ES.add] at this,trivial⟩)
     have e2:∀ u,zKR L c=some u→v2=vc:=fun u hu=>by
      have a1:=(hv2 fun f _=>f.lk u=v2).2 (by rw[zYD,if_pos (by simpa only[zKR,hoc] using hu)]);have a2:=((hv' t2 _).1 a1).2;have a3:=(hvc fun f _=>f.lk u=vc).2 (by rw[zYD,if_pos hu]);have a4:=((hv' s _).1 a3).2;rw[zYD,if_pos (by simpa only[zKR,hoc] using hu)] at a2 a4
      rw[← a2,← a4]
     rw[hv2];have:fr.putO oc.dst v2=fr.putO (zKR L c) vc:=by
      have hd:oc.dst=zKR L c:=by simp only[zKR,hoc]
      rw[hd]
      cases hx:zKR L c with
      | none=>rfl
      | some u=>rw[e2 u hx]
     rw[this]
    exact hval.move (hc.bwd.agree fr v)
   ·rcases hc.kind with hk | ⟨hk,hkj⟩ | ⟨hk,hin,hnp⟩
    ·exact absurd hk hcR
    ·obtain ⟨vj,hvj⟩:=yBZ (.inr hkj) h1;have hq:=(hvj _).1 h1;have hvj':=hvj.move (hc.fwd.agree fr vc).symm;exact (hvj' _).2 ⟨hchk vj s s (Ext.refl 0 s) hq.1,hend vj s (hvc.move (hc.bwd.agree fr vj)) hq.2⟩
    ·refine zPQ hoj h1 (hrj ▸ (hc.fwd.agree fr vc).symm) (Ext.refl 0 s) (zJK _ _) (by simp) fun v t t2 e1 _ hq=>?_
     rw[hdj] at hq ⊢
     refine ⟨hchk v t t2 e1 hq.1,hend v t2 ?_ (zYJ hK _ _ _ _ _ hq.2 (FEq.refl _) e1)⟩;have hr:=hq.1 c hin hnp;have hF:=FEq.swap fr hc.dne vc v;have hr2:stepG P L base c (fun f _=>∀ u,zKR L c=some u→f.lk u=vc) (fr.putO (zKR L j) v) t2:=by
      unfold ySK at hr
      obtain ⟨oc,hoc⟩:=zJH hr;have hd:oc.dst=zKR L c:=by simp only[zKR,hoc]
      refine zPQ hoc hr (by
       have:yYD L oc=zND L c:=by simp only[zND,hoc]
       rw[this];exact (hF.agree _).trans (hc.own.agree _ vc).symm) e1 (zJK _ _) (by simp) fun x y y2 _ _ hk u hu=>?_
      have:=hk u hu;rw[hd,zYD,if_pos hu] at this ⊢
      rw[this,← hF.lk,zYD,if_pos hu]
     obtain ⟨v3,hv3⟩:=yBZ (.inr hk) hr2;have h3:=(hv3 _).1 hr2;intro K2;rw[hv3];have:((fr.putO (zKR L j) v).putO (zKR L c) v3)=((fr.putO (zKR L j) v).putO (zKR L c) vc):=by
      cases hx:zKR L c with
      | none=>rfl
      | some u=>
        have:=h3 u hx;rw[zYD,if_pos hx] at this
        rw[this]
     rw[this]
end
section
theorem xTM {F:Fence} {n:Nat} {P:Program} {o:Oper} {a:Act} {w:World} {next:Act→World→Prop} {Q Q2:Exit→Act→World→Prop} (h:o.wpIn F n P a w next Q) (hq:∀ e a w,Q e a w→Q2 e a w):o.wpIn F n P a w next Q2:=by
 unfold Oper.wpIn at *
 refine ⟨h.1,?_⟩;have hh:=h.2;generalize (o.semAt F.round a.eval).run P w=r at *
 cases r with
 | ok x w'=>
   cases x<;>simp only[Oper.uponIn] at hh ⊢ <;>
    first
     | exact hh
     | exact ⟨hh.1,CallsIn.mono hh.2 (fun e w'' he=>by cases e<;>first|exact he|exact hq _ _ _ he|exact (let ⟨a,w,x⟩:=he;⟨a,w,hq _ _ _ x⟩))⟩
     | exact ⟨hh.1,RoundIn.mono hh.2 (fun e w'' he=>by cases e<;>first|exact he|exact hq _ _ _ he|exact (let ⟨a,w,x⟩:=he;⟨a,w,hq _ _ _ x⟩))⟩
 | halt x w'=>cases x<;>simp only[Oper.uponIn] at hh ⊢ <;> first|exact hq _ _ _ hh|exact hh
theorem yZZ (r:Option Nat) (n:Nat):(zPK r).room n:=fun _ h=>by simp[zPK,Fence.wide] at h
theorem wpOpIn_ex {P:Program} {r:Option Nat} {ops:Array Oper} {i:Nat} {next:Act→World→Prop} {a:Act} {w:World} (h:wpOpIn (zPK r) 0 P ops (fun _ _ _=>False) i next a w):∃ a' w',next a' w':=by
 unfold wpOpIn at h
 split at h
 ·exact ⟨_,_,h⟩
 ·split at h
  ·rename_i o _ _
   have hh:=h.2;generalize (o.semAt (zPK r).round a.eval).run P w=res at *
   cases res with
   | ok x w'=>
     cases x<;>simp only[Oper.uponIn] at hh<;>try exact ⟨_,_,hh⟩
     case enter f as=>
      obtain ⟨e,w2,fr,hR,_⟩:=hh.2.2 [] (yZZ _ _)
      cases e with
      | returned v=>exact ⟨_,_,hR⟩
      | panicked c=>exact hR.elim
      | outgrown=>obtain ⟨_,_,x⟩:=hR;exact x.elim
     case row row as=>
      obtain ⟨v,w2,hR,_⟩:=hh.2 (Frame.enter P 0 #[] .normal) [] (yZZ _ _);exact ⟨_,_,hR⟩
     case round l f t as b=>
      obtain ⟨e,w2,hR,_⟩:=hh.2.2 (Frame.enter P 0 #[] .normal) [] (yZZ _ _)
      cases e with
      | returned v=>exact ⟨_,_,hR⟩
      | panicked c=>exact hR.elim
      | outgrown=>obtain ⟨_,_,x⟩:=hR;exact x.elim
   | halt x w'=>cases x<;>simp only[Oper.uponIn] at hh
  ·exact ⟨_,_,h.2⟩
variable {P:Program} {L:List Oper} {base:Nat}
def After (k:Nat) (ρ0:Env) (s0:ES) (w0:World) (ρ:Env) (s:ES) (b:Nat) (K:Fr→ES→Prop) (a':Act) (w':World):Prop:=
 ∃ fr' s' ρ',GoK k ρ0 s0 w0 ρ' s' w'∧FR ρ' fr' a'∧K fr' s'∧s.nx≤s'.nx∧∀ c,c<s.nx→c ≠ b→s.get c=none→ρ c=none→s'.get c=none∧ρ' c=none
theorem oneOp_wp {k:Nat} {ρ0 ρ:Env} {s0 s:ES} {w0 w:World} {a:Act} {fr:Fr} {o:Oper} {b:Nat} {K:Fr→ES→Prop} (h:zBF P b o fr s K) (r:Option Nat) (hG:GoK k ρ0 s0 w0 ρ s w) (hF:FR ρ fr a) (hk:k≤b)
  (hb:b<s.nx) (hg:s.get b=none) (hρ:ρ b=none) (Q:Exit→Act→World→Prop):o.wpIn (zPK r) 0 P a w (After k ρ0 s0 w0 ρ s b K) Q:=by
 unfold zBF at h
 split at h
 ·obtain ⟨_,h⟩:=h;have hd:∀ c,o.op ≠ .defer c:=by intro c hc;rw[hc] at h;simp[eopA] at h
  obtain ⟨v,c,cs,t,v',hK,hc,hrun,hv⟩:=eopA_run h (w:=w) hF;have hgo:=hG.rel.newCellsAt b hb hg hρ c cs t hc hk;have hle:ρ.le (fun i=>if i=b then some ⟨w.heap.size,0,c.length,c.length,0⟩ else ρ i):=fun x l' hx=>by
   by_cases h:x=b
   ·subst h;rw[hρ] at hx;cases hx
   ·simp[h,hx]
  refine ⟨fun f _=>zGH r f,?_⟩;rw[Oper.semAt_eq _ _ _ hd,hrun];refine ⟨_,_,_,hG.trans hgo,(hF.mono hle).put o.dst v v' hK.1 (hv _ (by simp)),hK.2,Nat.le_refl _,fun x hx hne h1 h2=>⟨?_,?_⟩⟩
  ·rw[ES.get_add hb,if_neg (fun e=>hne e.symm)];exact h1
  ·simp only[hne,if_false];exact h2
 ·refine xTM (Q:=CPost s.nx ρ s w (fun _ _ _=>False)) (yBX (Q:=fun _ _ _=>False) h r (GoK.refl hG.rel (Nat.le_refl _)) hF fun fr' s' ρ' w' a' h1 h2 h3=>?_) ?_
  ·exact ⟨fr',s',ρ',hG.trans ((h1.to1 hG.rel).toK hG.nx),h2,h3,h1.nx,fun c hc _ e1 e2=>⟨h1.gone c hc e1,by rw[h1.old c hc];exact e2⟩⟩
  ·rintro e a w ⟨_,_,_,_,_,_,_,x⟩;exact x.elim
theorem xYZ {k:Nat} {ρ0 ρ:Env} {s0 s:ES} {w0 w:World} {a:Act} {fr:Fr} {j:Nat} {K:Fr→ES→Prop} (h:stepG P L base j K fr s) (r:Option Nat) (hG:GoK k ρ0 s0 w0 ρ s w) (hF:FR ρ fr a) (hk:k≤base)
  (hb:base+j<s.nx) (hg:s.get (base+j)=none) (hρ:ρ (base+j)=none) (Q:Exit→Act→World→Prop):wpOpIn (zPK r) 0 P L.toArray Q j (After k ρ0 s0 w0 ρ s (base+j) K) a w:=by
 obtain ⟨o,ho⟩:=zJH h;unfold stepG at h
 simp only[ho] at h
 unfold wpOpIn;have ho':L.toArray[j]? = some o:=by simpa using ho
 simp only[ho'];have hrun:∀ fr,FR ρ fr a→zBF P (base+j) o fr s K→o.wpIn (zPK r) 0 P a w (After k ρ0 s0 w0 ρ s (base+j) K) Q:=fun fr hF h=>oneOp_wp h r hG hF (by omega) hb hg hρ Q
 have hskip:zMY fr.n o.dst∧K (fr.putO o.dst zVP) s→After k ρ0 s0 w0 ρ s (base+j) K (a.put o.dst undef) w:=fun q=>
  ⟨_,_,_,hG,hF.put o.dst zVP undef q.1 VR.undef,q.2,Nat.le_refl _,fun c _ _ e1 e2=>⟨e1,e2⟩⟩
 unfold ySY at h
 cases hgd:o.guard with
 | none=>
   simp only[hgd] at h
   rw[if_pos (by simp[Region.wanted,hgd])];exact hrun fr hF h
 | some jw=>
   obtain ⟨j',want⟩:=jw;simp only[hgd] at h
   cases ht:zNS L j' with
   | none=>simp[ht] at h
   | some t=>
     simp only[ht] at h
     have hy:((L.toArray[j']?).bind (·.dst))=some t:=by
      simp only[zNS] at ht
      split at ht
      ·rename_i oj hj;simp[hj,ht]
      ·cases ht
     have hslot:=hF.slot t
     split at h
     ·rename_i b hb
      rw[hb,VR] at hslot
      have hget:a.tmps[t]? = some (.bool b):=by
       rw[Array.getD_eq_getD_getElem?] at hslot
       cases hx:a.tmps[t]? with
       | none=>rw[hx] at hslot;simp[Go.undef] at hslot
       | some v=>rw[hx] at hslot;simpa using hslot
      have hyield:yielded L.toArray a.tmps j'=some b:=by
       simp only[yielded,hy,Option.bind_some,hget]
      by_cases hbw:b=want
      ·subst hbw;rw[if_pos (by simp[Region.wanted,hgd,hyield])];exact hrun fr hF (h.1 rfl)
      ·rw[if_neg (by simp[Region.wanted,hgd,hyield,hbw])];refine ⟨fun f _=>zGH r f,?_⟩;have hbn:b = !want:=by cases b<;>cases want<;>simp at hbw ⊢
       exact hskip (h.2 hbn)
     ·rename_i hb
      rw[hb,VR] at hslot
      obtain ⟨cs',hcs,hnil⟩:=hslot;rw[VRs] at hnil
      have hyield:yielded L.toArray a.tmps j'=none:=by
       simp only[yielded,hy,Option.bind_some];rw[Array.getD_eq_getD_getElem?] at hcs
       cases hx:a.tmps[t]? with
       | none=>rfl
       | some v=>rw[hx] at hcs;simp at hcs;subst hcs;rfl
      rw[if_neg (by simp[Region.wanted,hgd,hyield])];exact ⟨fun f _=>zGH r f,hskip h⟩
     ·exact h.elim
def Kept (base:Nat) (pl:List (Nat × List Nat)) (ρ:Env) (s:ES):Prop:=∀ p∈pl,base+p.1<s.nx∧s.get (base+p.1)=none∧ρ (base+p.1)=none
theorem xZS {j:Nat} {K:Fr→ES→Prop} {fr:Fr} {s:ES} (h:stepG P L base j K fr s):stepG P L base j (fun f t=>∃ v t0,f=fr.putO (zKR L j) v∧Ext 0 none t0 t∧K (fr.putO (zKR L j) v) t0) fr s:=by
 obtain ⟨o,ho⟩:=zJH h;refine zPQ ho h ((FEq.refl fr).agree _) (Ext.refl 0 s) (zJK _ _) (by simp) fun v t t2 e1 _ hq=>?_
 simp only[zKR,ho];exact ⟨v,t,rfl,e1,hq⟩
theorem reach {k:Nat} {ρ0:Env} {s0:ES} {w0:World} {K:Fr→ES→Prop} (hK:xJP K) (hk:k≤base) {ts:List Tmp} (rest:List (Nat × List Nat)):∀ (pre:List (Nat × List Nat)) (fr:Fr) (s:ES) (ρ:Env) (w:World) (a:Act),
  zPY P L base K (pre++rest) fr s→GoK k ρ0 s0 w0 ρ s w→FR ρ fr a→Kept base pre ρ s→pre.Pairwise (fun x y=>x.1 ≠ y.1)→(∀ p∈pre,Apt (zKR L p.1) ts)→∃ f t,zPY P L base K rest f t∧Agree ts fr f
 | [],fr,s,ρ,w,a,h,_,_,_,_,_=>⟨fr,s,h,(FEq.refl fr).agree _⟩
 | (c,rc)::pre,fr,s,ρ,w,a,h,hG,hF,hkept,hnd,hp=>by
   simp only[List.cons_append,zPY] at h
   obtain ⟨h1,h2,h3⟩:=hkept (c,rc) (by simp);obtain ⟨a',w',fr',s',ρ',hG',hF',⟨v,t0,rfl,e1,hq⟩,hnx,hold⟩:=wpOpIn_ex (xYZ (xZS h) none hG hF hk h1 h2 h3 _);have hc:=zYJ hK _ _ _ _ _ hq.2 (FEq.refl _) e1;rw[List.pairwise_cons] at hnd
   obtain ⟨f,t,r1,r2⟩:=reach hK hk rest pre _ s' ρ' w' a' hc hG' hF' (fun p hpp=>by
    obtain ⟨q1,q2,q3⟩:=hkept p (by simp[hpp]);have hne:base+p.1 ≠ base+c:=fun e=>hnd.1 p hpp (by simp only;omega)
    exact ⟨by omega,hold _ q1 hne q2 q3⟩) hnd.2 (fun p hpp=>hp p (by simp[hpp]))
   exact ⟨f,t,r1,((hp (c,rc) (by simp)).agree fr v).trans r2⟩
def aptB (d:Option Tmp) (ts:List Tmp):Bool:=match d with | some t=>!ts.elem t | none=>true
def dneB (d e:Option Tmp):Bool:=match d,e with | some a,some b=>!(a == b) | _,_=>true
theorem zMM {d:Option Tmp} {ts:List Tmp} (h:aptB d ts=true):Apt d ts:=by
 rintro t rfl ht
 simp[aptB,ht] at h
theorem yTV {d e:Option Tmp} (h:dneB d e=true):Dne d e:=by
 rintro t rfl rfl
 simp[dneB] at h
def clsB (a b:Cls):Bool:=match a,b with | .P,.P=>true | .R,.R=>true | .A,.A=>true | .E,.E=>true | _,_=>false
theorem zGT {a b:Cls} (h:clsB a b=true):a=b:=by cases a<;>cases b<;>simp[clsB] at h ⊢
def xPR (P:Program) (L:List Oper) (x y:Nat) (ry:List Nat):Bool:=
 clsB (zTH P L y) .P || clsB (zTH P L y) .A || clsB (zTH P L x) .P || (clsB (zTH P L x) .R && clsB (zTH P L y) .R) || (clsB (zTH P L x) .R && ry.elem x)
def wB (W:List (List Nat)) (y x:Nat):Bool:=(W.getD y []).elem x
def okB (P:Program) (L:List Oper) (W:List (List Nat)) (x y:Nat × List Nat):Bool:=
 !wB W x.1 y.1 && !(x.1 == y.1) && dneB (zKR L x.1) (zKR L y.1) && (wB W y.1 x.1 || aptB (zKR L y.1) (zND L x.1)) &&
 (wB W y.1 x.1 || (aptB (zKR L x.1) (zND L y.1) && xPR P L x.1 y.1 y.2)) &&
 x.2.all (fun r=>!(r == y.1) && aptB (zKR L y.1) (zND L r) && dneB (zKR L r) (zKR L y.1)) &&
 y.2.all (fun r=>r == x.1 || (aptB (zKR L x.1) (zND L r) && dneB (zKR L x.1) (zKR L r)) || wB W r x.1)
def ownB (P:Program) (L:List Oper) (x:Nat × List Nat):Bool:=aptB (zKR L x.1) (zND L x.1) && !x.2.elem x.1 && (x.2.isEmpty || clsB (zTH P L x.1) .E)
def yDF (P:Program) (L:List Oper) (W:List (List Nat)):List (Nat × List Nat)→Bool
 | []=>true
 | x::rest=>ownB P L x && rest.all (okB P L W x) && yDF P L W rest
def yXN (L:List Oper) (j:Nat):List Nat:=match L[j]? with | some o=>(o.after.toList.filter (Region.binds .any)).map (·.on) | none=>[]
def wOkB (L:List Oper) (W:List (List Nat)) (j:Nat):Bool:=
 (W.getD j []).all (fun c=>(yXN L j).any fun e=>e == c || wB W e c) && (yXN L j).all (fun e=>wB W j e && !(e == j) && Nat.blt e L.length)
def ancs (L:List Oper):List Nat→List (List Nat)→List (List Nat)
 | [],r=>r
 | j::js,r=>ancs L js (r++[((yXN L j).foldl (fun m e=>(if m.elem e then m else e::m)++((r.getD e []).filter fun x=>!m.elem x && !(x == e))) [])])
def xPP (P:Program) (L:List Oper) (pl:List (Nat × List Nat)):Bool:=
 let W:=ancs L (List.range L.length) []
 Nat.beq pl.length L.length && Nat.ble W.length L.length && (List.range L.length).all (fun i=>wOkB L W i && (pl.map (·.1)).elem i) && pl.all (fun p=>Nat.blt p.1 L.length) && yDF P L W pl
end
section
structure OkB (P:Program) (L:List Oper) (W:List (List Nat)) (x y:Nat × List Nat):Prop where
 w:wB W x.1 y.1=false
 ne:x.1 ≠ y.1
 dne:Dne (zKR L x.1) (zKR L y.1)
 bwd:wB W y.1 x.1=true∨Apt (zKR L y.1) (zND L x.1)
 kind:wB W y.1 x.1=true∨(Apt (zKR L x.1) (zND L y.1)∧xPR P L x.1 y.1 y.2=true)
 chk1:∀ r∈x.2,r ≠ y.1∧Apt (zKR L y.1) (zND L r)∧Dne (zKR L r) (zKR L y.1)
 chk2:∀ r∈y.2,r=x.1∨(Apt (zKR L x.1) (zND L r)∧Dne (zKR L x.1) (zKR L r))∨wB W r x.1=true
theorem okB_spec {P:Program} {L:List Oper} {W:List (List Nat)} {x y:Nat × List Nat} (h:okB P L W x y=true):OkB P L W x y:=by
 simp only[okB,Bool.and_eq_true,Bool.or_eq_true,List.all_eq_true,Bool.not_eq_true',beq_iff_eq,beq_eq_false_iff_ne] at h
 obtain ⟨⟨⟨⟨⟨⟨h1,h2⟩,h3⟩,h4⟩,h5⟩,h6⟩,h7⟩:=h;refine ⟨h1,h2,yTV h3,h4.imp id zMM,h5.imp id fun q=>⟨zMM q.1,q.2⟩,fun r hr=>?_,fun r hr=>?_⟩
 ·obtain ⟨⟨a,b⟩,c⟩:=h6 r hr;exact ⟨a,zMM b,yTV c⟩
 ·rcases h7 r hr with (a | ⟨b,c⟩) | d
  ·exact .inl a
  ·exact .inr (.inl ⟨zMM b,yTV c⟩)
  ·exact .inr (.inr d)
theorem yPR {P:Program} {L:List Oper} {W:List (List Nat)}:∀ {pl:List (Nat × List Nat)},yDF P L W pl=true→(∀ p∈pl,ownB P L p=true)∧pl.Pairwise (OkB P L W)
 | [],_=>⟨by simp,.nil⟩
 | x::rest,h=>by
   simp only[yDF,Bool.and_eq_true,List.all_eq_true] at h
   obtain ⟨h1,h2⟩:=yPR h.2;exact ⟨fun p hp=>(List.mem_cons.1 hp).elim (fun e=>e ▸ h.1.1) (h1 p),List.pairwise_cons.2 ⟨fun y hy=>okB_spec (h.1.2 y hy),h2⟩⟩
def idx (pl:List (Nat × List Nat)):List Nat:=pl.map (·.1)
theorem mem_idx {pl:List (Nat × List Nat)} {i:Nat}:i∈idx pl↔∃ p∈pl,p.1=i:=by simp[idx]
variable {P:Program} {L:List Oper} {base:Nat}
theorem pull {k:Nat} {ρ0 ρ:Env} {s0 s:ES} {w0 w:World} {a:Act} {fr:Fr} {W:List (List Nat)} {K:Fr→ES→Prop} (hK:xJP K) (hk:k≤base) {j:Nat} {rs:List Nat} {pre post:List (Nat × List Nat)}
  (h:zPY P L base K (pre++(j,rs)::post) fr s) (hG:GoK k ρ0 s0 w0 ρ s w) (hF:FR ρ fr a) (hkept:Kept base (pre++(j,rs)::post) ρ s) (hown:∀ p∈pre++(j,rs)::post,ownB P L p=true) (hpw:(pre++(j,rs)::post).Pairwise (OkB P L W))
  (hWC:∀ i,i ∉ idx (pre++(j,rs)::post)→∀ c,wB W i c=true→c ∉ idx (pre++(j,rs)::post)) (hj:∀ c,wB W j c=true→c ∉ idx (pre++(j,rs)::post)):stepG P L base j (zPY P L base K (pre++post)) fr s:=by
 rw[List.pairwise_append] at hpw
 obtain ⟨hpp,hpq,hpr⟩:=hpw;rw[List.pairwise_cons] at hpq
 have hcj:∀ p∈pre,OkB P L W p (j,rs):=fun p hp=>hpr p hp (j,rs) (by simp)
 have hun:∀ p∈pre,Apt (zKR L p.1) (zND L j)∧xPR P L p.1 j rs=true:=fun p hp=>by
  rcases (hcj p hp).kind with hw | hw
  ·exact absurd (mem_idx.2 ⟨p,by simp[hp],rfl⟩) (hj _ hw)
  ·exact hw
 have hbw:∀ p∈pre,Apt (zKR L j) (zND L p.1):=fun p hp=>by
  rcases (hcj p hp).bwd with hw | hw
  ·exact absurd (mem_idx.2 ⟨p,by simp[hp],rfl⟩) (hj _ hw)
  ·exact hw
 have hnd:pre.Pairwise (fun x y=>x.1 ≠ y.1):=hpp.imp fun h=>h.ne
 by_cases hPA:zTH P L j=.P∨zTH P L j=.A
 ·-- its value, from the one order
  obtain ⟨f,t,hc,hag⟩:=reach hK hk (ts:=zND L j) ((j,rs)::post) pre fr s ρ w a h hG hF (fun p hp=>hkept p (by simp[hp])) hnd fun p hp=>(hun p hp).1
  simp only[zPY] at hc
  obtain ⟨o,ho⟩:=zJH hc;have hd:zKR L j=o.dst:=by simp only[zKR,ho]
  have hrd:zND L j=yYD L o:=by simp only[zND,ho]
  obtain ⟨v,oo,hwr,hv⟩:=xYK ho (by simpa only[zTH,ho] using hPA) hc;have hval:∀ f2 t2 (K2:Fr→ES→Prop),Agree (zND L j) f f2→(stepG P L base j K2 f2 t2↔(oo.isSome=true→base+j<t2.nx)∧K2 (f2.putO (zKR L j) v) (t2.addO (base+j) oo)):=by
   intro f2 t2 K2 ha;rw[yGZ ho (hrd ▸ ha),hv,hd]
   cases hx:o.dst with
   | none=>exact Iff.rfl
   | some u=>simp only[zYD,if_true]
  obtain ⟨q1,q2,q3⟩:=hkept (j,rs) (by simp);refine (hval fr s _ hag.symm).2 ⟨fun _=>q1,?_⟩;refine pullPA hK (fun f2 t2 K2 ha hst=>((hval f2 t2 K2 (hag.symm.trans ha)).1 hst).2) post pre fr _ s _ h ((FEq.refl fr).agree _) (FEq.refl _) ?_ ?_ fun p hp=>?_
  ·cases oo with
   | none=>exact ⟨rfl,rfl,fun _=>rfl⟩
   | some x=>exact Ext.add q1
  ·intro _;exact ⟨q2,q1,hwr⟩
  ·have:=hcj p hp;exact ⟨this.ne,(hun p hp).1,hbw p hp,this.dne,this.chk1⟩
 ·-- an act or a reading
  have hsplit:∀ (p1 p2:List (Nat × List Nat)),pre=p1++p2→yFH P L j rs p2:=by
   intro p1 p2
   induction p2 generalizing p1 with
   | nil=>intro _;trivial
   | cons c p2 ih=>
     intro e;refine ⟨?_,ih (p1++[c]) (by simp[e])⟩;have hc:c∈pre:=by simp[e]
     have hc2:c∈pre++(j,rs)::post:=by simp[e]
     have hok:=hcj c hc;obtain ⟨hfwd,hkind⟩:=hun c hc;have hown':=hown c hc2;simp only[ownB,Bool.and_eq_true,Bool.or_eq_true] at hown'
     obtain ⟨⟨ho1,ho2⟩,ho3⟩:=hown';have hk2:zTH P L c.1=.P∨(zTH P L c.1=.R∧zTH P L j=.R)∨(zTH P L c.1=.R∧c.1∈rs):=by
      simp only[xPR,Bool.or_eq_true,Bool.and_eq_true] at hkind
      rcases hkind with (((h | h) | h) | h) | h
      ·exact absurd (.inl (zGT h)) hPA
      ·exact absurd (.inr (zGT h)) hPA
      ·exact .inl (zGT h)
      ·exact .inr (.inl ⟨zGT h.1,zGT h.2⟩)
      ·exact .inr (.inr ⟨zGT h.1,by simpa using h.2⟩)
     have hcp2:∀ y∈p2,OkB P L W c y:=by
      rw[e,List.pairwise_append] at hpp
      exact (List.pairwise_cons.1 hpp.2.1).1
     have hp1c:∀ y∈p1,OkB P L W y c:=by
      rw[e,List.pairwise_append] at hpp
      exact fun y hy=>hpp.2.2 y hy c (by simp)
     have hnp2:c.1 ∉ p2.map (·.1):=by
      intro hm;obtain ⟨y,hy,hye⟩:=List.mem_map.1 hm;exact (hcp2 y hy).ne hye.symm
     refine ⟨?_,hfwd,hbw c hc,zMM ho1,hok.dne,?_,?_⟩
     ·rcases ho3 with ho3 | ho3
      ·simpa using ho3
      ·have hE:=zGT ho3
       rcases hk2 with h | h | h<;>simp[hE] at h
     ·rcases hk2 with h | h | h
      ·exact .inl h
      ·exact .inr (.inl h)
      ·exact .inr (.inr ⟨h.1,h.2,hnp2⟩)
     ·intro r hr
      rcases hok.chk2 r hr with h | h | h
      ·exact .inr (.inl h)
      ·exact .inr (.inr h)
      ·-- it is owed to what stands before
       have hri:r∈idx (pre++(j,rs)::post):=by
        by_cases hx:r∈idx (pre++(j,rs)::post)
        ·exact hx
        ·exact absurd (mem_idx.2 ⟨c,hc2,rfl⟩) (hWC r hx _ h)
       obtain ⟨y,hy,rfl⟩:=mem_idx.1 hri;rw[e] at hy
       simp only[List.append_assoc,List.mem_append,List.mem_cons] at hy
       rcases hy with hy | (hy | hy) | hy | hy
       ·have:=(hp1c y hy).w;rw[this] at h;cases h
       ·subst hy;exact .inr (.inl rfl)
       ·exact .inl (List.mem_map.2 ⟨y,hy,rfl⟩)
       ·subst hy;have:=hown (j,rs) (by simp);simp only[ownB,Bool.and_eq_true,Bool.not_eq_true'] at this
        have h2:=this.1.2;exact absurd hr (by simpa using h2)
       ·exact absurd rfl ((hpq.1 y hy).chk1 _ hr).1
  have h1:=pullRE hK post pre fr s h (hsplit [] pre rfl);obtain ⟨o,ho⟩:=zJH h1;refine zPQ ho h1 ((FEq.refl fr).agree _) (Ext.refl 0 s) (zJK _ _) (by simp) fun v t t2 e1 _ hq=>?_
  exact zYJ hK _ _ _ _ _ hq.2 (FEq.refl _) e1
end
section
variable {P:Program} {L:List Oper} {base:Nat}
def Clo (K:Fr→ES→Prop) (fr:Fr) (s:ES):Prop:=∃ f t,FEq fr f∧Ext 0 none s t∧K f t
theorem ySP {s t u:ES} (h:Ext 0 none s t) (k:Ext 0 none t u):Ext 0 none s u:=⟨k.nx.trans h.nx,k.gl.trans h.gl,fun c=>(k.get c).trans (h.get c)⟩
theorem yXQ {s t:ES} (h:Ext 0 none s t):Ext 0 none t s:=⟨h.nx.symm,h.gl.symm,fun c=>(h.get c).symm⟩
theorem kcong_clo (K:Fr→ES→Prop):xJP (Clo K):=fun _ _ _ _ ⟨f,t,h1,h2,h3⟩ hF hS=>⟨f,t,hF.symm.trans h1,ySP (yXQ hS) h2,h3⟩
theorem xXK {K:Fr→ES→Prop}:∀ (pl:List (Nat × List Nat)) (fr:Fr) (s:ES) (fr2:Fr) (s2:ES),zPY P L base K pl fr s→FEq fr fr2→Ext 0 none s s2→zPY P L base (Clo K) pl fr2 s2
 | [],fr,s,_,_,h,hF,hS=>⟨fr,s,hF.symm,yXQ hS,h⟩
 | (i,rs)::rest,fr,s,fr2,s2,h,hF,hS=>by
   simp only[zPY] at h ⊢
   obtain ⟨o,ho⟩:=zJH h;refine zPQ ho h (hF.agree _) hS (zJK _ _) (by simp) fun v t t2 e1 _ hr=>?_
   have hF':=hF.putO o.dst v;exact ⟨rchks_iff.2 fun r hr'=>zMQ (rchks_iff.1 hr.1 r hr') (hF'.agree _) (fun t _=>hF'.lk t) e1 (zJK _ _) (by simp),xXK rest _ _ _ _ hr.2 hF' e1⟩
theorem xQJ {ops:Array Oper} {listed:Array Bool} {i:Nat} (h:i∈Region.ready .any ops listed):i<ops.size∧listed.getD i true=false∧∃ o,ops[i]? = some o∧∀ e∈o.after.toList,Region.binds .any e=true→listed.getD e.on false=true:=by
 simp only[Region.ready,List.mem_filter,List.mem_range,Bool.and_eq_true,Bool.not_eq_true'] at h
 obtain ⟨h1,h2,h3⟩:=h;refine ⟨h1,h2,?_⟩
 cases ho:ops[i]? with
 | none=>simp[ho] at h3
 | some o=>
   simp only[ho,Option.map_some,Option.getD_some,Array.all_eq_true_iff_forall_mem] at h3
   exact ⟨o,rfl,fun e he hb=>by
    have:=h3 e (by simpa using he)
    simpa [hb] using this⟩
theorem ready_mem {ops:Array Oper} {listed:Array Bool} {i:Nat} {o:Oper} (h1:i<ops.size) (h2:listed.getD i true=false) (ho:ops[i]? = some o) (h3:∀ e∈o.after.toList,Region.binds .any e=true→listed.getD e.on false=true):i∈Region.ready .any ops listed:=by
 simp only[Region.ready,List.mem_filter,List.mem_range,Bool.and_eq_true,Bool.not_eq_true'];refine ⟨h1,h2,?_⟩;simp only[ho,Option.map_some,Option.getD_some,Array.all_eq_true_iff_forall_mem];intro e he
 cases hb:Region.binds .any e with
 | false=>rfl
 | true=>simpa using h3 e (by simpa using he) hb
theorem yJP {W:List (List Nat)} {j:Nat} (h:wOkB L W j=true):(∀ c,wB W j c=true→∃ e∈yXN L j,e=c∨wB W e c=true)∧∀ e∈yXN L j,wB W j e=true∧e ≠ j∧e<L.length:=by
 simp only[wOkB,Bool.and_eq_true,List.all_eq_true,List.any_eq_true,Bool.or_eq_true,beq_iff_eq,Bool.not_eq_true',beq_eq_false_iff_ne] at h
 refine ⟨fun c hc=>?_,fun e he=>?_⟩
 ·obtain ⟨e,he,h2⟩:=h.1 c (by simpa [wB] using hc);exact ⟨e,he,h2⟩
 ·obtain ⟨⟨a,b⟩,c⟩:=h.2 e he;exact ⟨a,b,by simpa [Nat.blt_eq] using c⟩
theorem xRH {k:Nat} {ρ0:Env} {s0:ES} {w0:World} {W:List (List Nat)} {Q:X→Fr→ES→Prop} (hk:k≤base) (r:Option Nat) (hW:∀ j<L.length,wOkB L W j=true) (hWl:W.length≤L.length) :
  ∀ (fuel:Nat) (rem:List (Nat × List Nat)) (listed:Array Bool) (fr:Fr) (s:ES) (ρ:Env) (w:World) (a:Act),rem.length=fuel→(∀ p∈rem,ownB P L p=true)→rem.Pairwise (OkB P L W)→(∀ p∈rem,p.1<L.length) →
   (∀ i<L.length,i ∉ idx rem→∀ c,wB W i c=true→c ∉ idx rem)→(∀ i<L.length,listed[i]? = some (!(idx rem).elem i))→zPY P L base (Clo (Q .normal)) rem fr s→GoK k ρ0 s0 w0 ρ s w→FR ρ fr a→Kept base rem ρ s →
   wpAnyIn (zPK r) 0 P .any L.toArray (CPost k ρ0 s0 w0 Q) fuel listed a w
 | 0,rem,listed,fr,s,ρ,w,a,hlen,_,_,_,_,hl,h,hG,hF,_=>by
   have hrem:=List.eq_nil_of_length_eq_zero hlen;subst hrem;refine ⟨?_,?_⟩
   ·refine List.eq_nil_iff_forall_not_mem.2 fun i hi=>?_
    obtain ⟨h1,h2,_⟩:=xQJ hi;have:=hl i (by simpa using h1);simp[Array.getD_eq_getD_getElem?,this,idx] at h2
   ·obtain ⟨f,t,e1,e2,hq⟩:=h;have hS:=Rel.less (s':=t) hG.rel (fun b o hg=>by rw[e2.get] at hg;exact hg) (by rw[e2.nx];exact Nat.le_refl _) e2.gl;exact ⟨.normal,f,t,ρ,rfl,hF.feq e1,hG.trans (hS.toK hG.nx),hq⟩
 | fuel+1,rem,listed,fr,s,ρ,w,a,hlen,hown,hpw,hlt,hWC,hl,h,hG,hF,hkept=>by
   have hget:∀ i<L.length,∀ d,listed.getD i d = !(idx rem).elem i:=fun i hi d=>by
    rw[Array.getD_eq_getD_getElem?,hl i hi];rfl
   refine ⟨fun hr=>?_,fun i hi=>?_⟩
   ·-- the first of the one order is ready
    cases rem with
    | nil=>simp at hlen
    | cons p rest=>
      have hp:=hlt p (by simp);have hin:p.1∈Region.ready .any L.toArray listed:=by
       obtain ⟨o,ho⟩:∃ o,L[p.1]? = some o:=⟨_,List.getElem?_eq_getElem hp⟩;refine ready_mem (o:=o) (by simpa using hp) (by rw[hget _ hp];simp[idx]) (by simpa using ho) fun e he hb=>?_
       have hbl:e.on∈yXN L p.1:=by
        simp only[yXN,ho];exact List.mem_map.2 ⟨e,List.mem_filter.2 ⟨he,hb⟩,rfl⟩
       obtain ⟨h1,h2,h3⟩:=(yJP (hW _ hp)).2 _ hbl;rw[hget _ h3];have hne:e.on ∉ idx (p::rest):=by
        intro hm;obtain ⟨y,hy,hye⟩:=mem_idx.1 hm
        rcases List.mem_cons.1 hy with rfl | hy
        ·exact h2 hye.symm
        ·have:=((List.pairwise_cons.1 hpw).1 y hy).w;rw[hye,h1] at this;cases this
       simpa using hne
      rw[hr] at hin;cases hin
   ·obtain ⟨h1,h2,o,ho,h3⟩:=xQJ hi;have hil:i<L.length:=by simpa using h1
    rw[hget _ hil] at h2
    have hmem:i∈idx rem:=by simpa using h2
    obtain ⟨⟨i',rs⟩,hp,hpi⟩:=mem_idx.1 hmem;simp only at hpi;subst hpi
    obtain ⟨pre,post,rfl⟩:=List.append_of_mem hp;have hdirect:∀ e∈yXN L i',e ∉ idx (pre++(i',rs)::post):=by
     intro e he;have hlt2:=((yJP (hW _ hil)).2 e he).2.2;have ho':L[i']? = some o:=by simpa using ho
     simp only[yXN,ho',List.mem_map,List.mem_filter] at he
     obtain ⟨e',⟨he1,he2⟩,rfl⟩:=he;have:=h3 e' he1 he2;rw[hget _ hlt2] at this
     simpa using this
    have hj:∀ c,wB W i' c=true→c ∉ idx (pre++(i',rs)::post):=by
     intro c hc;obtain ⟨e,he,h4⟩:=(yJP (hW _ hil)).1 c hc
     rcases h4 with rfl | h4
     ·exact hdirect _ he
     ·exact hWC e ((yJP (hW _ hil)).2 e he).2.2 (hdirect e he) c h4
    have hWC2:∀ i,i ∉ idx (pre++(i',rs)::post)→∀ c,wB W i c=true→c ∉ idx (pre++(i',rs)::post):=by
     intro i hi c hc
     by_cases hlt3:i<L.length
     ·exact hWC i hlt3 hi c hc
     ·-- there is no such row
      have:W.getD i []=[]:=by
       rw[List.getD_eq_getElem?_getD,List.getElem?_eq_none (by omega)];rfl
      have hc2:wB W i c=false:=by simp only[wB,this];rfl
      rw[hc2] at hc;cases hc
    have hst:=pull (kcong_clo _) hk h hG hF hkept hown hpw hWC2 hj;obtain ⟨q1,q2,q3⟩:=hkept (i',rs) (by simp);refine wpOpIn_mono (fun a' w' hx=>?_) (xYZ hst r hG hF hk q1 q2 q3 _);obtain ⟨fr',s',ρ',hG',hF',hc',hnx,hold⟩:=hx;have hsub:(pre++post).Sublist (pre++(i',rs)::post):=List.Sublist.append (List.Sublist.refl _) (List.sublist_cons_self _ _);have hni:i' ∉ idx (pre++post):=by
     intro hm;obtain ⟨y,hy,hye⟩:=mem_idx.1 hm;rw[List.pairwise_append] at hpw
     rcases List.mem_append.1 hy with hy | hy
     ·exact (hpw.2.2 y hy (i',rs) (by simp)).ne hye
     ·exact ((List.pairwise_cons.1 hpw.2.1).1 y hy).ne hye.symm
    have hiff:∀ c,c∈idx (pre++(i',rs)::post)↔c=i'∨c∈idx (pre++post):=by
     intro c;simp only[idx,List.map_append,List.map_cons,List.mem_append,List.mem_cons]
     constructor
     ·exact fun h=>h.elim (fun h=>.inr (.inl h)) fun h=>h.elim .inl fun h=>.inr (.inr h)
     ·exact fun h=>h.elim (fun h=>.inr (.inl h)) fun h=>h.elim .inl fun h=>.inr (.inr h)
    refine xRH hk r hW hWl fuel (pre++post) _ fr' s' ρ' w' a' (by simp at hlen ⊢;omega) (fun p hp=>hown p (hsub.subset hp)) (hpw.sublist hsub) (fun p hp=>hlt p (hsub.subset hp)) ?_ ?_ hc' hG' hF' ?_
    ·intro x hx hxn c hc hm
     by_cases hxi:x=i'
     ·subst hxi;exact hj c hc ((hiff c).2 (.inr hm))
     ·exact hWC x hx (fun h=>((hiff x).1 h).elim hxi hxn) c hc ((hiff c).2 (.inr hm))
    ·intro x hx;have hsz:i' < listed.size:=by
      have:=hl i' hil;exact (Array.getElem?_eq_some_iff.1 this).1
     by_cases hxi:x=i'
     ·subst hxi;rw[Array.getElem?_setIfInBounds_self_of_lt hsz]
      simpa using hni
     ·rw[Array.getElem?_setIfInBounds_ne (fun e=>hxi e.symm),hl x hx];have:(idx (pre++(i',rs)::post)).elem x=(idx (pre++post)).elem x:=by
       rw[Bool.eq_iff_iff];simp only[List.elem_eq_mem,decide_eq_true_eq,hiff];exact ⟨fun h=>h.elim (fun e=>absurd e hxi) id,.inr⟩
      rw[this]
    ·intro p hp;obtain ⟨q1,q2,q3⟩:=hkept p (hsub.subset hp);have hne:base+p.1 ≠ base+i':=fun e=>hni (mem_idx.2 ⟨p,hp,by omega⟩)
     exact ⟨by omega,hold _ q1 hne q2 q3⟩
def cutL (k:Nat):List (Nat × EO)→List (Nat × EO)
 | []=>[]
 | (b,o)::r=>if b<k then (b,o)::cutL k r else cutL k r
def ES.keep (s:ES) (n:Nat):ES:=⟨cutL s.nx s.bl,s.nx+n,s.gl⟩
theorem yNB (k:Nat):∀ (l:List (Nat × EO)) (b:Nat),lkp (cutL k l) b=if b<k then lkp l b else none
 | [],b=>by simp[cutL,lkp]
 | (c,o)::r,b=>by
   simp only[cutL]
   by_cases hc:c<k
   ·simp only[hc,if_true,lkp,yNB k r]
    by_cases h:c=b
    ·subst h;simp[hc]
    ·simp only[h,if_false]
   ·simp only[hc,if_false,lkp,yNB k r]
    by_cases h:c=b
    ·subst h;simp[hc]
    ·simp only[h,if_false]
theorem ES.get_keep (s:ES) (n b:Nat):(s.keep n).get b=if b<s.nx then s.get b else none:=by
 simp only[ES.get,ES.keep,yNB]
 by_cases h:b<s.nx
 ·simp only[h,if_true];rw[if_pos (by omega)]
 ·simp only[h,if_false];split<;>rfl
theorem xVX {pl:List (Nat × List Nat)} (h:xPP P L pl=true):∃ W:List (List Nat),W.length≤L.length∧(∀ j<L.length,wOkB L W j=true)∧pl.length=L.length∧(∀ i<L.length,i∈idx pl)∧(∀ p∈pl,p.1<L.length)∧yDF P L W pl=true:=by
 simp only[xPP,Bool.and_eq_true,List.all_eq_true,List.mem_range,Nat.ble_eq,Nat.blt_eq] at h
 obtain ⟨⟨⟨⟨h1,h0⟩,h2⟩,h3⟩,h4⟩:=h;exact ⟨_,h0,fun j hj=>(h2 j hj).1,Nat.eq_of_beq_eq_true h1,fun i hi=>by simpa [idx] using (h2 i hi).2,h3,h4⟩
theorem esem_draw {k:Nat} {Q:X→Fr→ES→Prop} {fr:Fr} {s:ES} {id:Nat} (hm:P.follows .mixedOrders=true) (pl:List (Nat × List Nat)) (hp:xPP P L pl=true)
  (h:zPY P L s.nx (Q .normal) pl fr (s.keep L.length)):ESem P k (.region id L.toArray true) Q fr s:=by
 intro hk r hr ρ w a hR hF;obtain ⟨W,hWl,hW,hlen,hall,hlt,hpairs⟩:=xVX hp;obtain ⟨hown,hpw⟩:=yPR hpairs;have hR0:Rel0 ρ s { w with drawn:=w.drawn+1 }:=⟨fun b o l hg hl=>by
  have:=hR.live b o l hg hl;exact this.mono (Env.le_refl _) rfl,hR.fresh,hR.sep,hR.dom⟩
 have hG0:GoK k ρ s w ρ s { w with drawn:=w.drawn+1 }:=⟨hR0,fun _ _=>rfl,hk,fun _ _ h=>h,⟨rfl,rfl,rfl,Nat.le_refl _,fun _ _ _=>rfl⟩,fun b o l hg hl=>.inl ⟨b,o,l,hg,hl,rfl,fun e=>e⟩,rfl,hR⟩;have hR':=hG0.rel;have hkeep:=Rel.less (s':=s.keep L.length) hR' (fun b o hg=>by
  rw[ES.get_keep] at hg
  split at hg
  ·exact hg
  ·cases hg) (by simp[ES.keep]) rfl
 have hG:=hG0.trans (hkeep.toK hk);refine wpIn_region_any hm (xRH hk r hW hWl _ pl _ fr _ ρ _ a (by simpa using hlen) hown hpw hlt ?_ ?_ (xXK pl _ _ _ _ h (FEq.refl _) (Ext.refl 0 _)) hG hF ?_)
 ·intro i hi hn;exact absurd (hall i hi) hn
 ·intro i hi;have:=hall i hi;simp[this,hi]
 ·intro p hp;have:=hlt p hp;exact ⟨by simp[ES.keep];omega,by rw[ES.get_keep,if_neg (by omega)],hR.fresh _ (by omega)⟩
end
section
def zWG (s:ES):List (Nat × EO)→Prop
 | []=>True
 | (b,o)::r=>s.get b=some o∧zWG s r
theorem xQP {s:ES}:∀ {l:List (Nat × EO)},zWG s l→∀ {b o},lkp l b=some o→s.get b=some o
 | [],_,b,o,h=>by simp[lkp] at h
 | (c,x)::l,ha,b,o,h=>by
   simp only[lkp] at h
   split at h
   ·rename_i hc;subst hc;cases h;exact ha.1
   ·exact xQP ha.2 h
theorem less_of {s:ES} {l:List (Nat × EO)} {n:Nat} (h:zWG s l) (hb:blBelow n l):Less ⟨l,n,s.gl⟩ s:=⟨fun _ _ hg=>xQP h (ES.get_lt hg).2,hb,rfl⟩
def zQS (fr:Fr):List (Nat × EV)→Prop
 | []=>True
 | (t,v)::r=>fr.lk t=v∧zQS fr r
theorem zNN {fr:Fr}:∀ {l:List (Nat × EV)},zQS fr l→∀ {t v},lkp l t=some v→fr.lk t=v
 | [],_,t,v,h=>by simp[lkp] at h
 | (c,x)::l,ha,t,v,h=>by
   simp only[lkp] at h
   split at h
   ·rename_i hc;subst hc;cases h;exact ha.1
   ·exact zNN ha.2 h
theorem yRH {P:Program} {k:Nat} {c:Code} {Q:X→Fr→ES→Prop} {fr:Fr} {s:ES} (m:List (Nat × EV)) (l:List (Nat × EO)) (n:Nat) (hm:zQS fr m) (hmb:zWP n m) (hl:zWG s l) (hlb:blBelow n l) (hk:k≤n)
  (h:ESem P k c Q ⟨m,.unk,fr.n,fr.ds⟩ ⟨l,n,s.gl⟩):ESem P k c Q fr s:=esem_anew h ⟨rfl,rfl,fun _ _ e=>zNN hm e⟩ hmb (less_of hl hlb) hk
theorem minI_eq (a b:Int):minI a b=min a b:=by unfold minI;split<;>omega
theorem maxI_eq (a b:Int):maxI a b=max a b:=by unfold maxI;split<;>omega
theorem xKY {P:Program} {g:FuncId} {fn:Func} {c:Code} {args:List EV} {s:ES} {Q:ER→ES→Prop} (hf:P.funcs[g]? = some fn) (hb:fn.body=some c) (hname:(fn.name == "runtime.NumGoroutine")=false) (hn:args.length≤fn.ntmps)
  (h:ESem P s.nx c (xJR P fn.results.toList s.nx Q) ⟨yST 0 args,zVP,fn.ntmps,[]⟩ s):ECalls P g args s Q:=by
 intro ρ w args' hR hA;have hcall:(callFunc g args').run P w=.ok (.enter g args') w:=by
  simp only[callFunc,Sem.run_bind,program,Sem.run,Result.andThen_ok,hf,hname,Bool.false_eq_true,if_false,hb,Option.isNone_some];rfl
 rw[hcall];refine callsIn_of_wp_marks (F:=zPK none) hf hb trivial ?_ rfl;refine wpIn_mono (h (Nat.le_refl _) none (.inl rfl) ρ w _ hR (FR.enter hA fn.ntmps hn)) ?_
 rintro e a w' ⟨x,fr',s',ρ',hx,hF,hG,hQ⟩
 exact xVF hF hG hx hQ
end
section
def xVT (m:Nat):List (Nat × EV)→List (Nat × EV)
 | []=>[]
 | (t,v)::r=>if m / 2 ^ t % 2=1 then (t,v)::dropL (xVT m r) t else xVT m r
def Fr.keep (m:Nat) (fr:Fr):Fr:=⟨xVT m fr.m,.unk,fr.n,fr.ds⟩
theorem yRW {m:Nat}:∀ {l:List (Nat × EV)} {t:Nat} {v:EV},lkp (xVT m l) t=some v→lkp l t=some v∧m / 2 ^ t % 2=1
 | [],t,v,h=>by simp[xVT,lkp] at h
 | (k,x)::r,t,v,h=>by
   simp only[xVT] at h
   simp only[lkp]
   by_cases hb:m / 2 ^ k % 2=1
   ·rw[if_pos hb] at h
    simp only[lkp] at h
    by_cases hk:k=t
    ·subst hk;simpa [hb] using h
    ·simp only[hk,if_false] at h ⊢
     rw[zPZ,if_neg hk] at h
     exact yRW h
   ·rw[if_neg hb] at h
    obtain ⟨h1,h2⟩:=yRW h
    by_cases hk:k=t
    ·subst hk;exact absurd h2 hb
    ·simp only[hk,if_false];exact ⟨h1,h2⟩
theorem Fr.keep_weak (m:Nat) (fr:Fr):(fr.keep m).weak fr:=⟨rfl,rfl,fun t v h=>by
 have:=(yRW h).1;simp only[Fr.lk,this]⟩
theorem esem_weak {P:Program} {k:Nat} {c:Code} {Q:X→Fr→ES→Prop} {fr fr':Fr} {s:ES} (hw:fr'.weak fr) (h:ESem P k c Q fr' s):ESem P k c Q fr s:=
 fun hk r hr ρ w a hR hF=>h hk r hr ρ w a hR (hF.weak hw)
variable {P:Program} {k:Nat} {Q:X→Fr→ES→Prop} {fr:Fr} {s:ES}
def xYG (P:Program) (k m:Nat) (y:Code) (Q:X→Fr→ES→Prop):Fr→ES→Prop:=fun fr s=>ESem P k y Q (fr.keep m) s
theorem seqN_ap {m:Nat} {y:Code}:xYG P k m y Q fr s=ESem P k y Q (fr.keep m) s:=rfl
theorem zQQ (m:Nat) {x y:Code} (h:ESem P k x (yBQ (xYG P k m y Q) Q) fr s):ESem P k (.seq x y) Q fr s:=by
 intro hk r hr ρ w a hR hF;refine wpIn_seq (wpIn_mono (h hk r hr.seq1 ρ w a hR hF) ?_)
 rintro e a' w' ⟨ex,fr',s',ρ',hx,hF',hG,hQ⟩
 cases ex with
 | normal=>
   cases hx
   exact wpIn_mono (hQ hG.nx r hr.seq2 ρ' w' a' hG.rel (hF'.weak (Fr.keep_weak _ _))) fun e a w h=>CPost.trans hG h
 | exit i=>cases hx;exact ⟨.exit i,fr',s',ρ',rfl,hF',hG,hQ⟩
 | goto i=>cases hx;exact ⟨.goto i,fr',s',ρ',rfl,hF',hG,hQ⟩
 | ret=>cases hx;exact ⟨.ret,fr',s',ρ',rfl,hF',hG,hQ⟩
 | pan v=>obtain ⟨v',rfl,hv⟩:=hx;exact ⟨.pan v,fr',s',ρ',⟨v',rfl,hv⟩,hF',hG,hQ⟩
theorem esem_reg {id:Nat} {ops:Array Oper} (h:xRP P ops.toList Q ops.toList fr s):ESem P k (.region id ops false) Q fr s:=zKS _ _ _ _ h
theorem zGJ (h:Q .normal fr s):ESem P k .skip Q fr s:=zKS _ _ _ _ h
theorem esem_label {l:Nat} (h:Q .normal fr s):ESem P k (.label l) Q fr s:=zKS _ _ _ _ h
theorem esem_ret (h:Q .ret fr s):ESem P k .ret Q fr s:=zKS _ _ _ _ h
theorem esem_exit {i:Nat} (h:Q (.exit i) fr s):ESem P k (.exit i) Q fr s:=zKS _ _ _ _ h
def csel (P:Program) (k:Nat) (x y:Code) (Q:X→Fr→ES→Prop) (v:EV) (fr:Fr) (s:ES):Prop:=
 match v with
 | .bool b=>zFG b true (ESem P k x Q fr s) (ESem P k y Q fr s)
 | _=>False
theorem esem_cond {c:Operand} {x y:Code} (h:csel P k x y Q (ev fr c) fr s):ESem P k (.cond c x y) Q fr s:=by
 intro hk r hr ρ w a hR hF;unfold csel at h
 split at h
 ·rename_i b hb
  have hc:=hF.ev c;rw[hb,VR] at hc
  cases b with
  | true=>exact wpIn_cond_true hc (h.1 rfl hk r hr.cond1 ρ w a hR hF)
  | false=>exact wpIn_cond_false hc (h.2 rfl hk r hr.cond2 ρ w a hR hF)
 ·exact h.elim
theorem zQW {id:Nat} {x:Code} (h:ESem P k x (InBlk id Q) fr s):ESem P k (.block id x) Q fr s:=by
 intro hk r hr ρ w a hR hF;refine wpIn_block (wpIn_mono (h hk r hr.block ρ w a hR hF) ?_)
 rintro e a' w' ⟨ex,fr',s',ρ',hx,hF',hG,hQ⟩
 cases ex with
 | normal=>cases hx;exact ⟨.normal,fr',s',ρ',rfl,hF',hG,hQ⟩
 | exit i=>
   cases hx
   simp only[InBlk] at hQ
   simp only[Exit.inBlock]
   split at hQ
   ·rename_i hi;rw[if_pos hi];exact ⟨.normal,fr',s',ρ',rfl,hF',hG,hQ⟩
   ·rename_i hi;rw[if_neg hi];exact ⟨.exit i,fr',s',ρ',rfl,hF',hG,hQ⟩
 | goto i=>cases hx;exact ⟨.goto i,fr',s',ρ',rfl,hF',hG,hQ⟩
 | ret=>cases hx;exact ⟨.ret,fr',s',ρ',rfl,hF',hG,hQ⟩
 | pan v=>obtain ⟨v',rfl,hv⟩:=hx;exact ⟨.pan v,fr',s',ρ',⟨v',rfl,hv⟩,hF',hG,hQ⟩
theorem zQH {G:List Gl} {v v':EV} {s:ES} (h:v.bel 0) (e:v=v') (hG:s.gl=G:=by rfl):xXM 0 (fun x s=>x=.ret v'∧s=ES.zero G) (.ret v) s:=
 ⟨ES.zero G,⟨fun b o h=>by simp[ES.zero,ES.get] at h,trivial,hG.symm⟩,Nat.le_refl _,h,by rw[e],rfl⟩
def eopsN (P:Program) (L:List Oper) (Q:X→Fr→ES→Prop) (l:List Oper):Fr→ES→Prop:=xRP P L Q l
theorem eopsN_ap {L l:List Oper}:eopsN P L Q l fr s=xRP P L Q l fr s:=rfl
theorem eops_nil {L:List Oper}:xRP P L Q [] fr s=Q .normal fr s:=rfl
theorem eops_cons {L:List Oper} {o:Oper} {rest:List Oper}:xRP P L Q (o::rest) fr s=(match o.guard with
  | none=>eop P o.op fr s (KO o fr (eopsN P L Q rest)) (KP Q fr)
  | some (j,want)=>match zNS L j with
    | none=>False
    | some t=>match fr.lk t with
      | .bool b=>zFG b want (zZQ P o (fr.put t (.bool want)) s (eopsN P L Q rest) Q) (zJB o (fr.put t (.bool !want)) s (eopsN P L Q rest))
      | .tuple []=>zMY fr.n o.dst∧eopsN P L Q rest (fr.putO o.dst zVP) s
      | _=>False):=rfl
theorem KO_ap {o:Oper} {next:Fr→ES→Prop} {v:EV}:KO o fr next v s=(zMY fr.n o.dst∧next (fr.putO o.dst v) s):=rfl
def zKN (P:Program) (b:Nat) (o:Oper) (fr:Fr) (s:ES) (K:Fr→ES→Prop):Prop:=zBF P b o fr s K
theorem stepG_eq {P:Program} {L:List Oper} {base i:Nat} {K:Fr→ES→Prop} {fr:Fr} {s:ES}:stepG P L base i K fr s=(match L[i]? with
 | none=>False
 | some o=>match o.guard with
   | none=>zBF P (base+i) o fr s K
   | some (j,want)=>match zNS L j with
     | none=>False
     | some t=>match fr.lk t with
       | .bool b=>zFG b want (zKN P (base+i) o fr s K) (zJB o fr s K)
       | .tuple []=>zMY fr.n o.dst∧K (fr.putO o.dst zVP) s
       | _=>False):=by
 unfold stepG
 cases L[i]? with
 | none=>rfl
 | some o=>
   simp only[ySY]
   cases o.guard with
   | none=>rfl
   | some jw=>rfl
def xTV (P:Program) (L:List Oper) (base:Nat) (K:Fr→ES→Prop) (rs:List Nat) (rest:List (Nat × List Nat)):Fr→ES→Prop:=fun fr s=>yBF P L base rs fr s∧zPY P L base K rest fr s
theorem canonN_nil {L:List Oper} {base:Nat} {K:Fr→ES→Prop} {rest:List (Nat × List Nat)}:xTV P L base K [] rest fr s=zPY P L base K rest fr s:=by simp[xTV,yBF]
theorem xJX {L:List Oper} {base:Nat} {K:Fr→ES→Prop} {r:Nat} {rs:List Nat} {rest:List (Nat × List Nat)}:xTV P L base K (r::rs) rest fr s=(yBF P L base (r::rs) fr s∧zPY P L base K rest fr s):=rfl
theorem canon_nil {L:List Oper} {base:Nat} {K:Fr→ES→Prop}:zPY P L base K [] fr s=K fr s:=rfl
theorem canon_cons {L:List Oper} {base:Nat} {K:Fr→ES→Prop} {i:Nat} {rs:List Nat} {rest:List (Nat × List Nat)}:zPY P L base K ((i,rs)::rest) fr s=stepG P L base i (xTV P L base K rs rest) fr s:=rfl
theorem gs_run_t {o:Oper} {n:Fr→ES→Prop} {B:Prop}:zFG true true (zZQ P o fr s n Q) B=eop P o.op fr s (KO o fr n) (KP Q fr):=yMX _ _
theorem gs_run_f {o:Oper} {n:Fr→ES→Prop} {B:Prop}:zFG false false (zZQ P o fr s n Q) B=eop P o.op fr s (KO o fr n) (KP Q fr):=gsel_ff _ _
theorem gs_skip_t {o:Oper} {n:Fr→ES→Prop} {A:Prop}:zFG true false A (zJB o fr s n)=(zMY fr.n o.dst∧n (fr.putO o.dst zVP) s):=gsel_tf _ _
theorem gs_skip_f {o:Oper} {n:Fr→ES→Prop} {A:Prop}:zFG false true A (zJB o fr s n)=(zMY fr.n o.dst∧n (fr.putO o.dst zVP) s):=xVH _ _
theorem gs_step_t {b:Nat} {o:Oper} {n:Fr→ES→Prop} {B:Prop}:zFG true true (zKN P b o fr s n) B=zBF P b o fr s n:=yMX _ _
theorem gs_step_f {b:Nat} {o:Oper} {n:Fr→ES→Prop} {B:Prop}:zFG false false (zKN P b o fr s n) B=zBF P b o fr s n:=gsel_ff _ _
theorem gs_pick_t {K:EV→ES→Prop} {v:EV} {B:Prop}:zFG true true (zRM K v s) B=K v s:=yMX _ _
theorem gs_pick_f {K:EV→ES→Prop} {v:EV} {A:Prop}:zFG false true A (zRM K v s)=K v s:=xVH _ _
theorem gs_code_t {c:Code} {B:Prop}:zFG true true (ESem P k c Q fr s) B=ESem P k c Q fr s:=yMX _ _
theorem gs_code_f {c:Code} {A:Prop}:zFG false true A (ESem P k c Q fr s)=ESem P k c Q fr s:=xVH _ _
theorem esem_loopK (mk:Nat) {c:Code} (I:Nat→Fr→ES→Prop) (n:Nat) (h0:I n fr s)
  (round:∀ n fr s,I n fr s→ESem P k c (yBQ (fun fr' s'=>∃ m,m<n∧I m (fr'.keep mk) s') Q) fr s):ESem P k (.loop c) Q fr s:=by
 intro hk r hr ρ w a hR hF
 let p:Act→World→Nat→Prop:=fun a' w' n=>∃ fr' s' ρ',I n fr' s'∧FR ρ' fr' a'∧GoK k ρ s w ρ' s' w'
 refine wpIn_loop (fun a' w'=>∃ n,p a' w' n) (fun a' w'=>yZM (p a' w')) ⟨n,fr,s,ρ,h0,hF,GoK.refl hR hk⟩ ?_
 rintro a' w' ⟨j,hj⟩
 obtain ⟨fr',s',ρ',hI,hF',hG⟩:=(zPR hj).1;refine wpIn_mono (round _ fr' s' hI hG.nx r hr.loop ρ' w' a' hG.rel hF') ?_
 rintro e a2 w2 ⟨ex,fr2,s2,ρ2,hx,hF2,hG2,hQ⟩
 cases ex with
 | normal=>
   cases hx
   obtain ⟨m,hm,hI2⟩:=hQ;have hp:p a2 w2 m:=⟨_,_,_,hI2,hF2.weak (Fr.keep_weak mk fr2),hG.trans hG2⟩;exact ⟨⟨m,hp⟩,Nat.lt_of_le_of_lt (zPR hp).2 hm⟩
 | exit i=>cases hx;exact ⟨.exit i,fr2,s2,ρ2,rfl,hF2,hG.trans hG2,hQ⟩
 | goto i=>cases hx;exact ⟨.goto i,fr2,s2,ρ2,rfl,hF2,hG.trans hG2,hQ⟩
 | ret=>cases hx;exact ⟨.ret,fr2,s2,ρ2,rfl,hF2,hG.trans hG2,hQ⟩
 | pan v=>obtain ⟨v',rfl,hv⟩:=hx;exact ⟨.pan v,fr2,s2,ρ2,⟨v',rfl,hv⟩,hF2,hG.trans hG2,hQ⟩
def loopN (P:Program) (k m:Nat) (c:Code) (Q:X→Fr→ES→Prop):Nat→Fr→ES→Prop
 | 0,_,_=>False
 | n+1,fr,s=>ESem P k c (yBQ (fun fr s=>loopN P k m c Q n (fr.keep m) s) Q) fr s
def loopB (P:Program) (k m:Nat) (c:Code) (Q:X→Fr→ES→Prop) (n:Nat):Fr→ES→Prop:=fun fr s=>loopN P k m c Q n (fr.keep m) s
theorem loopB_ap {m n:Nat} {c:Code}:loopB P k m c Q (n+1) fr s=ESem P k c (yBQ (loopB P k m c Q n) Q) (fr.keep m) s:=rfl
theorem zZM (m n:Nat) {c:Code} (h:loopB P k m c Q n fr s):ESem P k (.loop c) Q fr s:=by
 refine esem_weak (Fr.keep_weak m fr) (esem_loopK m (fun n fr s=>loopN P k m c Q n fr s) n h ?_);intro n fr s h
 cases n with
 | zero=>exact h.elim
 | succ n=>
   refine ESem.mono h fun x fr s hq=>?_
   cases x with
   | normal=>exact ⟨n,Nat.lt_succ_self n,hq⟩
   | _=>exact hq
def Back {α:Type} (G:List Gl) (F:α→List (Nat × EV)) (B:α→List (Nat × EO)) (R:α→Prop) (μ:α→Nat) (n0:Nat × List Deferred) (a:α) (fr:Fr) (s:ES):Prop:=∃ a',R a'∧μ a' < μ a∧(fr.n,fr.ds)=n0∧s.gl=G∧zQS fr (F a')∧zWG s (B a')
theorem zWK {α:Type} {c:Code} (F:α→List (Nat × EV)) (B:α→List (Nat × EO)) (N:α→Nat) (R:α→Prop) (μ:α→Nat) (a0:α)
  (side:∀ a,R a→zWP (N a) (F a)∧blBelow (N a) (B a)∧k≤N a) (h0:R a0) (hF:zQS fr (F a0)) (hB:zWG s (B a0))
  (round:∀ a,R a→ESem P k c (yBQ (Back s.gl F B R μ (fr.n,fr.ds) a) Q) ⟨F a,.unk,fr.n,fr.ds⟩ ⟨B a,N a,s.gl⟩):ESem P k (.loop c) Q fr s:=by
 obtain ⟨s1,s2,s3⟩:=side a0 h0;refine yRH (F a0) (B a0) (N a0) hF s1 hB s2 s3 ?_;generalize fr.n=n0,fr.ds=d0 at round ⊢
 generalize s.gl=G at round ⊢
 intro hk r hr ρ w a hR hF
 let p:Act→World→Nat→Prop:=fun a' w' n=>∃ x ρ',R x∧μ x=n∧FR ρ' ⟨F x,.unk,n0,d0⟩ a'∧GoK k ρ ⟨B a0,N a0,G⟩ w ρ' ⟨B x,N x,G⟩ w'
 refine wpIn_loop (fun a' w'=>∃ n,p a' w' n) (fun a' w'=>yZM (p a' w')) ⟨μ a0,a0,ρ,h0,rfl,hF,GoK.refl hR hk⟩ ?_
 rintro a' w' ⟨j,hj⟩
 obtain ⟨x,ρ',hx,hμ,hF',hG⟩:=(zPR hj).1;refine wpIn_mono (round x hx hG.nx r hr.loop ρ' w' a' hG.rel hF') ?_
 rintro e a2 w2 ⟨ex,fr2,s2',ρ2,hex,hF2,hG2,hQ⟩
 cases ex with
 | normal=>
   cases hex
   obtain ⟨y,hy,hlt,hn,hgl,hw,hl⟩:=hQ;subst hgl;obtain ⟨t1,t2,t3⟩:=side y hy;have hw':Fr.weak ⟨F y,.unk,n0,d0⟩ fr2:=⟨hn.symm,rfl,fun _ _ e=>zNN hw e⟩;have hp:p a2 w2 (μ y):=⟨y,_,hy,rfl,(hF2.weak hw').cut t1 (.inl rfl),(hG.trans hG2).less _ (less_of hl t2) t3⟩;exact ⟨⟨_,hp⟩,Nat.lt_of_le_of_lt (zPR hp).2 (hμ ▸ hlt)⟩
 | exit i=>cases hex;exact ⟨.exit i,fr2,s2',ρ2,rfl,hF2,hG.trans hG2,hQ⟩
 | goto i=>cases hex;exact ⟨.goto i,fr2,s2',ρ2,rfl,hF2,hG.trans hG2,hQ⟩
 | ret=>cases hex;exact ⟨.ret,fr2,s2',ρ2,rfl,hF2,hG.trans hG2,hQ⟩
 | pan v=>obtain ⟨v',rfl,hv⟩:=hex;exact ⟨.pan v,fr2,s2',ρ2,⟨v',rfl,hv⟩,hF2,hG.trans hG2,hQ⟩
theorem ecalls_in {P:Program} {g:FuncId} {fn:Func} {c:Code} {args:List EV} {s:ES} {Q:ER→ES→Prop} (n:Nat) (rs:List ResultVar) (hf:P.funcs[g]? = some fn) (hb:fn.body=some c) (hn:fn.ntmps=n) (hr:fn.results.toList=rs)
  (hname:(fn.name == "runtime.NumGoroutine")=false) (hl:args.length≤n) (h:ESem P s.nx c (xJR P rs s.nx Q) ⟨yST 0 args,zVP,n,[]⟩ s):ECalls P g args s Q:=by
 subst hn;subst hr;exact xKY hf hb hname hl h
theorem le_ble {a b:Nat} (h:Nat.ble a b=true):a≤b:=Nat.le_of_ble_eq_true h
theorem zQV {P:Program} {g:FuncId} {fn:Func} {c:Code} {args:List EV} {s:ES} {Q:ER→ES→Prop} (n:Nat) (rs:List ResultVar) (hf:P.funcs[g]? = some fn) (h:ESem P s.nx c (xJR P rs s.nx Q) ⟨yST 0 args,zVP,n,[]⟩ s)
  (hb:fn.body=some c:=by exact rfl) (hn:fn.ntmps=n:=by exact rfl) (hr:fn.results.toList=rs:=by exact rfl) (hname:(fn.name == "runtime.NumGoroutine")=false:=by kernel_rfl) (hl:args.length≤n:=by exact le_ble rfl):ECalls P g args s Q:=
 ecalls_in n rs hf hb hn hr hname hl h
theorem zWV {id:Nat} {L:List Oper} (hm:P.follows .mixedOrders=true) (pl:List (Nat × List Nat)) (hp:xPP P L pl=true)
  (h:zPY P L s.nx (Q .normal) pl fr (s.keep L.length)):ESem P k (.region id L.toArray true) Q fr s:=esem_draw hm pl hp h
theorem zXP {G:List Gl} {P:Program} {g:FuncId} {args:List EV} {v:EV} (h:∀ V,V=v→Pure G P g args V):Pure G P g args v:=h v rfl
theorem zQT {a b:Prop} (h:a) (k:b):a∧b:=⟨h,k⟩
attribute [go_sem ↓] reduceIte
attribute [go_sem] zQK Int.reduceDiv Int.reduceMod Int.reduceTDiv Int.reduceTMod decide_true decide_false eq_self not_false_eq_true
attribute [go_sem] List.all_cons List.all_nil Bool.and_true Bool.and_self Nat.reduceAdd Nat.reduceMul Nat.reduceSub Nat.reduceEqDiff Nat.reduceLT Nat.reduceLeDiff Int.reduceToNat Int.reduceLE Int.reduceLT Int.reduceNeg Int.reduceEq Int.reduceAdd Int.reduceMul Int.reduceSub Nat.reducePow Nat.reduceDiv Nat.reduceMod ne_eq not_true_eq_false not_false_eq_true reduceCtorEq if_true if_false true_and and_true List.map List.map_cons List.map_nil List.length_cons List.length_nil List.getElem?_cons_zero List.getElem?_cons_succ List.drop List.take List.drop_zero List.drop_succ_cons List.take_succ_cons List.take_zero List.cons_append List.nil_append List.append_nil Bool.not_true Bool.not_false Bool.false_eq_true forall_const decide_eq_true_eq decide_eq_false_iff_not false_implies true_implies implies_true Nat.zero_add Nat.add_zero Nat.one_mul Nat.mul_one Int.cast_ofNat_Int Option.some.injEq forall_eq'
theorem elenE:(∀ {a b:Nat} {z:List EV} {t:List UInt8} {s:ES} {K:EV→Prop},xZQ ⟨.str,a,b,z⟩ (.str t) s K=K (.int .i64 t.length))∧(∀ {n e a b:Nat} {z:List EV} {v:EV} {s:ES} {K:EV→Prop},xZQ ⟨.arr n e,a,b,z⟩ v s K=K (.int .i64 n)) ∧
  (∀ {e a b n c:Nat} {x:Option EA} {z:List EV} {s:ES} {K:EV→Prop},xZQ ⟨.slice e,a,b,z⟩ (.slice x n c) s K=K (.int .i64 n))∧(∀ {k e a b:Nat} {z:List EV} {s:ES} {K:EV→Prop},xZQ ⟨.map k e,a,b,z⟩ (.map none) s K=K (.int .i64 0)) ∧
  (∀ {k e a b r:Nat} {z:List EV} {s:ES} {K:EV→Prop},xZQ ⟨.map k e,a,b,z⟩ (.map (some r)) s K=match s.get r with
   | some (.map es)=>K (.int .i64 es.length)
   | _=>False):=⟨rfl,by intros;rename_i v s K;cases v<;>rfl,rfl,rfl,rfl⟩
attribute [go_sem] loopB_ap seqN_ap eopsN_ap eops_nil eops_cons KO_ap stepG_eq canonN_nil xJX canon_nil canon_cons gs_run_t gs_run_f gs_skip_t gs_skip_f gs_step_t gs_step_f gs_pick_t gs_pick_f gs_code_t gs_code_f csel Fr.keep xVT dropL minI_eq maxI_eq List.set_cons_zero List.set_cons_succ eop Fr.lk Fr.put Fr.putO lkp yBQ InBlk zMY ev ofV xKR ebin ebinI eun econv xJR zSV yMY yNX yST yND xQQ zMJ zMX yTW zSK zHT elenE zNZ yRF xKZ yRM yMP xWH eNew eBox zKK zVN yXV zGP yMK zNX allTi zWT yDS EV.cells EV.known UT.agg zVP ES.get ES.set ES.new ES.nx ES.bl setL zNS KC ES.zero EV.one zBF cls convP eopA yBF ySK zKR ES.keep cutL ES.add KF
end
section
theorem Rel.moveTo {ρ:Env} {s:ES} {w w':World} (h:Rel ρ s w) (b:Nat) (o:EO) (l:Loc) (hg:s.get b=some o) (hr:ρ b=some l) (hw:o.wr=true)
  (hos:w'.os=w.os) (htape:w'.tape=w.tape) (hout:w'.output=w.output) (hsize:w'.heap.size=w.heap.size) (hold:∀ r,r ≠ l.r→w'.heap[r]? = w.heap[r]?)
  (l':Loc) (hl':l'.r=l.r) (o':EO) (hbr:BR (fun i=>if i=s.nx then some l' else ρ i) w' l' o') :
  Go1 ρ s w (fun i=>if i=s.nx then some l' else ρ i) ((s.kill b).new o') w':=by
 have hle:ρ.le (fun i=>if i=s.nx then some l' else ρ i):=fun c l2 hc=>by
  by_cases hx:c=s.nx
  ·rw[h.fresh c (by omega)] at hc;cases hc
  ·simp[hx,hc]
 have hget:∀ c x,((s.kill b).new o').get c=some x→(c=s.nx∧x=o')∨(c ≠ s.nx∧c ≠ b∧s.get c=some x):=by
  intro c x hx;rw[ES.get_new] at hx
  by_cases hc:(s.kill b).nx=c
  ·subst hc;simp at hx;exact .inl ⟨rfl,hx.symm⟩
  ·simp only[hc,if_false] at hx
   rw[ES.get_kill] at hx
   by_cases hbc:b=c
   ·simp[hbc] at hx
   ·simp only[hbc,if_false] at hx
    exact .inr ⟨fun e=>hc e.symm,fun e=>hbc e.symm,hx⟩
 refine ⟨⟨?_,?_,?_,?_⟩,fun i hi=>by simp[show ¬ i=s.nx by omega],by simp[ES.new,ES.kill],h,fun c hc hn=>?_,⟨hos,htape,hout,by omega,fun r _ ho=>hold r (fun e=>ho ⟨b,o,l,hg,hr,hw,e.symm⟩)⟩,?_,rfl⟩
 ·intro c x l2 hx hl2
  rcases hget c x hx with ⟨rfl,rfl⟩ | ⟨hne,hnb,hx'⟩
  ·simp at hl2;subst hl2;exact hbr
  ·simp only[hne,if_false] at hl2
   exact (h.live c x l2 hx' hl2).mono hle (hold _ (fun e=>h.sep b c o x l l2 hg hx' hr hl2 (fun e=>hnb e.symm) hw e.symm))
 ·intro i hi;have:¬ i=s.nx:=by simp only[ES.new,ES.kill] at hi;omega
  simp only[this,if_false];exact h.fresh i (by simp only[ES.new,ES.kill] at hi;omega)
 ·intro c c' x x' l1 l2 hx hx' hl1 hl2 hne hwx
  rcases hget c x hx with ⟨rfl,rfl⟩ | ⟨hn1,hb1,hx1⟩
  ·simp at hl1;subst hl1
   rcases hget c' x' hx' with ⟨rfl,rfl⟩ | ⟨hn2,hb2,hx2⟩
   ·exact absurd rfl hne
   ·simp only[hn2,if_false] at hl2
    rw[hl'];exact h.sep b c' o x' l l2 hg hx2 hr hl2 (fun e=>hb2 e.symm) hw
  ·simp only[hn1,if_false] at hl1
   rcases hget c' x' hx' with ⟨rfl,rfl⟩ | ⟨hn2,hb2,hx2⟩
   ·simp at hl2;subst hl2
    rw[hl'];exact h.sep c b x o l1 l hx1 hg hl1 hr hb1 hwx
   ·simp only[hn2,if_false] at hl2
    exact h.sep c c' x x' l1 l2 hx1 hx2 hl1 hl2 hne hwx
 ·intro c x hx
  rcases hget c x hx with ⟨rfl,rfl⟩ | ⟨hne,hnb,hx'⟩
  ·exact ⟨_,if_pos rfl⟩
  ·obtain ⟨l2,hl2⟩:=h.dom c x hx';exact ⟨l2,by simp only[hne,if_false];exact hl2⟩
 ·rw[ES.get_new,if_neg (by simp only[ES.kill];omega),ES.get_kill]
  split
  ·rfl
  ·exact hn
 ·intro c x l2 hx hl2
  rcases hget c x hx with ⟨rfl,rfl⟩ | ⟨hne,hnb,hx'⟩
  ·simp at hl2;subst hl2
   exact .inl ⟨b,o,l,hg,hr,hl'.symm,fun _=>hw⟩
  ·simp only[hne,if_false] at hl2
   exact .inl ⟨c,x,l2,hx',hl2,rfl,id⟩
def srcE (size:Nat) (x:EV) (s:ES):Option (Nat × List EV):=
 match x with
 | .slice none _ _=>some (0,[])
 | .slice (some a) n _=>match s.get a.b with
   | some (.cells c _ _ _ _)=>if a.o+n*size≤c.length then some (n,(c.drop a.o).take (n*size)) else none
   | _=>none
 | .str l=>if size=1 then some (l.length,zQZ l) else none
 | _=>none
theorem zRH {P:Program} {ρ:Env} {s:ES} {w:World} {size n:Nat} {x:EV} {x':Value} {nc:List EV} (hR:Rel ρ s w) (h:srcE size x s=some (n,nc)) (hx:VR ρ x x') :
  (Builtin.lenOf x').run P w=.ok n w∧(∃ news:Array Value,(Builtin.firstCells size n x').run P w=.ok news w∧VRs ρ nc news.toList):=by
 unfold srcE at h
 split at h
 ·obtain ⟨rfl,rfl⟩:=by simpa using h
  rw[VR] at hx;obtain ⟨rfl,rfl,rfl⟩:=hx
  exact ⟨rfl,#[],by simp[Builtin.firstCells],VRs.nil⟩
 ·rename_i a m cap
  split at h
  ·rename_i c t z wr fz hg
   split at h
   ·rename_i hle
    obtain ⟨rfl,rfl⟩:=by simpa using h
    refine ⟨?_,zFJ hR hg hx (Nat.le_refl _) hle⟩;rw[VR] at hx
    obtain ⟨l,c',o',hl,hcap,hlc,ho',rfl⟩:=hx;rfl
   ·cases h
  ·cases h
 ·rename_i l
  split at h
  ·rename_i h1
   subst h1;obtain ⟨rfl,rfl⟩:=by simpa using h
   rw[VR] at hx;subst hx
   refine ⟨by simp[Builtin.lenOf,zPM],(l.map fun b=>Value.int .u8 b.toNat).toArray,?_,by simpa using yHN l⟩;simp only[Builtin.firstCells,Sem.run_pure];have:(ByteArray.mk l.toArray).extract 0 l.length=ByteArray.mk l.toArray:=by
    have:=ByteArray.extract_zero_size (b:=ByteArray.mk l.toArray)
    rwa [zPM] at this
   rw[this]
   congr 1
   apply Array.ext'
   simp
  ·cases h
 ·cases h
theorem Rel.drew {ρ:Env} {s:ES} {w:World} (h:Rel ρ s w):Go1 ρ s w ρ s w.drew:=
 ⟨⟨fun b o l hg hl=>(h.live b o l hg hl).mono (Env.le_refl _) rfl,h.fresh,h.sep,h.dom⟩,fun _ _=>rfl,Nat.le_refl _,h,fun _ _ q=>q,⟨rfl,rfl,rfl,Nat.le_refl _,fun _ _ _=>rfl⟩,fun b o l hg hl=>.inl ⟨b,o,l,hg,hl,rfl,id⟩,rfl⟩
theorem Rel.newRoom {ρ:Env} {s:ES} {w:World} (hR:Rel ρ s w) (c:List EV) (cs:Array Value) (t:TypeId) (z k:Nat) (hz:z ≠ 0) (hk:c.length≤k) (hcs:k≤cs.size) (hc:VRs ρ c (cs.toList.take c.length)) :
  Go1 ρ s w (fun i=>if i=s.nx then some ⟨w.heap.size,0,c.length,k,z⟩ else ρ i) (s.new (.cells c t z true 0)) (w.alloc (.cells cs t)):=by
 refine hR.new _ _ ⟨w.heap.size,0,c.length,k,z⟩ rfl ?_;have hle:ρ.le (fun i=>if i=s.nx then some ⟨w.heap.size,0,c.length,k,z⟩ else ρ i):=fun b l' hb=>by
  by_cases hx:b=s.nx
  ·rw[hR.fresh b (by omega)] at hb;cases hb
  ·simp[hx,hb]
 refine ⟨rfl,rfl,fun h=>absurd h hz,hk,cs,(0,0),?_,⟨by simpa using hcs,fun _ q=>absurd q hz⟩,fun i v hi=>?_,fun _ i _ _=>by simp[free]⟩
 ·simp only[World.alloc,Array.getElem?_push,if_true]
 ·obtain ⟨v',a,b⟩:=hc.get i v hi;have hlt:i<c.length:=(List.getElem?_eq_some_iff.1 hi).1;simp only[List.getElem?_take,hlt,if_true] at a
  exact ⟨v',by simpa using a,b.mono hle⟩
def ySM (j:TI) (e:TypeId) (n:Nat) (nc:List EV) (x:EV) (s:ES) (K:EV→ES→Prop):Prop:=
 match x with
 | .slice none _ _=>if n=0 then K (.slice none 0 0) s else (n*j.bytes≤140737488355328∧n≤9223372036854775807)∧K (.slice (some ⟨s.nx,0⟩) n n) (s.new (.cells nc e j.size true 0))
 | .slice (some a) len cap=>match s.get a.b with
   | some (.cells c t z wr fz)=>
     if len+n≤cap then (wr=true∧fz≤a.o+len*j.size∧nc.all EV.one=true∧a.o+(len+n)*j.size≤c.length)∧K (.slice (some a) (len+n) cap) (s.set a.b (.cells (zZH c (a.o+len*j.size) nc) t z true fz))
     else (len≤cap∧a.o+len*j.size≤c.length∧(len+n)*j.bytes≤140737488355328∧len+n≤9223372036854775807) ∧
      if z=0∨(z=j.size∧a.o+cap*j.size ≠ c.length) then K (.slice (some ⟨s.nx,0⟩) (len+n) (len+n)) (s.new (.cells ((c.drop a.o).take (len*j.size)++nc) e j.size true 0))
      else (wr=true∧fz≤a.o∧z=j.size∧nc.all EV.one=true∧t=e)∧K (.slice (some ⟨s.nx,0⟩) (len+n) (len+n)) ((s.kill a.b).new (.cells ((c.drop a.o).take (len*j.size)++nc) e j.size true 0))
   | _=>False
 | _=>False
def xVZ (P:Program):List TypeId→Prop
 | []=>True
 | u::_=>match zXZ P u with
   | some k=>match k.u with
     | .str | .slice _=>True
     | _=>False
   | none=>False
def yVK (P:Program) (ts:List TypeId) (x y:EV) (s:ES) (K:EV→ES→Prop):Prop:=
 match ts with
 | t::us=>match zXZ P t with
   | some i=>match i.u with
     | .slice e=>match zXZ P e with
       | some j=>(xVZ P us∧0<j.size∧j.zero.length=j.size)∧match srcE j.size y s with
         | some (n,nc)=>nc.length=n*j.size∧ySM j e n nc x s K
         | none=>False
       | none=>False
     | _=>False
   | none=>False
 | []=>False
theorem zDM {P:Program} {w:World} {ts:Array TypeId} {ty:TypeId} {args:Array Value} {t e:TypeId} {us:List TypeId} {x':Value} {base:Option Addr} {sLen sCap n:Nat} {news:Array Value} {j:TI} {inf:TypeInfo} {d:TypeDesc} {z:Value}
  (h0:ts.toList=t::us) (ht:P.underlying t=some (.slice e)) (hnz:xVZ P us) (ha:args = #[.slice base sLen sCap,x']) (T:TIs P e j inf d z)
  (hlen:∀ w,(Builtin.lenOf x').run P w=.ok n w) (hnew:(Builtin.firstCells j.size n x').run P w=.ok news w) :
  (sLen+n≤sCap→(Builtin.append_ ts ty args).run P w=(match base with | some a=>(do storeCells (a.add (sLen*j.size)) news.toList;pure (.slice base (sLen+n) sCap):Sem Value).run P w | none=>.ok (.slice base (sLen+n) sCap) w)) ∧
  (¬ sLen+n≤sCap→sLen+n≤9223372036854775807→(sLen+n)*j.bytes≤140737488355328→∀ olds news2:Array Value,(Builtin.firstCells j.size sLen (.slice base sLen sCap)).run P w.drew=.ok olds w.drew→(Builtin.firstCells j.size n x').run P w.drew=.ok news2 w.drew →
   ∃ nc,sLen+n≤nc∧(Builtin.append_ ts ty args).run P w=.ok (.slice (some ⟨w.heap.size,0,none⟩) (sLen+n) nc) (w.drew.alloc (.cells (olds++news2++Builtin.zeroCells z.cells (nc - (sLen+n))) e))):=by
 obtain ⟨l⟩:=ts;simp only at h0
 subst h0;subst ha;have hu:us=[]∨∃ u us',us=u::us'∧(P.underlying u=some .string∨∃ x,P.underlying u=some (.slice x)):=by
  cases us with
  | nil=>exact .inl rfl
  | cons u us=>
    simp only[xVZ] at hnz
    split at hnz
    ·rename_i k hk
     obtain ⟨inf2,d2,z2,T2⟩:=zQG hk;refine .inr ⟨u,us,rfl,?_⟩;have hU:=T2.u;have hd:=T2.und
     split at hnz
     ·rename_i hx;rw[hx] at hU;cases d2<;>simp[zRY] at hU;exact .inl hd
     ·rename_i hx;rw[hx] at hU;cases d2<;>simp[zRY] at hU;exact .inr ⟨_,hd⟩
     ·exact hnz.elim
    ·exact hnz.elim
 constructor
 ·intro hc
  rcases hu with rfl | ⟨u,us',rfl,hd | ⟨x,hd⟩⟩
  ·cases base<;>simp[Builtin.append_,run_underlying ht,T.run_size w,hlen w,hc,hnew]
  ·cases base<;>simp[Builtin.append_,run_underlying ht,run_underlying hd,T.run_size w,hlen w,hc,hnew]
  ·cases base<;>simp[Builtin.append_,run_underlying ht,run_underlying hd,T.run_size w,hlen w,hc,hnew]
 ·intro hc h63 hby olds news2 ho hn;have hb:inf.bytes=j.bytes:=T.bytes.symm;have hs:inf.size=j.size:=T.size.symm;have h63':¬ (9223372036854775807<((sLen:Int)+(n:Int))):=by omega
  have h48':¬ (281474976710656<Builtin.nextslicecap (sLen+n) sCap*j.bytes):=by
   have:=growslice_fits (need:=sLen+n) (old:=sCap) (by omega) hby;omega
  refine ⟨grownCap w (sLen+n) sCap e,?_,?_⟩
  ·unfold grownCap Question.cut;simp only;omega
  rcases hu with rfl | ⟨u,us',rfl,hd | ⟨x,hd⟩⟩
  ·simp[Builtin.append_,run_underlying ht,T.run_size w,typeInfo,T.info,hb,hlen w,hc,h63',h48',Question.forced,ho,hn,zeroValue,T.zero,newRow,grownCap]
  ·simp[Builtin.append_,run_underlying ht,run_underlying hd,T.run_size w,typeInfo,T.info,hb,hlen w,hc,h63',h48',Question.forced,ho,hn,zeroValue,T.zero,newRow,grownCap]
  ·simp[Builtin.append_,run_underlying ht,run_underlying hd,T.run_size w,typeInfo,T.info,hb,hlen w,hc,h63',h48',Question.forced,ho,hn,zeroValue,T.zero,newRow,grownCap]
theorem zDP (z:Array Value) (n:Nat):(Builtin.zeroCells z n).size=n*z.size:=by simp[Builtin.zeroCells]
theorem VRs.one {ρ:Env}:∀ {vs:List EV} {vs':List Value},VRs ρ vs vs'→vs.all EV.one=true→∀ v∈vs',v.oneCell'=true
 | [],_,h,_=>by rw[VRs] at h;subst h;simp
 | x::xs,_,h,ha=>by
   rw[VRs] at h;obtain ⟨v',l',rfl,a,b⟩:=h
   simp only[List.all_cons,Bool.and_eq_true] at ha
   intro v hv
   rcases List.mem_cons.1 hv with rfl | hv
   ·exact a.one ha.1
   ·exact VRs.one b ha.2 v hv
theorem zHB {P:Program} {ρ:Env} {s:ES} {w:World} (hR:Rel ρ s w) {b:Nat} {c:List EV} {t:TypeId} {z fz:Nat} {l:Loc} (hg:s.get b=some (.cells c t z true fz)) (hr:ρ b=some l) {o:Nat} {nc:List EV} {news:List Value} (hnc:VRs ρ nc news)
  (hone:∀ v∈news,v.oneCell'=true) (hfz:fz≤o) (hle:o+nc.length≤c.length):∃ w',(storeCells ⟨l.r,o+l.d,none⟩ news).run P w=.ok () w'∧Go1 ρ s w ρ (s.set b (.cells (zZH c o nc) t z true fz)) w':=by
 obtain ⟨h1,h2,h3,h4,cs,fr,hh,hsz,h7,h8⟩:=hR.live _ _ _ hg hr;have hnl:=hnc.length;obtain ⟨w',cs',e1,e2,e3,e4,e5,e6,e7,e8,e9⟩:=zSW (P:=P) (r:=l.r) (t:=t) (fr:=fr) (o0:=o+l.d) news 0 cs w hh (by omega)
  (fun j hj=>by have:=h8 rfl (o+j) (by omega) (by omega);rwa [show o+l.d+0+j=l.d+(o+j) by omega]) hone
 have hbr:BR ρ w' l (.cells (zZH c o nc) t z true fz):=by
  have hpl:(zZH c o nc).length=c.length:=by simp[zZH];omega
  refine ⟨by rw[hpl];exact h1,h2,h3,h4,cs',fr,e2,⟨by omega,fun q1 q2=>by have:=hsz.2 q1 q2;exact ⟨this.1,by omega⟩⟩,fun j u hj=>?_,h8⟩;rw[yBD _ _ _ (by omega)] at hj
  rw[e4]
  by_cases hin:o≤j∧j<o+nc.length
  ·rw[if_pos hin] at hj
   obtain ⟨u',hu',hru⟩:=hnc.get _ u hj;refine ⟨u',?_,hru⟩;rw[if_pos (by omega),← hu']
   congr 1;omega
  ·rw[if_neg hin] at hj
   obtain ⟨u',hu',hru⟩:=h7 j u hj;refine ⟨u',?_,hru⟩;rw[if_neg (by omega)];exact hu'
 exact ⟨w',e1,hR.turn b _ _ l hg hr rfl e5 e6 e7 e8 e9 hbr rfl⟩
theorem yGX {P:Program} {ρ:Env} {s:ES} {w:World} (hR:Rel ρ s w) {b:Nat} {c:List EV} {t:TypeId} {z fz:Nat} {l:Loc} (hg:s.get b=some (.cells c t z true fz)) (hr:ρ b=some l) {a m:Nat} {nc:List EV} {news:List Value} (hnc:VRs ρ nc news)
  (hone:∀ v∈news,v.oneCell'=true) (hz:z ≠ 0) (hfz:fz≤a) (hle:a+m≤c.length) (hroom:a+m+nc.length≤l.e) :
  ∃ w',(storeCells ⟨l.r,a+m+l.d,none⟩ news).run P w=.ok () w'∧Go1 ρ s w (fun i=>if i=s.nx then some ⟨l.r,l.d+a,m+nc.length,l.e - a,z⟩ else ρ i) ((s.kill b).new (.cells ((c.drop a).take m++nc) t z true 0)) w':=by
 obtain ⟨h1,h2,h3,h4,cs,fr,hh,hsz,h7,h8⟩:=hR.live _ _ _ hg hr;have hnl:=hnc.length;obtain ⟨w',cs',e1,e2,e3,e4,e5,e6,e7,e8,e9⟩:=zSW (P:=P) (r:=l.r) (t:=t) (fr:=fr) (o0:=a+m+l.d) news 0 cs w hh (by omega)
  (fun j hj=>by have:=h8 rfl (a+m+j) (by omega) (by omega);rwa [show a+m+l.d+0+j=l.d+(a+m+j) by omega]) hone
 have hle':ρ.le (fun i=>if i=s.nx then some ⟨l.r,l.d+a,m+nc.length,l.e - a,z⟩ else ρ i):=fun x l' hx=>by
  by_cases h:x=s.nx
  ·rw[hR.fresh x (by omega)] at hx;cases hx
  ·simp[h,hx]
 refine ⟨w',e1,hR.moveTo b _ l hg hr rfl e5 e6 e7 e8 e9 ⟨l.r,l.d+a,m+nc.length,l.e - a,z⟩ rfl _ ?_⟩;have hml:((c.drop a).take m).length=m:=by simp;omega
 refine ⟨by simp;omega,rfl,fun q=>absurd q hz,by simp;omega,cs',fr,e2,⟨by simp;omega,fun _ q=>absurd q hz⟩,fun j u hj=>?_,fun _ i _ hi=>?_⟩
 ·simp only;rw[List.getElem?_append] at hj
  rw[e4]
  by_cases hjm:j<m
  ·rw[if_pos (by omega)] at hj
   rw[if_neg (by omega)];simp only[List.getElem?_take,List.getElem?_drop,hjm,if_true] at hj
   obtain ⟨u',hu',hru⟩:=h7 _ u hj;exact ⟨u',by rw[show l.d+a+j=l.d+(a+j) by omega];exact hu',hru.mono hle'⟩
  ·rw[if_neg (by omega),hml] at hj
   obtain ⟨u',hu',hru⟩:=hnc.get _ u hj;have:j - m<nc.length:=(List.getElem?_eq_some_iff.1 hj).1;refine ⟨u',?_,hru.mono hle'⟩;rw[if_pos (by omega),← hu']
   congr 1;omega
 ·simp only at hi
  have:=h8 rfl (a+i) (by omega) (by omega)
  simpa [Nat.add_assoc] using this
theorem xJK {P:Program} {ρ:Env} {s:ES} {w:World} {K:EV→ES→Prop} {ts:Array TypeId} {ty t e:TypeId} {us:List TypeId} {x:EV} {y:EV} {x' y':Value} {j:TI} {n:Nat} {nc:List EV}
  (hR:Rel ρ s w) (h0:ts.toList=t::us) (ht:P.underlying t=some (.slice e)) (hnz:xVZ P us) (hj:zXZ P e=some j) (hpos:0<j.size) (hzero:j.zero.length=j.size) (hsrc:srcE j.size y s=some (n,nc)) (hncl:nc.length=n*j.size)
  (h:ySM j e n nc x s K) (hx:VR ρ x x') (hy:VR ρ y y'):RunV P ρ s w (Builtin.append_ ts ty #[x',y']) K:=by
 obtain ⟨inf,d,z,T⟩:=zQG hj;have hlen:∀ w,(Builtin.lenOf y').run P w=.ok n w:=by
  obtain ⟨h1,_⟩:=zRH (P:=P) hR hsrc hy;intro w2
  cases y' <;> simp[Builtin.lenOf] at h1 ⊢ <;> exact h1
 obtain ⟨_,news,hnew,hnr⟩:=zRH (P:=P) hR hsrc hy;have hD:=hR.drew;obtain ⟨_,news2,hnew2,hnr2⟩:=zRH (P:=P) hD.rel hsrc hy;have hzs:z.cells.size=j.size:=by rw[← hzero,T.cells];simp
 -- a new block
 have grow:∀ (base:Option Addr) (sLen sCap:Nat) (olds:Array Value) (oldE:List EV) (s1:ES),x'=.slice base sLen sCap→¬ sLen+n≤sCap→sLen+n≤9223372036854775807→(sLen+n)*j.bytes≤140737488355328 →
   (Builtin.firstCells j.size sLen (.slice base sLen sCap)).run P w.drew=.ok olds w.drew→VRs ρ oldE olds.toList→oldE.length=sLen*j.size→Go1 ρ s w.drew ρ s1 w.drew→s1.nx=s.nx →
   K (.slice (some ⟨s.nx,0⟩) (sLen+n) (sLen+n)) (s1.new (.cells (oldE++nc) e j.size true 0))→RunV P ρ s w (Builtin.append_ ts ty #[x',y']) K:=by
  rintro base sLen sCap olds oldE s1 rfl hc h63 hby hold hor hol hg1 hnx hK
  obtain ⟨cap,hge,hrun⟩:=(zDM (w:=w) (ty:=ty) h0 ht hnz rfl T (fun w=>hlen w) hnew (base:=base) (sLen:=sLen) (sCap:=sCap)).2 hc h63 hby olds news2 hold hnew2;have hols:olds.size=sLen*j.size:=by have:=hor.length;simpa [hol] using this
  have hnws:news2.size=n*j.size:=by have:=hnr2.length;simpa [hncl] using this
  have hmul:(sLen+n)*j.size=sLen*j.size+n*j.size:=Nat.add_mul _ _ _;have hcap:cap*j.size=(sLen+n)*j.size+(cap - (sLen+n))*j.size:=by rw[← Nat.add_mul];congr 1;omega
  have hG:=hg1.trans (hg1.rel.newRoom (oldE++nc) (olds++news2++Builtin.zeroCells z.cells (cap - (sLen+n))) e j.size (cap*j.size) (by omega) (by simp[hol,hncl];omega) (by simp[zDP,hzs,hols,hnws];omega) (by
   have:(olds++news2++Builtin.zeroCells z.cells (cap - (sLen+n))).toList.take (oldE++nc).length=olds.toList++news2.toList:=by
    rw[Array.toList_append,Array.toList_append,List.take_left' (by simp[hols,hnws,hol,hncl])]
   rw[this];exact hor.append hnr2))
  refine ⟨.slice (some ⟨s.nx,0⟩) (sLen+n) (sLen+n),_,_,_,_,hrun,?_,hD.trans hG,hK⟩;rw[VR];refine ⟨_,cap,0,by rw[hnx];exact if_pos rfl,.inr ⟨by simp;omega,by simp[hol,hncl];omega,hge,by simp⟩,Nat.le_refl _,.inl rfl,rfl⟩
 unfold ySM at h
 split at h
 ·rename_i l0 c0
  have hx':=hx;rw[VR] at hx'
  obtain ⟨rfl,rfl,rfl⟩:=hx'
  split at h
  ·rename_i hn0
   subst hn0;have:=(zDM (w:=w) (ty:=ty) h0 ht hnz rfl T (fun w=>hlen w) hnew (base:=none) (sLen:=0) (sCap:=0)).1 (by omega);exact RunV.pure (v:=.slice none 0 0) hR this (by rw[VR];simp) h
  ·rename_i hn0
   obtain ⟨⟨h1,h2⟩,hK⟩:=h;refine grow none 0 0 #[] [] s rfl (by omega) (by omega) (by simpa using h1) (by simp[Builtin.firstCells]) VRs.nil (by simp) (Go1.refl hD.rel) rfl (by simpa using hK)
 ·rename_i a len cap
  split at h
  ·rename_i c t' z' wr fz hg
   have hx':=hx;rw[VR] at hx'
   obtain ⟨l,c',o',hl,hcap,hlc,ho',rfl⟩:=hx';have hb:=hR.live _ _ _ hg hl;obtain ⟨b1,b2,b3,b4,cs,fr,b5,b6,b7,b8⟩:=hb;have hcl:=hcap.le
   split at h
   ·-- there is room, as is known
    rename_i hroom
    obtain ⟨⟨hwr,hfz,hone,hle⟩,hK⟩:=h;subst hwr;have hrun:=(zDM (w:=w) (ty:=ty) h0 ht hnz rfl T (fun w=>hlen w) hnew (base:=some ⟨l.r,o',none⟩) (sLen:=len) (sCap:=c')).1 (by omega);have hmul:(len+n)*j.size=len*j.size+n*j.size:=Nat.add_mul _ _ _;obtain ⟨w',q1,q2⟩:=zHB (P:=P) hR hg hl hnr (VRs.one hnr hone) hfz (by omega);have hst:(storeCells ((⟨l.r,o',none⟩:Addr).add (len*j.size)) news.toList).run P w=.ok () w':=by
     by_cases hn0:n=0
     ·subst hn0;have hnl:=hnr.length;have:news.toList=[]:=List.eq_nil_of_length_eq_zero (by omega);rw[this] at q1 ⊢
      exact q1
     ·have ho:o'=a.o+l.d:=by rcases ho' with q | q<;>omega
      subst ho;rw[zVR,show a.o+l.d+len*j.size=a.o+len*j.size+l.d by omega];exact q1
    refine ⟨.slice (some a) (len+n) cap,.slice (some ⟨l.r,o',none⟩) (len+n) c',_,_,_,?_,?_,q2,hK⟩
    ·rw[hrun];simp only[Sem.run_bind,hst,Result.andThen_ok,Sem.run_pure]
    ·rw[VR];exact ⟨l,c',o',hl,hcap,by omega,ho',rfl⟩
   ·rename_i hroom
    obtain ⟨⟨hlc2,hle,hby,h63⟩,h⟩:=h;have hgrow:¬ len+n≤c'→∀ s1:ES,Go1 ρ s w.drew ρ s1 w.drew→s1.nx=s.nx→K (.slice (some ⟨s.nx,0⟩) (len+n) (len+n)) (s1.new (.cells ((c.drop a.o).take (len*j.size)++nc) e j.size true 0))→RunV P ρ s w (Builtin.append_ ts ty #[.slice (some ⟨l.r,o',none⟩) len c',y']) K:=by
     intro hc s1 hg1 hnx hK;obtain ⟨olds,ho1,ho2⟩:=zFJ (P:=P) hD.rel hg hx (Nat.le_refl _) hle;exact grow (some ⟨l.r,o',none⟩) len c' olds _ s1 rfl hc h63 hby ho1 ho2 (by simp;omega) hg1 hnx hK
    by_cases hz0:z'=0∨(z'=j.size∧a.o+cap*j.size ≠ c.length)
    ·rw[if_pos hz0] at h
     refine hgrow ?_ s (Go1.refl hD.rel) rfl h
     rcases hcap with rfl | ⟨q1,q2,q3,q4⟩
     ·exact hroom
     ·rcases hz0 with q | q
      ·exact absurd (b2.trans q) q1
      ·rw[b2,q.1,b1] at q2;exact absurd q2 q.2
    ·rw[if_neg hz0] at h
     obtain ⟨⟨hwr,hfz,hzj,hone,hte⟩,hK⟩:=h;subst hwr
     by_cases hroom2:len+n≤c'
     ·have hmul:(len+n)*j.size=len*j.size+n*j.size:=Nat.add_mul _ _ _;have ho:o'=a.o+l.d:=by rcases ho' with q | q<;>omega
      subst ho
      rcases hcap with rfl | ⟨p1,p2,p3,p4⟩
      ·omega
      have hmul2:(len+n)*j.size≤c' * j.size:=Nat.mul_le_mul_right _ hroom2;rw[b2,hzj] at p4
      have hrun:=(zDM (w:=w) (ty:=ty) h0 ht hnz rfl T (fun w=>hlen w) hnew (base:=some ⟨l.r,a.o+l.d,none⟩) (sLen:=len) (sCap:=c')).1 hroom2;obtain ⟨w',q1,q2⟩:=yGX (P:=P) hR hg hl (m:=len*j.size) hnr (VRs.one hnr hone) (by omega) hfz hle (by omega);rw[hte,hzj] at q2
      refine ⟨.slice (some ⟨s.nx,0⟩) (len+n) (len+n),.slice (some ⟨l.r,a.o+l.d,none⟩) (len+n) c',_,_,_,?_,?_,q2,hK⟩
      ·rw[hrun];simp only[zVR,Sem.run_bind,Sem.run_pure];rw[show a.o+l.d+len*j.size=a.o+len*j.size+l.d by omega,q1];rfl
      ·rw[VR];exact ⟨_,c',a.o+l.d,if_pos rfl,.inr ⟨by simp only;omega,by simp only;omega,hroom2,by simp only;omega⟩,Nat.le_refl _,.inl (by simp only;omega),rfl⟩
     ·refine hgrow hroom2 (s.kill a.b) ?_ rfl hK;exact Rel.less hD.rel (fun b o hg=>by rw[ES.get_kill] at hg;split at hg;cases hg;exact hg) (Nat.le_refl _) rfl
  ·exact h.elim
 ·exact h.elim
theorem yVX {P:Program} {ts:Array TypeId} {a b:Operand} {x y:EV} {s:ES} {K:EV→ES→Prop} (h:yVK P ts.toList x y s K):EOp P (.call { callee:=.builtin .append,args:=#[a,b],argTypes:=ts }) [x,y] s K:=by
 intro ρ w act o ho hR hv;simp only[Op.operands,Call.operands,List.map] at hv
 have hv':VRs ρ [x,y] [act.eval a,act.eval b]:=by simpa using hv
 simp only[VRs] at hv'
 obtain ⟨x',l',e1,hx,y',l'',e2,hy,e3⟩:=hv';subst e3;subst e2;simp only[List.cons.injEq,and_true] at e1
 obtain ⟨rfl,rfl⟩:=e1;obtain ⟨dst,op,type,pos,after,guard⟩:=o;simp only at ho;subst ho
 have hm:(#[a,b].map act.eval) = #[act.eval a,act.eval b]:=by simp
 refine .run (m:=Builtin.append_ ts type (#[a,b].map act.eval)) rfl ?_;rw[hm];unfold yVK at h
 split at h
 ·rename_i t us h0
  split at h
  ·rename_i i hi
   obtain ⟨inf,d,z,T⟩:=zQG hi
   split at h
   ·rename_i e hu
    have hd:d=.slice e:=by rw[T.u] at hu;cases d<;>simp[zRY] at hu;subst hu;rfl
    subst hd
    split at h
    ·rename_i j hj
     obtain ⟨⟨h1,h2,h3⟩,h⟩:=h
     split at h
     ·rename_i n nc hsrc
      exact xJK hR h0 T.und h1 hj h2 h3 hsrc h.1 h.2 hx hy
     ·exact h.elim
    ·exact h.elim
   ·exact h.elim
  ·exact h.elim
 ·exact h.elim
def eCopy (P:Program) (ts:List TypeId) (x y:EV) (s:ES) (K:EV→ES→Prop):Prop:=
 match ts with
 | t::_=>match zXZ P t with
   | some i=>match i.u with
     | .slice e=>match zXZ P e with
       | some j=>match srcE j.size y s with
         | some (n,nc)=>match x with
           | .slice none _ _=>K (.int .i64 0) s
           | .slice (some a) len _=>match s.get a.b with
             | some (.cells c t z wr fz)=>(wr=true∧fz≤a.o∧nc.length=n*j.size∧nc.all EV.one=true∧a.o+min n len*j.size≤c.length) ∧
               K (.int .i64 (min n len:Nat)) (s.set a.b (.cells (zZH c a.o (nc.take (min n len*j.size))) t z true fz))
             | _=>False
           | _=>False
         | none=>False
       | none=>False
     | _=>False
   | none=>False
 | []=>False
theorem yGV {P:Program} {ρ:Env} {s:ES} {w:World} {size n m:Nat} {x:EV} {x':Value} {nc:List EV} (hR:Rel ρ s w) (h:srcE size x s=some (n,nc)) (hx:VR ρ x x') (hm:m≤n) :
  ∃ news:Array Value,(Builtin.firstCells size m x').run P w=.ok news w∧VRs ρ (nc.take (m*size)) news.toList:=by
 unfold srcE at h
 split at h
 ·obtain ⟨rfl,rfl⟩:=by simpa using h
  rw[VR] at hx;obtain ⟨rfl,rfl,rfl⟩:=hx
  exact ⟨#[],by simp[Builtin.firstCells],by simpa using VRs.nil⟩
 ·rename_i a k cap
  split at h
  ·rename_i c t z wr fz hg
   split at h
   ·rename_i hle
    obtain ⟨rfl,rfl⟩:=by simpa using h
    have hmul:m*size≤k*size:=Nat.mul_le_mul_right _ hm;obtain ⟨news,h1,h2⟩:=zFJ (P:=P) (size:=size) hR hg hx hm (by omega);refine ⟨news,h1,?_⟩;rw[List.take_take,Nat.min_eq_left hmul];exact h2
   ·cases h
  ·cases h
 ·rename_i l
  split at h
  ·rename_i h1
   subst h1;obtain ⟨rfl,rfl⟩:=by simpa using h
   rw[VR] at hx;subst hx
   refine ⟨((l.take m).map fun b=>Value.int .u8 b.toNat).toArray,?_,by rw[Nat.mul_one,zVQ];simpa using yHN (l.take m)⟩;simp only[Builtin.firstCells,Sem.run_pure];have:(ByteArray.mk l.toArray).extract 0 m=ByteArray.mk (l.take m).toArray:=by
    rw[Lib.extract_eq];simp
   rw[this]
   congr 1
   apply Array.ext'
   simp
  ·cases h
 ·cases h
theorem eop_copy {P:Program} {ts:Array TypeId} {a b:Operand} {x y:EV} {s:ES} {K:EV→ES→Prop} (h:eCopy P ts.toList x y s K):EOp P (.call { callee:=.builtin .copy,args:=#[a,b],argTypes:=ts }) [x,y] s K:=by
 intro ρ w act o ho hR hv;simp only[Op.operands,Call.operands] at hv
 have hv':VRs ρ [x,y] [act.eval a,act.eval b]:=by simpa using hv
 simp only[VRs] at hv'
 obtain ⟨x',l',e1,hx,y',l'',e2,hy,e3⟩:=hv';subst e3;subst e2;simp only[List.cons.injEq,and_true] at e1
 obtain ⟨rfl,rfl⟩:=e1;obtain ⟨dst,op,type,pos,after,guard⟩:=o;simp only at ho;subst ho
 have hm:(#[a,b].map act.eval) = #[act.eval a,act.eval b]:=by simp
 refine .run (m:=Builtin.copy_ ts type (#[a,b].map act.eval)) rfl ?_;rw[hm];generalize act.eval a=x' at hx
 generalize act.eval b=y' at hy
 unfold eCopy at h
 split at h
 ·rename_i t us h0
  obtain ⟨tl⟩:=ts;simp only at h0;subst h0
  split at h
  ·rename_i i hi
   obtain ⟨inf,d,z,T⟩:=zQG hi
   split at h
   ·rename_i e hu
    have hd:d=.slice e:=by rw[T.u] at hu;cases d<;>simp[zRY] at hu;subst hu;rfl
    subst hd
    split at h
    ·rename_i j hj
     obtain ⟨inf2,d2,z2,T2⟩:=zQG hj
     split at h
     ·rename_i n nc hsrc
      obtain ⟨hl,_⟩:=zRH (P:=P) hR hsrc hy
      split at h
      ·rw[VR] at hx;obtain ⟨rfl,rfl,rfl⟩:=hx
       obtain ⟨news,q1,q2⟩:=yGV (P:=P) (m:=0) hR hsrc hy (Nat.zero_le _);refine RunV.pure (v:=.int .i64 0) (v':=.int .i64 0) hR ?_ (by rw[VR]) h;simp[Builtin.copy_,T.run_und w,hl,T2.run_size w,q1];rfl
      ·rename_i a0 len cap
       split at h
       ·rename_i c t' z' wr fz hg
        obtain ⟨⟨hwr,hfz,hncl,hone,hle⟩,hK⟩:=h;subst hwr;have hx':=hx;rw[VR] at hx'
        obtain ⟨l,c',o',hloc,hcap,hlc,ho',rfl⟩:=hx';obtain ⟨news,q1,q2⟩:=yGV (P:=P) (m:=min n len) hR hsrc hy (Nat.min_le_left _ _);have hml:min n len*j.size≤n*j.size:=Nat.mul_le_mul_right _ (Nat.min_le_left _ _);have htl:(nc.take (min n len*j.size)).length=min n len*j.size:=by simp;omega
        have hone':(nc.take (min n len*j.size)).all EV.one=true:=by
         rw[List.all_eq_true] at hone ⊢
         exact fun v hv=>hone v (List.mem_of_mem_take hv)
        obtain ⟨w',r1,r2⟩:=zHB (P:=P) hR hg hloc (o:=a0.o) q2 (VRs.one q2 hone') hfz (by omega);have hst:(storeCells ⟨l.r,o',none⟩ news.toList).run P w=.ok () w':=by
         rcases ho' with q | q
         ·rw[q];exact r1
         ·have h0:len=0:=by have:=hcap.le;omega
          subst h0;have hnl:=q2.length;have:news.toList=[]:=List.eq_nil_of_length_eq_zero (by simp at hnl ⊢;omega);rw[this] at r1 ⊢
          exact r1
        refine ⟨.int .i64 (min n len:Nat),.int .i64 (min n len:Nat),_,_,_,?_,by rw[VR],r2,hK⟩;simp[Builtin.copy_,T.run_und w,hl,T2.run_size w,q1,hst];rfl
       ·exact h.elim
      ·exact h.elim
     ·exact h.elim
    ·exact h.elim
   ·exact h.elim
  ·exact h.elim
 ·exact h.elim
end
end Go.E
