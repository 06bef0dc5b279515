/-
  Own work: a part of the proof that the last text closes.
-/
import Derived.Test.YtncphnpndkjkaaaGreatDoorFd
import Derived.ChangeKeysEq
namespace Go.E
set_option linter.all false
section
theorem born_mod {es:Array MapEntry} {clock j:Nat} {k v:Value} (h1:∀ x∈es.toList,x.born<clock) (h2:(es.toList.map (·.born)).Nodup) :
  (∀ x∈(es.modify j fun e=>{ e with key:=k,val:=v }).toList,x.born<clock)∧((es.modify j fun e=>{ e with key:=k,val:=v }).toList.map (·.born)).Nodup:=by
 have e:(es.modify j fun e=>{ e with key:=k,val:=v }).toList.map (·.born)=es.toList.map (·.born):=by
  apply List.ext_getElem?
  intro i;simp only[List.getElem?_map,Array.getElem?_toList,Array.getElem?_modify]
  by_cases h:j=i
  ·rw[if_pos h];cases es[i]? <;> rfl
  ·rw[if_neg h]
 refine ⟨fun x hx=>?_,by rw[e];exact h2⟩;have:=List.mem_map_of_mem (f:=fun y:MapEntry=>y.born) hx;rw[e] at this
 obtain ⟨y,hy,h3⟩:=List.mem_map.1 this;have:=h1 y hy;omega
theorem yVW {k:EV}:∀ {es:List (EV × EV)} {j:Nat} {v:EV},zRP k es=some (j,v)→∃ k1,es[j]? = some (k1,v)∧yYG k k1=true
 | [],j,v,h=>by simp[zRP] at h
 | (k',v')::r,j,v,h=>by
   simp only[zRP] at h
   split at h
   ·rename_i hs
    cases h
    exact ⟨k',rfl,hs⟩
   ·cases hf:zRP k r with
    | none=>rw[hf] at h;cases h
    | some x=>
      obtain ⟨i,w⟩:=x;rw[hf] at h
      simp only[Option.map_some,Option.some.injEq,Prod.mk.injEq] at h
      obtain ⟨rfl,rfl⟩:=h;obtain ⟨k1,h1,h2⟩:=yVW hf;exact ⟨k1,by simpa using h1,h2⟩
theorem yGP:∀ (es:List (EV × EV)) (j:Nat) (v:EV) (i:Nat),(putE.setNth es j v)[i]? = if i=j then (es[i]?).map (fun x=>(x.1,v)) else es[i]?
 | [],j,v,i=>by simp[putE.setNth]
 | (k,w)::r,0,v,i=>by
   cases i with
   | zero=>simp[putE.setNth]
   | succ i=>simp[putE.setNth]
 | x::r,j+1,v,i=>by
   cases i with
   | zero=>simp[putE.setNth]
   | succ i=>
     simp only[putE.setNth,List.getElem?_cons_succ,yGP r j v i]
     by_cases h:i=j<;>simp[h]
theorem yWW:∀ (es:List (EV × EV)) (j:Nat) (v:EV),(putE.setNth es j v).length=es.length
 | [],j,v=>rfl
 | _::r,0,v=>rfl
 | _::r,j+1,v=>by simp[putE.setNth,yWW r j v]
def zTQ (P:Program) (t:TypeId) (x k v:EV) (s:ES) (K:EV→ES→Prop):Prop:=
 match zXZ P t with
 | some i=>match i.u with
   | .map kt _=>match zXZ P kt with
     | some ki=>match x with
       | .map (some r)=>match s.get r with
         | some (.map es)=>(keyOf ki.u k=true∧(es.all fun x=>keyOf ki.u x.1)=true)∧K zVP (s.set r (.map (putE k v (zRP k es) es)))
         | _=>False
       | _=>False
     | none=>False
   | _=>False
 | none=>False
theorem yFN {P:Program} {t:TypeId} {x k v:EV} {s:ES} {K:EV→ES→Prop} {ρ:Env} {w:World} {act:Act} {o:Oper} {x' k' v':Value} (hR:Rel ρ s w) (hx:VR ρ x x') (hk:VR ρ k k') (hv:VR ρ v v') (h:zTQ P t x k v s K)
  (he:execOp act.eval o=(do Instr.mapUpdate t x' k' v';pure .skip)):OpRes P ρ s w act o K:=by
 have h0:=h;unfold zTQ at h
 split at h
 ·rename_i i hi
  obtain ⟨inf,d,z,T⟩:=zQG hi
  split at h
  ·rename_i kt e hu
   have hd:=T.map hu
   split at h
   ·rename_i ki hki
    obtain ⟨inf2,d2,z2,T2⟩:=zQG hki
    split at h
    ·rename_i r
     split at h
     ·rename_i es hg
      obtain ⟨⟨h1,h3⟩,hK⟩:=h
      cases h4:zRP k es with
      | none=>
        refine xQS hR hx hk hv ?_ he;simp only[yMR,hi,hu,hki,hg];rw[h4] at hK
        exact ⟨⟨h1,h3,h4⟩,hK⟩
      | some jv=>
        obtain ⟨j,v0⟩:=jv;rw[h4] at hK
        rw[T2.u] at h1 h3
        rw[VR] at hx
        obtain ⟨l,hl,rfl⟩:=hx;obtain ⟨es',clock,hh,⟨hsz,hbo,hbn⟩,hes⟩:=hR.live _ _ _ hg hl;have hf:=zMS h1 hk es es'.toList 0 (by simpa using hsz) (by simpa using hes) h3;simp only[h4] at hf
        obtain ⟨v1,hf,-⟩:=hf;rw[Nat.zero_add] at hf
        obtain ⟨k1,g1,g2⟩:=yVW h4;obtain ⟨e1,q1,q2,q3⟩:=hes j k1 v0 g1;have hk1:keyOf (zRY d2) k1=true:=List.all_eq_true.1 h3 _ (List.mem_of_getElem? g1);have hsame:=yDZ h1 hk1 hk q2;rw[g2] at hsame
        obtain ⟨b,hb1,hb2⟩:=MapKept.sameNow_of_keys (zTY h1 hk) (zTY hk1 q2);have hbt:b=true:=by rw[hsame] at hb1;exact (Option.some.inj hb1).symm
        have hke:k'=e1.key:=hb2.1 hbt;have hlt:l.r<w.heap.size:=(Array.getElem?_eq_some_iff.1 hh).1;have hstay:(Instr.keyThatStays (((es'[j]?).map (·.key)).getD k') k').run P w=.ok k' w:=by
         rw[q1,Option.map_some,Option.getD_some,← hke];exact MapKept.run_keyThatStays (zTY h1 hk)
        have hrun:(Instr.mapUpdate t (.map (some l.r)) k' v').run P w=.ok () { w with heap:=w.heap.setIfInBounds l.r (.map (es'.modify j fun e=>{ e with key:=k',val:=v' }) clock) }:=by
         simp only[Instr.mapUpdate,Sem.run_bind,run_underlying hd,Result.andThen_ok,MapKept.run_getObj_map hh,zKM T2.und (zTY h1 hk),MapKept.run_findKey T2.und hf,hstay,MapKept.run_setObj_map _ hh]
        refine OpRes.unit he hrun (hR.turn r _ (.map (putE k v (some (j,v0)) es)) l hg hl rfl rfl rfl rfl (by simp) (fun r2 hr=>by simp[Array.getElem?_setIfInBounds,Ne.symm hr]) ?_ rfl) hK;refine ⟨es'.modify j fun e=>{ e with key:=k',val:=v' },clock,by simp[hlt],⟨by simp[putE,yWW,hsz],born_mod hbo hbn⟩,fun i k2 v2 hi2=>?_⟩;simp only[putE,yGP] at hi2
        by_cases hij:i=j
        ·subst hij;rw[if_pos rfl,g1,Option.map_some] at hi2
         cases hi2
         refine ⟨{ e1 with key:=k',val:=v' },by rw[Array.getElem?_modify,if_pos rfl,q1];rfl,?_,hv⟩;simp only;rw[hke];exact q2
        ·rw[if_neg hij] at hi2
         obtain ⟨e2,p1,p2⟩:=hes i k2 v2 hi2;exact ⟨e2,by rw[Array.getElem?_modify,if_neg (Ne.symm hij)];exact p1,p2⟩
     ·exact h.elim
    ·exact h.elim
   ·exact h.elim
  ·exact h.elim
 ·exact h.elim
theorem zJT {P:Program} {t:TypeId} {a b c:Operand} {x k v:EV} {s:ES} {K:EV→ES→Prop} (h:zTQ P t x k v s K):EOp P (.mapUpdate t a b c) [x,k,v] s K:=by
 intro ρ w act o ho hR hv;obtain ⟨x',k',v',e,hx,hk,hv⟩:=three_of hv;have e1:act.eval a=x'∧act.eval b=k'∧act.eval c=v':=by simpa [Op.operands] using e
 obtain ⟨dst2,op,type,pos,after,guard⟩:=o;simp only at ho;subst ho
 exact yFN hR hx hk hv h (by rw[← e1.1,← e1.2.1,← e1.2.2];rfl)
def delE (k:EV) (es:List (EV × EV)):List (EV × EV):=match zRP k es with
 | some (j,_)=>es.eraseIdx j
 | none=>es
def xKH (P:Program) (ts:List TypeId) (x k:EV) (s:ES) (K:EV→ES→Prop):Prop:=
 match ts with
 | t::_=>match zXZ P t with
   | some i=>match i.u with
     | .map kt _=>match zXZ P kt with
       | some ki=>match x with
         | .map (some r)=>match s.get r with
           | some (.map es)=>(keyOf ki.u k=true∧(es.all fun x=>keyOf ki.u x.1)=true)∧K (.tuple []) (s.set r (.map (delE k es)))
           | _=>False
         | _=>False
       | none=>False
     | _=>False
   | none=>False
 | _=>False
theorem eop_delete {P:Program} {ts:Array TypeId} {a b:Operand} {x y:EV} {s:ES} {K:EV→ES→Prop} (h:xKH P ts.toList x y s K):EOp P (.call { callee:=.builtin .delete,args:=#[a,b],argTypes:=ts }) [x,y] s K:=by
 intro ρ w act o ho hR hv;simp only[Op.operands,Call.operands] at hv
 have hv':VRs ρ [x,y] [act.eval a,act.eval b]:=by simpa using hv
 simp only[VRs] at hv'
 obtain ⟨x',l',e1,hx,y',l'',e2,hy,e3⟩:=hv';subst e3;subst e2;simp only[List.cons.injEq,and_true] at e1
 obtain ⟨rfl,rfl⟩:=e1;obtain ⟨dst,op,type,pos,after,guard⟩:=o;simp only at ho;subst ho
 have hm:(#[a,b].map act.eval) = #[act.eval a,act.eval b]:=by simp
 refine .run (m:=Builtin.delete_ ts type (#[a,b].map act.eval)) rfl ?_;rw[hm];generalize act.eval a=x' at hx
 generalize act.eval b=y' at hy
 unfold xKH at h
 split at h
 ·rename_i t us h0
  obtain ⟨tl⟩:=ts;simp only at h0;subst h0
  split at h
  ·rename_i i hi
   obtain ⟨inf,d,z,T⟩:=zQG hi
   split at h
   ·rename_i kt e hu
    have hd:=T.map hu
    split at h
    ·rename_i ki hki
     obtain ⟨inf2,d2,z2,T2⟩:=zQG hki
     split at h
     ·rename_i r
      split at h
      ·rename_i es hg
       obtain ⟨⟨h1,h3⟩,hK⟩:=h;rw[T2.u] at h1 h3
       rw[VR] at hx
       obtain ⟨l,hl,rfl⟩:=hx;obtain ⟨es',clock,hh,⟨hsz,hbo,hbn⟩,hes⟩:=hR.live _ _ _ hg hl;have hf:=zMS h1 hy es es'.toList 0 (by simpa using hsz) (by simpa using hes) h3;have hlt:l.r<w.heap.size:=(Array.getElem?_eq_some_iff.1 hh).1
       cases h4:zRP y es with
       | none=>
         simp only[h4] at hf
         have hrun:(Builtin.delete_ ⟨t::us⟩ type #[.map (some l.r),y']).run P w=.ok (.tuple #[]) { w with heap:=w.heap.setIfInBounds l.r (.map es' clock) }:=by
          simp[Builtin.delete_,run_underlying hd,MapKept.run_getObj_map hh,zKM T2.und (zTY h1 hy),MapKept.run_findKey T2.und hf,MapKept.run_setObj_map _ hh]
         have hdel:delE y es=es:=by unfold delE;rw[h4]
         rw[hdel] at hK
         refine ⟨_,_,_,_,_,hrun,by rw[VR];exact ⟨#[],rfl,VRs.nil⟩,hR.turn r _ (.map es) l hg hl rfl rfl rfl rfl (by simp) (fun r2 hr=>by simp[Array.getElem?_setIfInBounds,Ne.symm hr]) ⟨es',clock,by simp[hlt],⟨hsz,hbo,hbn⟩,hes⟩ rfl,hK⟩
       | some jv=>
         obtain ⟨j,v0⟩:=jv;simp only[h4] at hf
         obtain ⟨v1,hf,-⟩:=hf;rw[Nat.zero_add] at hf
         have hrun:(Builtin.delete_ ⟨t::us⟩ type #[.map (some l.r),y']).run P w=.ok (.tuple #[]) { w with heap:=w.heap.setIfInBounds l.r (.map (es'.eraseIdxIfInBounds j) clock) }:=by
          simp[Builtin.delete_,run_underlying hd,MapKept.run_getObj_map hh,zKM T2.und (zTY h1 hy),MapKept.run_findKey T2.und hf,MapKept.run_setObj_map _ hh]
         have hdel:delE y es=es.eraseIdx j:=by unfold delE;rw[h4]
         rw[hdel] at hK
         obtain ⟨k1,g1,-⟩:=yVW h4;have hjl:j<es.length:=(List.getElem?_eq_some_iff.1 g1).1;have htl:(es'.eraseIdxIfInBounds j).toList=es'.toList.eraseIdx j:=by
          simp[Array.eraseIdxIfInBounds,show j<es'.size by omega]
         refine ⟨_,_,_,_,_,hrun,by rw[VR];exact ⟨#[],rfl,VRs.nil⟩,hR.turn r _ (.map (es.eraseIdx j)) l hg hl rfl rfl rfl rfl (by simp) (fun r2 hr=>by simp[Array.getElem?_setIfInBounds,Ne.symm hr]) ⟨es'.eraseIdxIfInBounds j,clock,by simp[hlt],⟨?_,by rw[htl];exact fun x hx=>hbo x (List.mem_of_mem_eraseIdx hx),by rw[htl];exact hbn.sublist ((List.eraseIdx_sublist _ _).map _)⟩,fun i k v hi=>?_⟩ rfl,hK⟩
         ·have:=congrArg List.length htl;rw[List.length_eraseIdx] at this ⊢
          simp only[Array.length_toList] at this
          rw[this,hsz]
         ·have e:(es'.eraseIdxIfInBounds j)[i]? = (es'.toList.eraseIdx j)[i]?:=by rw[← htl,Array.getElem?_toList]
          rw[e];rw[List.getElem?_eraseIdx] at hi ⊢
          split at hi
          ·rename_i hij;rw[if_pos hij];simpa using hes i k v hi
          ·rename_i hij;rw[if_neg hij];simpa using hes (i+1) k v hi
      ·exact h.elim
     ·exact h.elim
    ·exact h.elim
   ·exact h.elim
  ·exact h.elim
 ·exact h.elim
def zZD (P:Program) (t:TypeId) (x y:EV) (s:ES) (K:EV→ES→Prop):Prop:=
 match zXZ P t with
 | some i=>match i.u with
   | .slice e=>match zXZ P e with
     | some j=>match x,y with
       | .int _ n,.int _ m=>((0≤n∧n≤m∧j.bytes*m≤281474976710656∧m≤4611686018427387904)∧j.zero.length=j.size)∧K (.slice (some ⟨s.nx,0⟩) n.toNat m.toNat) (s.new (.cells (zWT j.zero m.toNat) e 0 true 0))
       | _,_=>False
     | none=>False
   | _=>False
 | none=>False
theorem zZW {P:Program} {t:TypeId} {a b:Operand} {x y:EV} {s:ES} {K:EV→ES→Prop} (h:zZD P t x y s K):EOp P (.makeSlice t a b) [x,y] s K:=by
 intro ρ w act o ho hR hv;have hv':VRs ρ [x,y] [act.eval a,act.eval b]:=by simpa [Op.operands] using hv
 simp only[VRs] at hv'
 obtain ⟨x',l',e1,hx,y',l'',e2,hy,e3⟩:=hv';subst e3;subst e2;simp only[List.cons.injEq,and_true] at e1
 obtain ⟨rfl,rfl⟩:=e1;obtain ⟨dst,op,type,pos,after,guard⟩:=o;simp only at ho;subst ho
 refine .run (m:=Instr.makeSlice t (act.eval a) (act.eval b)) rfl ?_;generalize act.eval a=x' at hx
 generalize act.eval b=y' at hy
 unfold zZD at h
 split at h
 ·rename_i i hi
  obtain ⟨inf,d,z,T⟩:=zQG hi
  split at h
  ·rename_i e hu
   have hd:d=.slice e:=by rw[T.u] at hu;cases d<;>simp[zRY] at hu;subst hu;rfl
   subst hd
   split at h
   ·rename_i j hj
    obtain ⟨inf2,d2,z2,T2⟩:=zQG hj
    split at h
    ·rename_i k1 n k2 m
     obtain ⟨⟨⟨h0,h1,h2,h3⟩,hzl⟩,hK⟩:=h;rw[VR] at hx hy
     subst hx hy;have hz:VRs ρ j.zero z2.cells.toList:=by rw[T2.cells];exact VRs.ofV _
     have w1:IntKind.i64.wrap n=n:=zQK (by omega) (by omega);have w2:IntKind.i64.wrap m=m:=zQK (by omega) (by omega);have hb:¬ ((inf2.bytes:Int)*m > 2 ^ 48):=by
      rw[← T2.bytes];have e:((2:Int) ^ 48)=281474976710656:=by decide
      rw[e];omega
     have hzero:VRs ρ (zWT j.zero m.toNat) ((Array.range (m.toNat*j.size)).map ((if m.toNat*j.size=0 then #[] else z2.cells)[· % (if m.toNat*j.size=0 then #[] else z2.cells).size]!)).toList:=by
      by_cases h00:m.toNat*j.size=0
      ·have:zWT j.zero m.toNat=[]:=by
        apply List.eq_nil_of_length_eq_zero;rw[zZJ,hzl];exact h00
       rw[this,h00];simp[VRs]
      ·simp only[h00,if_false];exact zSH hz m.toNat _ (by rw[hzl])
     refine ⟨_,.slice (some ⟨w.heap.size,0,none⟩) n.toNat m.toNat,_,_,_,?_,?_,hR.newCells (zWT j.zero m.toNat) _ e hzero,hK⟩
     ·simp only[Instr.makeSlice,Sem.run_bind,T.run_und w,Result.andThen_ok,asInt,asIntOf,Sem.run_pure,T2.run_info w,w1,w2];rw[if_neg]
      ·by_cases h00:m.toNat*j.size=0
       ·simp only[Sem.run_bind,run_askRoom,Result.andThen_ok,T2.run_size w,h00,if_true,Sem.run_pure];simp[newRow,newObj,Sem.run]
       ·simp only[Sem.run_bind,run_askRoom,Result.andThen_ok,T2.run_size w,h00,if_false,T2.run_zero w,Sem.run_pure];simp[newRow,newObj,Sem.run]
      ·simp only[Bool.or_eq_true,decide_eq_true_eq,not_or];refine ⟨⟨⟨by omega,hb⟩,by omega⟩,by omega⟩
     ·rw[VR];exact ⟨_,m.toNat,0,if_pos rfl,.inl rfl,by omega,.inl rfl,rfl⟩
    ·exact h.elim
   ·exact h.elim
  ·exact h.elim
 ·exact h.elim
end
section
def tlM (n:Nat) (m:List (Nat × EV)):List EV:=(List.range n).map fun t=>(lkp m t).getD .unk
def inN (n:Nat):List (Nat × EV)→Bool
 | []=>true
 | (t,_)::r=>Nat.blt t n && inN n r
def inT (n:Nat):List Tmp→Bool
 | []=>true
 | t::r=>Nat.blt t n && inT n r
def putArgs (fr:Fr):List Tmp→List EV→Fr
 | t::ts,v::vs=>putArgs (fr.put t v) ts vs
 | _,_=>fr
theorem inN_lkp {n:Nat}:∀ {m:List (Nat × EV)},inN n m=true→∀ {t v},lkp m t=some v→t<n
 | [],_,t,v,h=>by simp[lkp] at h
 | (c,x)::l,hm,t,v,h=>by
   simp only[inN,Bool.and_eq_true,Nat.blt_eq] at hm
   simp only[lkp] at h
   split at h
   ·rename_i hc;subst hc;exact hm.1
   ·exact inN_lkp hm.2 h
theorem yZV (n:Nat) (m:List (Nat × EV)):(tlM n m).length=n:=by simp[tlM]
theorem tlM_get {n:Nat} {m:List (Nat × EV)} {t:Nat} (h:t<n):(tlM n m)[t]? = some ((lkp m t).getD .unk):=by simp[tlM,h]
theorem zDH {k n:Nat} {m:List (Nat × EV)} (h:zWP k m):zQX k (tlM n m):=by
 refine zTZ fun v hv=>?_
 simp only[tlM,List.mem_map] at hv
 obtain ⟨t,_,rfl⟩:=hv
 cases hl:lkp m t with
 | none=>simp[EV.bel]
 | some v=>exact yWM h hl
theorem FR.ofT {ρ:Env} {n:Nat} {m:List (Nat × EV)} {tm:Array Value} (h:VRs ρ (tlM n m) tm.toList) (hm:inN n m=true):FR ρ ⟨m,.unk,n,[]⟩ { tmps:=tm,defers:=[] }:=by
 refine ⟨rfl,by have:=h.length;rw[yZV] at this;simpa using this,fun t=>?_⟩;unfold Fr.lk
 cases hl:lkp m t with
 | none=>simp only[VR]
 | some v=>
   have ht:=inN_lkp hm hl;obtain ⟨v',h1,h2⟩:=h.get t _ (tlM_get ht);rw[hl] at h2
   simp only[Option.getD_some] at h2 ⊢
   rw[Array.getD_eq_getD_getElem?,show tm[t]? = some v' by simpa using h1];exact h2
theorem FR.toT {ρ:Env} {fr:Fr} {a:Act} {m:List (Nat × EV)} (h:FR ρ fr a) (hm:zQS fr m):VRs ρ (tlM fr.n m) a.tmps.toList:=by
 refine VRs.of_get (by rw[yZV];simpa using h.size) fun i v hi=>?_
 have hlt:i<fr.n:=by
  have:=(List.getElem?_eq_some_iff.1 hi).1
  rwa [yZV] at this
 rw[tlM_get hlt] at hi
 cases hi
 have hs:i<a.tmps.size:=by rw[h.size];exact hlt
 refine ⟨a.tmps[i],by simp[hs],?_⟩
 cases hl:lkp m i with
 | none=>simp only[Option.getD_none,VR]
 | some v=>
   have:=h.slot i;rw[zNN hm hl,Array.getD_eq_getD_getElem?] at this
   simpa [hs] using this
theorem FR.putArgs {ρ:Env}:∀ {ts:List Tmp} {vs:List EV} {fr:Fr} {a:Act} {vs':List Value},FR ρ fr a→inT fr.n ts=true→VRs ρ vs vs'→FR ρ (E.putArgs fr ts vs) { a with tmps:=(ts.zip vs').foldl (fun tmps (t,a)=>tmps.setIfInBounds t a) a.tmps }
 | [],vs,fr,a,vs',h,_,_=>by cases vs<;>exact h
 | t::ts,[],fr,a,vs',h,_,hv=>by rw[VRs] at hv;subst hv;exact h
 | t::ts,v::vs,fr,a,vs',h,ht,hv=>by
   rw[VRs] at hv
   obtain ⟨v',l',rfl,h1,h2⟩:=hv;simp only[inT,Bool.and_eq_true,Nat.blt_eq] at ht
   have:=h.put (some t) v v' ht.1 h1;exact FR.putArgs (fr:=fr.put t v) this ht.2 h2
def zKZ (b l:Nat) (tl:List EV) (cd:Code) (Q:ER→ES→Prop):X→Fr→ES→Prop
 | .normal,_,s=>s.get b=some (.rng l tl .busy none cd)∧Q (.ret (.bool true)) (s.set b (.rng l tl .ready none cd))
 | .ret,_,s=>s.get b=some (.rng l tl .busy none cd)∧Q (.ret (.bool false)) (s.set b (.rng l tl .done (some .ret) cd))
 | .exit i,_,s=>s.get b=some (.rng l tl .busy none cd)∧Q (.ret (.bool false)) (s.set b (.rng l tl .done (some (.exit i)) cd))
 | .goto i,_,s=>s.get b=some (.rng l tl .busy none cd)∧Q (.ret (.bool false)) (s.set b (.rng l tl .done (some (.goto i)) cd))
 | .pan _,_,_=>False
def zPD (P:Program) (k b l:Nat) (tl:List EV) (cd body:Code) (Q:ER→ES→Prop):X→Fr→ES→Prop
 | .normal,fr,s=>s.get b=some (.rng l tl .ready none cd)∧ESem P k body (zKZ b l tl cd Q) fr (s.set b (.rng l tl .busy none cd))
 | _,_,_=>False
theorem GoK.recd {k:Nat} {ρ ρ':Env} {s s':ES} {w w':World} (h:GoK k ρ s w ρ' s' w') {b id:Nat} {tl:List EV} {st:LoopState} {pend:Option Code} {cd:Code} (hg:s'.get b=some (.rng id tl st pend cd)) :
  ∃ r:Loop,w'.heap[id]? = some (.loop r)∧r.state=st∧r.pending=pend∧r.params=rfP cd∧r.assign=rfA cd∧r.body=rfB cd∧VRs ρ' tl r.tmps.toList ∧
   (∀ st2 pend2,GoK k ρ s w ρ' (s'.set b (.rng id tl st2 pend2 cd)) (w'.putObj id (.loop { r with state:=st2,pending:=pend2 })))∧∀ o2,GoK k ρ s w ρ' (s'.kill b) (w'.putObj id o2):=by
 obtain ⟨l,hl⟩:=h.rel.dom b _ hg;have hbr:=h.rel.live b _ l hg hl;obtain ⟨rfl,fn,tm,dfr,hh,hv⟩:=hbr;have hlt:=(Array.getElem?_eq_some_iff.1 hh).1;refine ⟨_,hh,rfl,rfl,rfl,rfl,rfl,hv,fun st2 pend2=>?_,fun o2=>?_⟩
 ·exact h.trans ((h.rel.turn0 (w':=w'.putObj l.r (.loop { state:=st2,pending:=pend2,fn:=fn,tmps:=tm,params:=rfP cd,assign:=rfA cd,body:=rfB cd,defers:=dfr })) b _ (.rng l.r tl st2 pend2 cd) l hg hl rfl rfl rfl rfl World.putObj_size (fun r hr=>World.putObj_heap_other hr) ⟨rfl,fn,tm,dfr,World.putObj_heap_same hlt,hv⟩).toK h.nx)
 ·have h1:=h.rel.turn0 (w':=w'.putObj l.r o2) b _ (.raw l.r o2) l hg hl rfl rfl rfl rfl World.putObj_size (fun r hr=>World.putObj_heap_other hr) ⟨rfl,World.putObj_heap_same hlt⟩;refine (h.trans (h1.toK h.nx)).trans ((Rel.less (s':=s'.kill b) h1.rel (fun c o hc=>?_) (Nat.le_refl _) rfl).toK h.nx);rw[ES.get_kill] at hc
  rw[ES.get_set]
  split at hc
  ·cases hc
  ·rename_i hne;rw[if_neg hne];exact hc
theorem zWD {P:Program} {l:Nat} {args:List EV} {s:ES} {Q:ER→ES→Prop} (b n:Nat) (m:List (Nat × EV)) (cd:Code) {g:Operand} {ps:Array Tmp} {asg body:Code}
  (hg:s.get b=some (.rng l (tlM n m) .ready none cd)) (hcd:cd=.rangeFunc g ps asg body) (hps:inT n ps.toList=true) (hm:inN n m=true) (hl:args.length=ps.size) (hn1:yNK asg=true) (hn2:yNK body=true)
  (h:ESem P s.nx asg (zPD P s.nx b l (tlM n m) cd body Q) (putArgs ⟨m,.unk,n,[]⟩ ps.toList args) s):EYields P l args s Q:=by
 intro ρ w args' hR hA;have hG0:=GoK.refl hR (Nat.le_refl s.nx);obtain ⟨r,r1,r2,r3,r4,r5,r6,r7,_,_⟩:=hG0.recd hg;have hsz:args'.size=r.params.size:=by
  have:=hA.length;rw[r4,hcd];simp only[rfP];rw[← hl,← this];simp
 rw[run_yield r1 hsz];simp only;refine roundIn_of_wpIn trivial ?_;have hfr:FR ρ (putArgs ⟨m,.unk,n,[]⟩ ps.toList args) { tmps:=(r.params.zip args').foldl (fun tmps (t,a)=>tmps.setIfInBounds t a) r.tmps,defers:=[] }:=by
  have h1:=FR.putArgs (ts:=ps.toList) (vs:=args) (FR.ofT r7 hm) hps hA;rw[r4,hcd];simp only[rfP];rw[← Array.foldl_toList,Array.toList_zip];exact h1
 have hasg:r.assign=asg:=by rw[r5,hcd];rfl
 have hbody:r.body=body:=by rw[r6,hcd];rfl
 rw[hasg,hbody];refine wpIn_mono (h (Nat.le_refl _) (some l) (.inr hn1) ρ w _ hR hfr) ?_
 rintro e a w1 ⟨x,fr1,s1,ρ1,hx,hF1,hG1,hQ1⟩
 cases x with
 | normal=>
   cases hx
   obtain ⟨k1,k2⟩:=hQ1;obtain ⟨q,q1,q2,q3,q4,q5,q6,q7,q8,_⟩:=hG1.recd k1;have q3':=q3;have hset:=q8 .busy none;have hq:({ q with state:=.busy,pending:=none }:Loop) = { q with state:=.busy }:=by cases q;simp only at q3';subst q3';rfl
   rw[hq] at hset
   refine ⟨_,run_beginRound q1 q2,?_⟩;refine wpIn_mono (k2 hset.nx (some l) (.inr hn2) ρ1 _ a hset.rel hF1) ?_
   rintro e2 a2 w2 ⟨x2,fr2,s2,ρ2,hx2,hF2,hG2,hQ2⟩
   have hG:=hset.trans hG2;have fin:∀ (j:Option Code) (v:Bool),v=j.isNone→s2.get b=some (.rng l (tlM n m) .busy none cd)→Q (.ret (.bool v)) (s2.set b (.rng l (tlM n m) (if v then .ready else .done) j cd)) →
     ∃ v' w',(Instr.endRound l j).run P w2=.ok v' w'∧EPost ρ s w Q (.returned v') w':=by
    rintro j v rfl e1 e2
    obtain ⟨u,u1,u2,u3,u4,u5,u6,u7,u8,_⟩:=hG.recd e1;refine ⟨_,_,run_endRound j u1,.ret (.bool j.isNone),_,ρ2,⟨_,rfl,by rw[VR]⟩,?_,e2⟩;exact (u8 _ _).to1 hR
   cases x2 with
   | normal=>cases hx2;exact fin none true rfl hQ2.1 hQ2.2
   | ret=>cases hx2;exact fin (some .ret) false rfl hQ2.1 hQ2.2
   | exit i=>cases hx2;exact fin (some (.exit i)) false rfl hQ2.1 hQ2.2
   | goto i=>cases hx2;exact fin (some (.goto i)) false rfl hQ2.1 hQ2.2
   | pan v=>exact hQ2.elim
 | exit i=>exact hQ1.elim
 | goto i=>exact hQ1.elim
 | ret=>exact hQ1.elim
 | pan v=>exact hQ1.elim
def zGG (Q:X→Fr→ES→Prop) (fr:Fr) (s:ES):Option Code→Prop
 | none=>Q .normal fr s
 | some .ret=>Q .ret fr s
 | some (.exit i)=>Q (.exit i) fr s
 | some (.goto i)=>Q (.goto i) fr s
 | _=>False
def rngPost (b l:Nat) (tl:List EV) (cd:Code) (Q:X→Fr→ES→Prop) (fr:Fr):ER→ES→Prop
 | .ret _,s=>∃ st pend,s.get b=some (.rng l tl st pend cd)∧st ≠ .busy∧zGG Q fr (s.kill b) pend
 | .pan v,s=>Q (.pan v) fr s
def xQY (D:Nat):Deferred:={ target:=.collected D,args:=#[] }
theorem esem_range {P:Program} {k:Nat} {Q:X→Fr→ES→Prop} {fr:Fr} {s:ES} (m:List (Nat × EV)) (cd:Code) {g:Operand} {ps:Array Tmp} {asg body:Code} {f:FuncId} {first cap:List EV} {fn:Func} {c:Code}
  (hcd:cd=.rangeFunc g ps asg body) (hg:ev fr g=.fn (.func f) first cap) (hf:P.funcs[f]? = some fn) (hb:fn.body=some c) (hname:(fn.name == "runtime.NumGoroutine")=false) (hm:zQS fr m)
  (h:∀ D,ECalls P f (first++[.fn (.yield (D+1)) [] []]++cap) ((s.new (.raw D (.deferred (some [])))).new (.rng (D+1) (tlM fr.n m) .ready none cd)) (rngPost (s.nx+1) (D+1) (tlM fr.n m) cd Q ⟨fr.m,fr.d,fr.n,xQY D::fr.ds⟩)) :
  ESem P k (.rangeFunc g ps asg body) Q fr s:=by
 intro hk r hr ρ w a hR hF;obtain rfl:r=none:=by
  rcases hr with h | h
  ·exact h
  ·simp[yNK] at h
 have hfr:=hF.ev g;rw[hg,VR] at hfr
 obtain ⟨first',cap',hfv,v1,v2⟩:=hfr;refine wpIn_rangeFunc fun fn0 _=>?_
 have g1:=hR.new (.raw w.heap.size (.deferred (some []))) (.deferred (some [])) ⟨w.heap.size,0,0,0,0⟩ rfl ⟨rfl,World.alloc_heap_new w _⟩;have hle:=g1.le;have g2:=g1.rel.new (.rng (w.heap.size+1) (tlM fr.n m) .ready none cd) (.loop { state:=.ready,pending:=none,fn:=fn0,tmps:=a.tmps,params:=ps,assign:=asg,body:=body,defers:=w.heap.size }) ⟨w.heap.size+1,0,0,0,0⟩ (by simp)
  ⟨rfl,fn0,a.tmps,w.heap.size,by
   have:=World.alloc_heap_new (w.alloc (.deferred (some []))) (.loop { state:=.ready,pending:=none,fn:=fn0,tmps:=a.tmps,params:=ps,assign:=asg,body:=body,defers:=w.heap.size });rw[World.size_alloc] at this
   rw[hcd];exact this,by
   refine VRs.mono ?_ _ _ (VRs.mono hle _ _ (hF.toT hm));intro b l hb
   by_cases hx:b=(s.new (.raw w.heap.size (.deferred (some [])))).nx
   ·have:=g1.rel.fresh b (by omega);exact absurd (hb.symm.trans this) (by simp)
   ·simp[hx,hb]⟩
 have hrun0:(Instr.enterLoop fn0 a.tmps ps asg body (zPK none).round).run P w=.ok (w.heap.size+1,[xQY w.heap.size]) _:=run_enterLoop_outer fn0 a.tmps ps asg body;generalize (w.alloc (.deferred (some []))).alloc (.loop { state:=.ready,pending:=none,fn:=fn0,tmps:=a.tmps,params:=ps,assign:=asg,body:=body,defers:=w.heap.size })=W at g2 hrun0
 refine ⟨w.heap.size+1,[xQY w.heap.size],W,{ target:=.fn (.func f) cap',args:=first' ++ #[.func (.yield (w.heap.size+1)) #[] #[]] },W,f,(first' ++ #[.func (.yield (w.heap.size+1)) #[] #[]])++cap',W,hrun0,?_,fun f' _=>trivial,?_,by simp[zPK,Fence.wide],?_⟩
 ·have hc:a.eval (.const (.func (.yield (w.heap.size+1)) #[] #[]))=.func (.yield (w.heap.size+1)) #[] #[]:=rfl;simp[resolve,hfv,Deferred.ofValue,hc]
 ·simp only[invoke,callFunc,Sem.run_bind,program,Sem.run,Result.andThen_ok,hf,hname,Bool.false_eq_true,if_false,hb,Option.isNone_some];rfl
 ·have hG12:=g1.trans g2;have hcall:=h w.heap.size _ _ ((first' ++ #[.func (.yield (w.heap.size+1)) #[] #[]])++cap') g2.rel (by
   simp only[Array.toList_append];exact ((VRs.mono hG12.le _ _ v1).append (VRs.cons (by rw[VR];exact ⟨#[],#[],rfl,VRs.nil,VRs.nil⟩) VRs.nil)).append (VRs.mono hG12.le _ _ v2))
  have hrun:(callFunc f ((first' ++ #[.func (.yield (w.heap.size+1)) #[] #[]])++cap')).run P W=.ok (.enter f ((first' ++ #[.func (.yield (w.heap.size+1)) #[] #[]])++cap')) W:=by
   simp only[callFunc,Sem.run_bind,program,Sem.run,Result.andThen_ok,hf,hname,Bool.false_eq_true,if_false,hb,Option.isNone_some];rfl
  rw[hrun] at hcall
  simp only at hcall
  refine CallsIn.mono hcall ?_
  rintro e w3 ⟨x,s3,ρ3,hret,hgo,hQ⟩
  have hG:=(hG12.trans hgo).toK hk;have hF3:FR ρ3 ⟨fr.m,fr.d,fr.n,xQY w.heap.size::fr.ds⟩ { a with defers:=[xQY w.heap.size]++a.defers }:=
   ⟨by simp[hF.defers],hF.size,fun t=>(hF.slot t).mono ((hG12.trans hgo).le)⟩
  cases x with
  | pan v=>
    obtain ⟨v',rfl,hv⟩:=hret;exact ⟨.pan v,_,s3,ρ3,⟨v',rfl,hv⟩,hF3,hG,hQ⟩
  | ret v=>
    obtain ⟨v',rfl,hv⟩:=hret;obtain ⟨st,pend,k1,k2,k3⟩:=hQ;obtain ⟨q,q1,q2,q3,q4,q5,q6,q7,_,q9⟩:=hG.recd k1;refine ⟨_,_,run_endLoop q1 (by rw[q2];exact k2),?_⟩;have hG9:=q9 (.loop { q with state:=.exhausted });have out:∀ x e,XR ρ3 x e→Q x ⟨fr.m,fr.d,fr.n,xQY w.heap.size::fr.ds⟩ (s3.kill (s.nx+1))→CPost k ρ s w Q e { a with defers:=[xQY w.heap.size]++a.defers } (w3.putObj (w.heap.size+1) (.loop { q with state:=.exhausted })):=
     fun x e hx hq=>⟨x,_,_,ρ3,hx,hF3,hG9,hq⟩
    revert out
    generalize w3.putObj (w.heap.size+1) (.loop { q with state:=.exhausted })=W4;intro out;rw[q3]
    cases pend with
    | none=>exact out .normal _ rfl k3
    | some c=>
      cases c<;>first|exact k3.elim|skip
      case ret=>exact wpIn_ret (out .ret _ rfl k3)
      case exit i=>exact wpIn_exit (out (.exit i) _ rfl k3)
      case goto i=>exact wpIn_goto (out (.goto i) _ rfl k3)
theorem zZZ {k:Nat} {v:EV} {s:ES} {Q:ER→ES→Prop} (hb:blBelow s.nx s.bl) (hk:k≤s.nx) (hv:v.bel s.nx) (hQ:Q (.ret v) s):xXM k Q (.ret v) s:=
 ⟨s,⟨fun _ _ h=>h,hb,rfl⟩,hk,hv,hQ⟩
end
section
mutual
theorem EV.bel_mono {k k':Nat} (h:k≤k'):∀ v:EV,v.bel k→v.bel k'
 | .unk,_ | .bool _,_ | .int _ _,_ | .str _,_ | .ptr none,_ | .slice none _ _,_ | .map none,_ | .nilFn,_ | .nilIface,_=>by simp[EV.bel]
 | .ptr (some a),x=>by simp only[EV.bel] at x ⊢;omega
 | .slice (some a) _ _,x=>by simp only[EV.bel] at x ⊢;omega
 | .map (some r),x=>by simp only[EV.bel] at x ⊢;omega
 | .fn _ as bs,x=>by simp only[EV.bel] at x ⊢;exact ⟨zQJ h as x.1,zQJ h bs x.2⟩
 | .iface _ v,x=>by simp only[EV.bel] at x ⊢;exact EV.bel_mono h v x
 | .agg cs,x=>by simp only[EV.bel] at x ⊢;exact zQJ h cs x
 | .tuple cs,x=>by simp only[EV.bel] at x ⊢;exact zQJ h cs x
theorem zQJ {k k':Nat} (h:k≤k'):∀ l:List EV,zQX k l→zQX k' l
 | [],_=>by simp[zQX]
 | v::vs,x=>by simp only[zQX] at x ⊢;exact ⟨EV.bel_mono h v x.1,zQJ h vs x.2⟩
end
theorem zMV {k k':Nat} (h:k≤k'):∀ l:List (EV × EV),zVH k l→zVH k' l
 | [],_=>trivial
 | (x,y)::r,a=>⟨x.bel_mono h a.1,y.bel_mono h a.2.1,zMV h r a.2.2⟩
theorem EO.bel_mono {k k':Nat} (h:k≤k') (o:EO) (x:o.bel k):o.bel k':=by
 cases o with
 | cells c t z wr fz=>exact zQJ h c x
 | map es=>exact zMV h es x
 | sIter s p=>trivial
 | raw id o=>trivial
 | rng id tl st pend cd=>exact zQJ h tl x
def zXT (t:Nat):List (Nat × EO)→Prop
 | []=>True
 | (b,_)::r=>t≤b∧zXT t r
theorem zFS {t:Nat}:∀ {l:List (Nat × EO)},zXT t l→∀ {i o},lkp l i=some o→t≤i
 | (b,x)::_,hk,i,o,h=>by
   simp only[zXT] at hk
   simp only[lkp] at h
   split at h
   ·rename_i hb;subst hb;exact hk.1
   ·exact zFS hk.2 h
class Bg (t:Nat) (B:List (Nat × EO)):Prop where
 below:blBelow t B
 keys:zWN B
class Big (t:Nat):Prop where
 big:11≤t
class AppW (t:Nat) (bl:List (Nat × EO)) (M B:outParam (List (Nat × EO))):Prop where
 eq:bl=M++B
 ge:zXT t M
instance AppW.nil (t:Nat) (B:List (Nat × EO)) [Bg t B]:AppW t B [] B:=⟨rfl,trivial⟩
instance AppW.cons (t j:Nat) (o:EO) (bl M B:List (Nat × EO)) [h:AppW t bl M B]:AppW t ((t+j,o)::bl) ((t+j,o)::M) B:=⟨by rw[h.eq];rfl,Nat.le_add_right _ _,h.ge⟩
instance AppW.cons0 (t:Nat) (o:EO) (bl M B:List (Nat × EO)) [h:AppW t bl M B]:AppW t ((t,o)::bl) ((t,o)::M) B:=⟨by rw[h.eq];rfl,Nat.le_refl _,h.ge⟩
theorem Bg.lkp_lt {t:Nat} {B:List (Nat × EO)} [h:Bg t B] {i:Nat} {o:EO} (hl:lkp B i=some o):i<t∧o.bel t:=zKW h.below hl
theorem zVF {t:Nat} {l:List (Nat × EO)} (h:zXT t l) {i:Nat} (hi:i<t):lkp l i=none:=by
 cases hx:lkp l i with
 | none=>rfl
 | some o=>have:=zFS h hx;omega
theorem Bg.none {t:Nat} {B:List (Nat × EO)} [h:Bg t B] {i:Nat} (hi:t≤i):lkp B i=none:=by
 cases hx:lkp B i with
 | none=>rfl
 | some o=>have:=(Bg.lkp_lt (t:=t) hx).1;omega
theorem Bg.lkp_hi {t:Nat} {B:List (Nat × EO)} [h:Bg t B] {j:Nat}:lkp B (t+j)=Option.none:=Bg.none (Nat.le_add_right _ _)
theorem Bg.blBelow {t:Nat} {B:List (Nat × EO)} [h:Bg t B] {j:Nat}:E.blBelow (t+j) B=True:=by
 have:E.blBelow (t+j) B:=zYM fun i o hm=>by
  obtain ⟨h1,h2⟩:=zXY h.below hm;exact ⟨by omega,EO.bel_mono (by omega) o h2⟩
 simp[this]
theorem Bg.blBelow0 {t:Nat} {B:List (Nat × EO)} [h:Bg t B]:E.blBelow t B=True:=by simp[h.below]
theorem yXT {α:Type}:∀ {l:List (Nat × α)} {n:Nat},lkp l n=none→dropL l n=l
 | [],_,_=>rfl
 | (k,v)::r,n,h=>by
   simp only[lkp] at h
   split at h
   ·cases h
   ·rename_i hk;simp only[dropL,hk,if_false];rw[yXT h]
theorem Bg.dropL {t:Nat} {B:List (Nat × EO)} [h:Bg t B] {j:Nat}:E.dropL B (t+j)=B:=yXT Bg.lkp_hi
theorem Bg.dropL0 {t:Nat} {B:List (Nat × EO)} [h:Bg t B]:E.dropL B t=B:=yXT (Bg.none (Nat.le_refl _))
theorem AppW.getB {t:Nat} {bl M B:List (Nat × EO)} [h:AppW t bl M B] {nx:Nat} {G:List Gl} (hn:t≤nx) {i:Nat} {o:EO} (hi:i<t) (hl:lkp B i=some o):(⟨bl,nx,G⟩:ES).get i=some o:=by
 simp only[ES.get,if_pos (show i<nx by omega),h.eq,zXW,zVF h.ge hi,hl];rfl
theorem yNN {s:ES}:∀ {l:List (Nat × EO)},(∀ i o,(i,o)∈l→s.get i=some o)→zWG s l
 | [],_=>trivial
 | (b,o)::r,h=>⟨h b o (.head _),yNN fun i o hm=>h i o (.tail _ hm)⟩
theorem AppW.less {t:Nat} {bl M B:List (Nat × EO)} [h:AppW t bl M B] [hB:Bg t B] {j:Nat} {G:List Gl}:zWG ⟨bl,t+j,G⟩ B=True:=by
 have:zWG (⟨bl,t+j,G⟩:ES) B:=yNN fun i o hm=>h.getB (Nat.le_add_right _ _) (zXY hB.below hm).1 (zJR hB.keys hm)
 simp[this]
theorem AppW.less0 {t:Nat} {bl M B:List (Nat × EO)} [h:AppW t bl M B] [hB:Bg t B] {G:List Gl}:zWG ⟨bl,t,G⟩ B=True:=AppW.less (j:=0)
def yZB (t:Nat) (q:List Nat) (m:Nat):Nat→Nat:=fun i=>if i<t then i else if i<t+q.length then q.getD (i - t) 0 else m+(i - (t+q.length))
theorem zQR {t:Nat} {q:List Nat} {m i:Nat} (h:i<t):yZB t q m i=i:=if_pos h
theorem xVY {t:Nat} {q:List Nat} {m j:Nat}:yZB t q m (t+j)=if j<q.length then q.getD j 0 else m+(j - q.length):=by
 unfold yZB;rw[if_neg (by omega)]
 by_cases h:j<q.length
 ·rw[if_pos (by omega),if_pos h];congr 1;omega
 ·rw[if_neg (by omega),if_neg h];omega
theorem namW_0 {t:Nat} {q:List Nat} {m:Nat}:yZB t q m t=if 0<q.length then q.getD 0 0 else m+(0 - q.length):=xVY (j:=0)
theorem namW_lo {t:Nat} [h:Big t] {q:List Nat} {m i:Nat} (hi:i<11):yZB t q m i=i:=zQR (by have:=h.big;omega)
theorem lt_big {t n i:Nat} [h:Big t] (hi:i<11):(i<t+n)=True:=by have:=h.big;simp;omega
theorem lt_big0 {t i:Nat} [h:Big t] (hi:i<11):(i<t)=True:=by have:=h.big;simp;omega
theorem ne_big {t n i:Nat} [h:Big t] (hi:i<11):(t+n=i)=False:=by have:=h.big;simp;omega
theorem ne_big0 {t i:Nat} [h:Big t] (hi:i<11):(t=i)=False:=by have:=h.big;simp;omega
def EffW (G:List Gl) (P:Program) (g:FuncId) (args:List EV) (t:Nat) (L B:List (Nat × EO)) (n:Nat) (v:EV) (L' B':List (Nat × EO)) (n':Nat):Prop:=
 Eff G P g args (L++B) (t+n) v (L' ++ B') (t+n')
theorem zJS {k:Nat}:∀ {a b:List (Nat × EO)},blBelow k a→blBelow k b→blBelow k (a++b)
 | [],_,_,h=>h
 | (_,_)::_,_,h,h2=>⟨h.1,h.2.1,zJS h.2.2 h2⟩
theorem yQX {π:Nat→Nat}:∀ (a b:List (Nat × EO)),zTV π (a++b)=zTV π a++zTV π b
 | [],_=>rfl
 | (i,o)::r,b=>by simp only[List.cons_append,zTV,yQX r b]
theorem yBM {π:Nat→Nat} {t:Nat} (h:∀ i,i<t→π i=i):∀ {B:List (Nat × EO)},blBelow t B→zTV π B=B
 | [],_=>rfl
 | (i,o)::r,hb=>by simp only[blBelow] at hb;simp only[zTV,h i hb.1,EO.ren_idF h o hb.2.1,yBM h hb.2.2]
theorem yKM {s:ES}:∀ {a b:List (Nat × EO)},allIn s a→allIn s b→allIn s (a++b)
 | [],_,_,h=>h
 | (_,_)::_,_,h,h2=>⟨h.1,yKM h.2 h2⟩
theorem zNR {s:ES}:∀ {l:List (Nat × EO)},(∀ i o,(i,o)∈l→s.get i=some o)→allIn s l
 | [],_=>trivial
 | (b,o)::r,h=>⟨h b o (.head _),zNR fun i o hm=>h i o (.tail _ hm)⟩
theorem yXM {s:ES}:∀ {l:List (Nat × EO)},allIn s l→∀ {i o},(i,o)∈l→s.get i=some o
 | (b,x)::_,ha,i,o,h=>by
   cases h with
   | head=>exact ha.1
   | tail _ h=>exact yXM ha.2 h
theorem EffW.at {G:List Gl} {P:Program} {g:FuncId} {args args2:List EV} {t n n':Nat} {L L' B B':List (Nat × EO)} {v:EV} (h:EffW G P g args t L B n v L' B' n') {bl M:List (Nat × EO)} {nx:Nat} [hA:AppW t bl M B] [hB:Bg t B] [hB':Bg t B'] (q:List Nat) (hq:q.length=n)
  (hs:q.Nodup∧(∀ x∈q,t≤x∧x<nx)∧args2=zZG (yZB t q nx) args∧zQX (t+n) args∧blBelow (t+n) L∧blBelow (t+n') L'∧zWN L'∧zXT t L'∧n≤n'∧t≤nx∧allIn ⟨M,nx,G⟩ (zTV (yZB t q nx) L)∧zJV nx M) {K Kp:EV→ES→Prop}
  (hK:K (v.ren (yZB t q nx)) ⟨zTV (yZB t q nx) L' ++ (yKN (yZB t q nx) L M++B'),nx+(n' - n),G⟩):ECalls P g args2 ⟨bl,nx,G⟩ (KC K Kp):=by
 obtain ⟨s1,s2,s3,s4,s5,s6,s7,s8,s9,s10,s11,s12⟩:=hs;subst hq;have hid:∀ i,i<t→yZB t q nx i=i:=fun i hi=>zQR hi
 have hin:∀ i,t≤i→i<t+q.length→∃ h:i - t<q.length,yZB t q nx i=q[i - t]:=fun i h1 h2=>⟨by omega,by
  unfold yZB;rw[if_neg (by omega),if_pos h2];simp[show i - t<q.length by omega]⟩
 have hltp:∀ i,i<t+q.length→yZB t q nx i<nx:=fun i hi=>by
  by_cases h1:i<t
  ·rw[hid i h1];omega
  ·obtain ⟨a,e⟩:=hin i (by omega) hi;rw[e];exact (s2 _ (List.getElem_mem a)).2
 have hMB:∀ {j O},lkp M j=some O→t≤j∧lkp bl j=some O:=fun {j O} hj=>⟨zFS hA.ge hj,by rw[hA.eq,zXW,hj];rfl⟩
 refine ECalls.frame (ECalls.compact h) (yZB t q nx) s3 s4 (fun i j hi hj e=>?_) hltp (fun i=>?_) (zJS s5 (by rw[Bg.blBelow];trivial)) (fun i o hg=>?_) (fun x hx=>hx) ?_
 ·simp only at hi hj
  by_cases h1:i<t<;>by_cases h2:j<t
  ·rwa [hid i h1,hid j h2] at e
  ·obtain ⟨a,e2⟩:=hin j (by omega) hj;rw[hid i h1,e2] at e
   have:=(s2 _ (List.getElem_mem a)).1;omega
  ·obtain ⟨a,e2⟩:=hin i (by omega) hi;rw[hid j h2,e2] at e
   have:=(s2 _ (List.getElem_mem a)).1;omega
  ·obtain ⟨a,e1⟩:=hin i (by omega) hi;obtain ⟨b,e2⟩:=hin j (by omega) hj;rw[e1,e2] at e
   have:=(List.getElem_inj s1).1 e;omega
 ·show yZB t q nx (t+q.length+i)=nx+i;unfold yZB;rw[if_neg (by omega),if_neg (by omega)];omega
 ·have hl:=(ES.get_lt hg).2;simp only[zXW] at hl
  cases hx:lkp L i with
  | some o2=>
    rw[hx] at hl
    have hl':o2=o:=by simpa using hl
    subst hl';have h1:=zBR s11 hx;obtain ⟨h2,h3⟩:=ES.get_lt h1;obtain ⟨_,h4⟩:=hMB h3;simp only[ES.get,if_pos h2,h4]
  | none=>
    rw[hx] at hl
    have hl':lkp B i=some o:=by simpa using hl
    obtain ⟨h1,h2⟩:=Bg.lkp_lt (t:=t) hl';rw[hid i h1,EO.ren_idF hid o h2];exact hA.getB s10 h1 hl'
 ·rintro x s' ⟨rfl,rfl⟩
  refine ⟨⟨zTV (yZB t q nx) L' ++ (yKN (yZB t q nx) L M++B'),nx+(n' - q.length),G⟩,⟨by simp only;omega,rfl,by simp only;omega,fun j O hj=>?_⟩,hK⟩;have hj2:=(ES.get_lt hj).2;simp only[zXW] at hj2
  cases hr:lkp (zTV (yZB t q nx) L') j with
  | some o=>
    rw[hr] at hj2
    simp at hj2
    subst hj2;obtain ⟨i,x,h1,h2,h3⟩:=yJH hr;refine .inl ⟨i,x,?_,h2,h3⟩;unfold ES.get;rw[if_pos (zXY s6 h1).1];simp only[zXW,zJR s7 h1];rfl
  | none=>
    rw[hr] at hj2
    cases hr2:lkp (yKN (yZB t q nx) L M) j with
    | some o=>
      rw[hr2] at hj2
      simp at hj2
      subst hj2;obtain ⟨h1,h2⟩:=yVY hr2;obtain ⟨h3,h4⟩:=hMB h1;refine .inr ⟨by unfold ES.get;rw[if_pos (zBX s12 h1)];exact h4,fun i o hg=>?_⟩;have hl:=(ES.get_lt hg).2;simp only[zXW] at hl
      cases hx:lkp L i with
      | some o2=>exact h2 i o2 (yNH hx)
      | none=>
        rw[hx] at hl
        have hl':lkp B i=some o:=by simpa using hl
        have:=(Bg.lkp_lt (t:=t) hl').1;rw[hid i this];omega
    | none=>
      rw[hr2] at hj2
      have hj3:lkp B' j=some O:=by simpa using hj2
      obtain ⟨h1,h2⟩:=Bg.lkp_lt (t:=t) hj3;refine .inl ⟨j,O,?_,hid j h1,(EO.ren_idF hid O h2).symm⟩;unfold ES.get;rw[if_pos (show j<t+n' by omega)];simp only[zXW,zVF s8 h1,hj3];rfl
theorem done_W {t n n0 nx:Nat} {v v0:EV} {bls M L0 B' bl:List (Nat × EO)} {G:List Gl} [hA:AppW t bls M B'] [hB:Bg t B'] (p:List Nat) (hs:n0=n+p.length∧p.Nodup∧(∀ x∈p,t+n≤x∧x<nx)∧t+n≤nx∧blBelow (t+n0) L0∧v0.bel (t+n0))
  (hv:v=v0.ren (nam (t+n) p)) (hbl:allIn ⟨M,nx,G⟩ (zTV (nam (t+n) p) L0)) :
  xXM (t+n) (Cmp ⟨bl,t+n,G⟩ fun x s=>x=.ret v0∧s=⟨L0++B',t+n0,G⟩) (.ret v) ⟨bls,nx,G⟩:=by
 obtain ⟨s1,s2,s3,s4,s5,s6⟩:=hs;have hid:∀ i,i<t→nam (t+n) p i=i:=fun i hi=>by simp only[nam];rw[if_pos (by omega)]
 refine done_ef2 p ⟨by omega,s2,s3,s4,zJS s5 (by rw[Bg.blBelow];trivial),s6⟩ rfl hv ?_;rw[yQX,yBM hid hB.below];refine yKM (zNR fun i o hm=>?_) (zNR fun i o hm=>hA.getB (by omega) (zXY hB.below hm).1 (zJR hB.keys hm));have h1:=yXM hbl hm;obtain ⟨h2,h3⟩:=ES.get_lt h1;simp only[ES.get,if_pos h2,hA.eq,zXW,h3];rfl
end
section
theorem shl1_16 (a:Int):shlI .u16 a 1=a*2 % 65536:=by simp[shlI,IntKind.bits,IntKind.wrap_u16]
theorem shl1_32 (a:Int):shlI .u32 a 1=a*2 % 4294967296:=by simp[shlI,IntKind.bits,IntKind.wrap_u32]
theorem shl1_64 (a:Int):shlI .u64 a 1=a*2 % 18446744073709551616:=by simp[shlI,IntKind.bits,IntKind.wrap_u64]
theorem yBH (a:Int):shlI .u64 a 8=a*256 % 18446744073709551616:=by simp[shlI,IntKind.bits,IntKind.wrap_u64]
theorem yBG (a:Int):shrI .u64 a 8=a / 256:=by
 rw[shrI_div (by simp[IntKind.bits])];rfl
attribute [go_sem] shl1_16 shl1_32 shl1_64 Int.reduceMod Int.reduceMul Int.reduceEq
def leB:Nat→Nat→List UInt8
 | 0,_=>[]
 | k+1,v=>UInt8.ofNat v::leB k (v / 256)
theorem zXX:∀ (k v:Nat),(leB k v).length=k
 | 0,_=>rfl
 | k+1,v=>by simp[leB,zXX k]
def leN:List UInt8→Nat
 | []=>0
 | b::r=>b.toNat+256*leN r
theorem leN_lt:∀ l:List UInt8,leN l<256 ^ l.length
 | []=>by simp[leN]
 | b::r=>by
   have:=leN_lt r;have hb:=UInt8.toNat_lt b;simp only[leN,List.length_cons,Nat.pow_succ];omega
theorem yPG (v:Nat):(UInt8.ofNat v).toNat=v % 256:=by simp
theorem yQY:∀ (k v:Nat),v<256 ^ k→leN (leB k v)=v
 | 0,v,h=>by simp at h;subst h;rfl
 | k+1,v,h=>by
   rw[Nat.pow_succ] at h
   have:=yQY k (v / 256) (by rw[Nat.div_lt_iff_lt_mul (by omega)];exact h);simp only[leB,leN,this,yPG];omega
def zU (n:Nat):List UInt8:=List.replicate n 0
theorem zXV (n:Nat):(zU n).length=n:=by simp[zU]
theorem xZX:zU 0=[]:=rfl
theorem zNB (n k:Nat):(zU n).drop k=zU (n - k):=by simp[zU]
theorem zeros_U (n:Nat):zWT [.int .u8 0] n=zQZ (zU n):=by
 induction n with
 | zero=>rfl
 | succ n ih=>simp only[zWT,ih,zU,List.replicate_succ,zJW,List.cons_append,List.nil_append];rfl
theorem xPF (v:Nat):leB 0 v=[]:=rfl
theorem xPD:∀ (k v:Nat),leB (k+1) v=leB k v++[UInt8.ofNat (v / 256 ^ k)]
 | 0,v=>by simp[leB]
 | k+1,v=>by
   rw[leB,xPD k (v / 256),leB,Nat.div_div_eq_div_mul,Nat.pow_succ,Nat.mul_comm];rfl
theorem u8_ofNat (x:Nat):EV.int .u8 (UInt8.ofNat x).toNat=.int .u8 ((x:Int) % 256):=by
 rw[yPG];simp
theorem xTF {s:ES} {K:ES→Prop}:yKZ [] s K=K s:=rfl
attribute [go_sem] xTF zeros_U xZX xPF
attribute [simp] zXV zXX
end
section
def yXY (P:Program) (ts:List TypeId) (x:EV) (s:ES) (K:EV→ES→Prop):Prop:=
 match ts with
 | t::_=>match zXZ P t with
   | some i=>match i.u,x with
     | .map _ _,.map none=>K (.tuple []) s
     | .map _ _,.map (some b)=>match s.get b with
       | some (.map _)=>K (.tuple []) (s.set b (.map []))
       | _=>False
     | .slice _,.slice none _ _=>K (.tuple []) s
     | .slice e,.slice (some a) len _=>match zXZ P e with
       | some j=>match s.get a.b with
         | some (.cells c t z wr fz)=>(wr=true∧fz≤a.o∧j.zero.length=j.size∧j.zero.all EV.one=true∧a.o+len*j.size≤c.length)∧K (.tuple []) (s.set a.b (.cells (zZH c a.o (zWT j.zero len)) t z true fz))
         | _=>False
       | none=>False
     | _,_=>False
   | none=>False
 | []=>False
theorem zRQ (c:List EV) (o:Nat):zZH c o []=c:=by simp[zZH]
theorem yZX {z:List EV} {p:EV→Bool} (h:z.all p=true):∀ n,(zWT z n).all p=true
 | 0=>rfl
 | n+1=>by simp[zWT,List.all_append,h,yZX h n]
theorem zHJ (z:Array Value) (n:Nat):(Builtin.zeroCells z n).toList=((Array.range (n*z.size)).map (z[· % z.size]!)).toList:=by
 simp[Builtin.zeroCells]
theorem zGY {P:Program} {ts:Array TypeId} {a:Operand} {x:EV} {s:ES} {K:EV→ES→Prop} (h:yXY P ts.toList x s K):EOp P (.call { callee:=.builtin .clear,args:=#[a],argTypes:=ts }) [x] s K:=by
 intro ρ w act o ho hR hv;simp only[Op.operands,Call.operands] at hv
 have hv':VRs ρ [x] [act.eval a]:=by simpa using hv
 simp only[VRs] at hv'
 obtain ⟨x',l',e1,hx,e3⟩:=hv';subst e3;simp only[List.cons.injEq,and_true] at e1
 subst e1;obtain ⟨dst,op,type,pos,after,guard⟩:=o;simp only at ho;subst ho
 have hm:(#[a].map act.eval) = #[act.eval a]:=by simp
 refine .run (m:=Builtin.clear_ ts type (#[a].map act.eval)) rfl ?_;rw[hm];generalize act.eval a=x' at hx
 unfold yXY at h
 split at h
 ·rename_i t us h0
  obtain ⟨tl⟩:=ts;simp only at h0;subst h0
  split at h
  ·rename_i i hi
   obtain ⟨inf,d,z,T⟩:=zQG hi
   split at h
   ·rename_i hu
    rw[VR] at hx;subst hx
    exact RunV.pure (v:=.tuple []) (v':=.tuple #[]) hR (by simp[Builtin.clear_,T.run_und w]) (by rw[VR];exact ⟨#[],rfl,VRs.nil⟩) h
   ·rename_i b hu
    split at h
    ·rename_i es hg
     rw[VR] at hx
     obtain ⟨l,hl,rfl⟩:=hx;have hb:=hR.live _ _ _ hg hl;obtain ⟨es',clock,h1,h2,h3⟩:=hb;have hlt:=(Array.getElem?_eq_some_iff.1 h1).1;refine ⟨.tuple [],.tuple #[],_,_,w.putObj l.r (.map #[] clock),?_,by rw[VR];exact ⟨#[],rfl,VRs.nil⟩,hR.turn b _ (.map []) l hg hl rfl rfl rfl rfl World.putObj_size (fun r hr=>World.putObj_heap_other hr) ⟨#[],clock,World.putObj_heap_same hlt,⟨rfl,by simp,by simp⟩,fun i k v h=>by simp at h⟩ rfl,h⟩;have hd:∃ k v,d=.map k v:=by rw[T.u] at hu;cases d<;>simp[zRY] at hu;exact ⟨_,_,rfl⟩
     obtain ⟨k,v,rfl⟩:=hd;simp[Builtin.clear_,T.run_und w,getObj,setObj,Sem.run,h1,Result.andThen,World.putObj]
    ·exact h.elim
   ·rename_i hu
    rw[VR] at hx;obtain ⟨rfl,rfl,rfl⟩:=hx
    exact RunV.pure (v:=.tuple []) (v':=.tuple #[]) hR (by simp[Builtin.clear_,T.run_und w]) (by rw[VR];exact ⟨#[],rfl,VRs.nil⟩) h
   ·rename_i e a0 len cap hu
    have hd:d=.slice e:=by rw[T.u] at hu;cases d<;>simp[zRY] at hu;subst hu;rfl
    subst hd
    split at h
    ·rename_i j hj
     obtain ⟨inf2,d2,z2,T2⟩:=zQG hj
     split at h
     ·rename_i c t' z' wr fz hg
      obtain ⟨⟨hwr,hfz,hzl,hone,hle⟩,hK⟩:=h;subst hwr;have hx':=hx;rw[VR] at hx'
      obtain ⟨l,c',o',hloc,hcap,hlc,ho',rfl⟩:=hx'
      by_cases h0:len=0
      ·subst h0;have hset:Go1 ρ s w ρ (s.set a0.b (.cells (zZH c a0.o (zWT j.zero 0)) t' z' true fz)) w:=by
        rw[zWT,zRQ];exact hR.turn0 a0.b _ _ l hg hloc rfl rfl rfl rfl rfl (fun _ _=>rfl) (hR.live _ _ _ hg hloc)
       refine ⟨.tuple [],.tuple #[],_,_,_,?_,by rw[VR];exact ⟨#[],rfl,VRs.nil⟩,hset,hK⟩;simp[Builtin.clear_,T.run_und w]
      ·have hz:VRs ρ j.zero z2.cells.toList:=by rw[T2.cells];exact VRs.ofV _
       have hzs:z2.cells.size=j.size:=by rw[← hzl,T2.cells];simp
       have hzc:VRs ρ (zWT j.zero len) (Builtin.zeroCells z2.cells len).toList:=by
        rw[zHJ];exact zSH hz len _ (by rw[hzs,hzl])
       have hzl2:(zWT j.zero len).length=len*j.size:=by rw[zZJ,hzl]
       obtain ⟨w',r1,r2⟩:=zHB (P:=P) hR hg hloc (o:=a0.o) hzc (VRs.one hzc (yZX hone len)) hfz (by omega);have ho:o'=a0.o+l.d:=by rcases ho' with q | q;exact q;(have:=hcap.le;omega)
       subst ho;refine ⟨.tuple [],.tuple #[],_,_,_,?_,by rw[VR];exact ⟨#[],rfl,VRs.nil⟩,r2,hK⟩;obtain ⟨n,rfl⟩:∃ n,len=n+1:=⟨len - 1,by omega⟩;simp[Builtin.clear_,T.run_und w,T2.run_zero w,r1]
     ·exact h.elim
    ·exact h.elim
   ·exact h.elim
  ·exact h.elim
 ·exact h.elim
def eArrAt (P:Program) (t:TypeId) (x:EV) (s:ES) (K:EV→ES→Prop):Prop:=
 match zXZ P t with
 | some i=>match i.u,x with
   | .arr n _,.slice (some a) len _=>(0<n∧n≤len)∧K (.ptr (some a)) s
   | _,_=>False
 | none=>False
theorem eop_arrAt {P:Program} {t:TypeId} {a:Operand} {x:EV} {s:ES} {K:EV→ES→Prop} (h:eArrAt P t x s K):EOp P (.sliceToArrayPointer t a) [x] s K:=by
 intro ρ w act o ho hR hv;have hv':VRs ρ [x] [act.eval a]:=by simpa [Op.operands] using hv
 simp only[VRs] at hv'
 obtain ⟨x',l',e1,hx,e3⟩:=hv';subst e3;simp only[List.cons.injEq,and_true] at e1
 subst e1;obtain ⟨dst,op,type,pos,after,guard⟩:=o;simp only at ho;subst ho
 refine .run (m:=Instr.arrayAt t (act.eval a)) rfl ?_;generalize act.eval a=x' at hx
 unfold eArrAt at h
 split at h
 ·rename_i i hi
  obtain ⟨inf,d,z,T⟩:=zQG hi
  split at h
  ·rename_i n e a0 len cap hu
   obtain ⟨⟨h0,h1⟩,hK⟩:=h;have hd:d=.array n e:=by rw[T.u] at hu;cases d<;>simp[zRY] at hu;obtain ⟨rfl,rfl⟩:=hu;rfl
   subst hd;rw[VR] at hx
   obtain ⟨l,c',o',hloc,hcap,hlc,ho',rfl⟩:=hx;have ho:o'=a0.o+l.d:=by rcases ho' with q | q;exact q;(have:=hcap.le;omega)
   subst ho;refine RunV.pure (v:=.ptr (some a0)) (v':=.pointer (some ⟨l.r,a0.o+l.d,none⟩)) hR ?_ (by rw[VR];exact ⟨l,hloc,rfl⟩) hK;simp[Instr.arrayAt,T.run_und w,show ¬ len<n by omega]
  ·exact h.elim
 ·exact h.elim
def zTF (k:IntKind) (l:List Int):List EV:=l.map (.int k)
theorem zNP (l:List UInt8):zQZ l=zTF .u8 (l.map fun b=>(b.toNat:Int)):=by simp[zQZ,zTF]
theorem yHF:∀ (xs ys:List Int),xs.length=ys.length→((List.range xs.length).all fun i=>decide (xs.getD i 0=ys.getD i 0))=decide (xs=ys)
 | [],[],_=>rfl
 | x::xs,y::ys,h=>by
   have ih:=yHF xs ys (by simpa using h);rw[List.length_cons,List.range_succ_eq_map,List.all_cons,List.all_map];simp only[List.getD_cons_zero,Function.comp_def,List.getD_cons_succ,ih];simp[Bool.decide_and]
 | [],_::_,h=>by simp at h
 | _::_,[],h=>by simp at h
theorem yYX (k:IntKind):∀ (xs ys:List Int),eqE.eqL (zTF k xs) (zTF k ys)=decide (xs=ys)
 | [],[]=>by simp[zTF,eqE.eqL]
 | x::xs,y::ys=>by
   have:=yYX k xs ys;simp only[zTF] at this
   simp only[zTF,List.map_cons,eqE.eqL,eqE,this];simp[Bool.decide_and]
 | [],_::_=>by simp[zTF,eqE.eqL]
 | _::_,[]=>by simp[zTF,eqE.eqL]
theorem eqE_bytes (xs ys:List UInt8):eqE (.agg (zQZ xs)) (.agg (zQZ ys))=decide (xs=ys):=by
 rw[zNP,zNP,eqE,yYX];refine decide_eq_decide.2 ⟨fun h=>?_,fun h=>by rw[h]⟩;exact (List.map_inj_right (fun a b h=>UInt8.toNat_inj.1 (by omega))).1 h
theorem yFG {ρ:Env} {k:IntKind}:∀ {xs:List Int} {l:List Value},VRs ρ (zTF k xs) l→l=xs.map (Value.int k)
 | [],l,h=>by simp only[zTF,List.map_nil,VRs] at h;simpa using h
 | x::xs,l,h=>by
   simp only[zTF,List.map_cons,VRs] at h
   obtain ⟨v',l',rfl,h1,h2⟩:=h;rw[VR] at h1
   rw[h1,yFG (xs:=xs) h2,List.map_cons]
theorem xQR {P:Program} {w:World} {d:Nat} {e:TypeId} {k k':IntKind} (he:P.underlying e=some (.int k')) (xs ys:List Int):∀ is:List Nat,(∀ i∈is,i<xs.length∧i<ys.length) →
  (Op.eqItems (d+1) e 1 (xs.map (Value.int k)).toArray (ys.map (Value.int k)).toArray is).run P w=.ok (is.all fun i=>decide (xs.getD i 0=ys.getD i 0)) w
 | [],_=>by simp[Op.eqItems]
 | i::is,h=>by
   obtain ⟨h1,h2⟩:=h i (by simp);have ih:=xQR (w:=w) (d:=d) (k:=k) he xs ys is fun j hj=>h j (by simp[hj])
   have px:(part e (xs.map (Value.int k)).toArray (i*1)).run P w=.ok (.int k (xs.getD i 0)) w:=by
    simp[part,isAgg,run_underlying he,h1]
   have py:(part e (ys.map (Value.int k)).toArray (i*1)).run P w=.ok (.int k (ys.getD i 0)) w:=by
    simp[part,isAgg,run_underlying he,h2]
   simp only[Op.eqItems,Sem.run_bind,px,py,Result.andThen_ok,run_equalIn_int w d e k k' _ _ he,List.all_cons]
   by_cases hab:xs.getD i 0=ys.getD i 0
   ·have hb:(xs.getD i 0 == ys.getD i 0)=true:=beq_iff_eq.2 hab;rw[hb,decide_eq_true hab,Bool.true_and,← ih];rfl
   ·have hb:(xs.getD i 0 == ys.getD i 0)=false:=beq_eq_false_iff_ne.2 hab;simp only[hb,Bool.not_false,if_true,Sem.run_pure,hab,decide_false,Bool.false_and]
theorem xRY {P:Program} {t e:TypeId} {n:Nat} {inf:TypeInfo} {k k':IntKind} (hu:P.underlying t=some (.array n e)) (hi:P.info? e=some inf) (h1:P.cellsOf e=1) (he:P.underlying e=some (.int k')) (hg:P.eqGuardType P.depth t=false)
  {xs ys:List Int} (hx:xs.length=n) (hy:ys.length=n):EqS P .eql t (.agg (zTF k xs)) (.agg (zTF k ys)) (eqE (.agg (zTF k xs)) (.agg (zTF k ys)))∧EqS P .neq t (.agg (zTF k xs)) (.agg (zTF k ys)) (!eqE (.agg (zTF k xs)) (.agg (zTF k ys))):=by
 have key:∀ (ρ:Env) (x' y':Value) (w:World),VR ρ (.agg (zTF k xs)) x'→VR ρ (.agg (zTF k ys)) y'→∃ cs ds,x'=.agg cs∧y'=.agg ds∧(Op.equalIn 10000 t (.agg cs) (.agg ds)).run P w=.ok (eqE (.agg (zTF k xs)) (.agg (zTF k ys))) w:=by
  intro ρ x' y' w hx' hy';rw[VR] at hx' hy'
  obtain ⟨cs,rfl,hc⟩:=hx';obtain ⟨ds,rfl,hd⟩:=hy';refine ⟨cs,ds,rfl,rfl,?_⟩;have hc':=yFG hc;have hd':=yFG hd;obtain ⟨cl⟩:=cs;obtain ⟨dl⟩:=ds;simp only at hc' hd'
  subst hc' hd';rw[show (10000:Nat)=9999+1 from rfl,run_equalIn_array w 9999 _ _ hu hi,h1,show (9999:Nat)=9998+1 from rfl,xQR he xs ys _ (fun i hi=>by have:=List.mem_range.1 hi;omega),eqE,yYX,← hx,yHF xs ys (hx.trans hy.symm)]
 constructor
 ·intro ρ x' y' ox oy w hx hy;obtain ⟨cs,ds,rfl,rfl,hk⟩:=key ρ x' y' w hx hy;simp only[Sem.run_bind,run_eqGuard_agg w _ _ _ _ _ _ hg,Result.andThen_ok,run_eql_struct,hk]
 ·intro ρ x' y' ox oy w hx hy;obtain ⟨cs,ds,rfl,rfl,hk⟩:=key ρ x' y' w hx hy;simp only[Sem.run_bind,run_eqGuard_agg w _ _ _ _ _ _ hg,Result.andThen_ok,run_neq_struct,hk]
theorem eqS_bytes {P:Program} {t e:TypeId} {n:Nat} {inf:TypeInfo} {k':IntKind} (hu:P.underlying t=some (.array n e)) (hi:P.info? e=some inf) (h1:P.cellsOf e=1) (he:P.underlying e=some (.int k')) (hg:P.eqGuardType P.depth t=false)
  {xs ys:List UInt8} (hx:xs.length=n) (hy:ys.length=n):EqS P .eql t (.agg (zQZ xs)) (.agg (zQZ ys)) (eqE (.agg (zQZ xs)) (.agg (zQZ ys)))∧EqS P .neq t (.agg (zQZ xs)) (.agg (zQZ ys)) (!eqE (.agg (zQZ xs)) (.agg (zQZ ys))):=by
 rw[zNP,zNP];exact xRY hu hi h1 he hg (by simpa using hx) (by simpa using hy)
end
end Go.E
