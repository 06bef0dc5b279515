/-
  Own work: a part of the proof that the last text closes.
-/
import Derived.Test.YtncphnpndkjkaaaGreatDoorFc
import Derived.Lib.ConvBytes
import Derived.Laws.BytesArg
import Derived.Laws.BytesString
import Derived.MapKept
import Derived.Conc.Events
import Derived.Lib.UnsafeStr
import Derived.Laws.Externs
import Derived.Laws.StructEq
namespace Go.E
set_option linter.all false
section
def encE (n:Int):List UInt8:=(Utf8.encode n).data.toList
theorem eop_ranges {P:Program} {t:TypeId} {a:Operand} {l:List UInt8} {s:ES} {K:EV→ES→Prop} {i:TI} (hi:zXZ P t=some i) (hiu:i.u=.str) (h:K (.ptr (some ⟨s.nx,0⟩)) (s.new (.sIter l 0))) :
  EOp P (.range t a) [.str l] s K:=by
 intro ρ w act o ho hR hv;have hv':VRs ρ [.str l] [act.eval a]:=by simpa [Op.operands] using hv
 simp only[VRs] at hv'
 obtain ⟨x',l',e1,hx,e2⟩:=hv';subst e2;simp only[List.cons.injEq,and_true] at e1
 obtain ⟨dst2,op,type,pos,after,guard⟩:=o;simp only at ho;subst ho
 refine .run (m:=Instr.range t (act.eval a)) rfl ?_;rw[e1];obtain ⟨inf,d,z,T⟩:=zQG hi;rw[VR] at hx;subst hx
 refine ⟨.ptr (some ⟨s.nx,0⟩),.pointer (some ⟨w.heap.size,0,none⟩),_,_,w.alloc (.stringIter ⟨l.toArray⟩ 0),?_,?_,hR.new (.sIter l 0) (.stringIter ⟨l.toArray⟩ 0) ⟨w.heap.size,0,0,0,0⟩ rfl ?_,h⟩
 ·simp[Instr.range,run_underlying (T.str hiu),-World.alloc_eq]
 ·rw[VR];exact ⟨_,if_pos rfl,rfl⟩
 ·exact ⟨rfl,by simp only[World.alloc,Array.getElem?_push,if_true]⟩
def zZX (l:List UInt8):Nat × Nat:=Utf8.decode ⟨l.toArray⟩ 0
theorem xKD (l:List UInt8) (i:Nat):Utf8.decode ⟨l.toArray⟩ i=zZX (l.drop i):=by
 have h1:∀ k,(ByteArray.mk l.toArray).get! (i+k)=(ByteArray.mk (l.drop i).toArray).get! (0+k):=by
  intro k;simp[ByteArray.get!,Array.getElem!_eq_getD,Array.getD_eq_getD_getElem?]
 have h2:∀ k,(decide (i+k<(ByteArray.mk l.toArray).size))=decide (0+k<(ByteArray.mk (l.drop i).toArray).size):=by
  intro k;simp only[zPM,List.length_drop]
  congr 1
  simp only[eq_iff_iff];omega
 simp only[zZX,Utf8.decode,h1,h2]
def eNext (l:List UInt8) (pos b:Nat) (s:ES) (K:EV→ES→Prop):Prop:=
 zFG (decide (pos<l.length)) true (zRM K (.tuple [.bool true,.int .i64 pos,.int .i32 (zZX (l.drop pos)).1]) (s.set b (.sIter l (pos+(zZX (l.drop pos)).2)))) (zRM K (.tuple [.bool false]) s)
theorem eop_nexts {P:Program} {a:Operand} {b pos:Nat} {l:List UInt8} {s:ES} {K:EV→ES→Prop} (hg:s.get b=some (.sIter l pos)) (h:eNext l pos b s K):EOp P (.next a true) [.ptr (some ⟨b,0⟩)] s K:=by
 intro ρ w act o ho hR hv;have hv':VRs ρ [.ptr (some ⟨b,0⟩)] [act.eval a]:=by simpa [Op.operands] using hv
 simp only[VRs] at hv'
 obtain ⟨x',l',e1,hx,e2⟩:=hv';subst e2;simp only[List.cons.injEq,and_true] at e1
 obtain ⟨dst2,op,type,pos2,after,guard⟩:=o;simp only at ho;subst ho
 refine .run (m:=Instr.next (act.eval a) true type) rfl ?_;rw[e1];rw[VR] at hx
 obtain ⟨lo,hl,rfl⟩:=hx;obtain ⟨hd,hh⟩:=hR.live _ _ _ hg hl;rw[hd];have hlt:lo.r<w.heap.size:=(Array.getElem?_eq_some_iff.1 hh).1;have hget:(getObj lo.r).run P w=.ok (.stringIter ⟨l.toArray⟩ pos) w:=by simp only[getObj,Sem.run,hh]
 have hset:∀ o,(setObj lo.r o).run P w=.ok () { w with heap:=w.heap.set! lo.r o }:=by intro o;simp only[setObj,Sem.run,hh];rfl
 by_cases hp:pos<l.length
 ·have hK:=h.1 (by simp[hp]);have hrun:(Instr.next (.pointer (some ⟨lo.r,0,none⟩)) true type).run P w=.ok (.tuple #[.bool true,goInt pos,.int .i32 (zZX (l.drop pos)).1]) { w with heap:=w.heap.set! lo.r (.stringIter ⟨l.toArray⟩ (pos+(zZX (l.drop pos)).2)) }:=by
   simp only[Instr.next,Sem.run_bind,hget,Result.andThen_ok,zPM,hp,if_true,xKD,hset,Sem.run_pure]
  refine ⟨_,_,_,_,_,hrun,?_,hR.turn b _ (.sIter l (pos+(zZX (l.drop pos)).2)) lo hg hl rfl rfl rfl rfl (by simp) (fun r hr=>?_) ⟨hd,?_⟩ rfl,hK⟩
  ·rw[VR];exact ⟨_,rfl,VRs.cons (by rw[VR]) (VRs.cons (by rw[VR];rfl) (VRs.cons (by rw[VR]) VRs.nil))⟩
  ·simp[Array.getElem?_setIfInBounds,Ne.symm hr]
  ·simp[hlt]
 ·have hK:=h.2 (by simp[hp]);refine RunV.pure (v:=.tuple [.bool false]) (v':=.tuple #[.bool false]) hR ?_ ?_ hK
  ·simp only[Instr.next,Sem.run_bind,hget,Result.andThen_ok,zPM,hp,if_false,Sem.run_pure]
  ·rw[VR];exact ⟨_,rfl,VRs.cons (by rw[VR]) VRs.nil⟩
def keyOf:UT→EV→Bool
 | .str,.str _=>true
 | .int k,.int k' _=>k' == k
 | .bool,.bool _=>true
 | _,_=>false
def yYG:EV→EV→Bool
 | .str a,.str b=>decide (a=b)
 | .int _ a,.int _ b=>decide (a=b)
 | .bool a,.bool b=>a == b
 | _,_=>false
def zRP (k:EV):List (EV × EV)→Option (Nat × EV)
 | []=>none
 | (k',v)::r=>match yYG k k' with
   | true=>some (0,v)
   | false=>(zRP k r).map fun x=>(x.1+1,x.2)
theorem zTY {ρ:Env} {d:TypeDesc} {k:EV} {k':Value} (h:keyOf (zRY d) k=true) (hk:VR ρ k k'):MapKept.IsKey d k':=by
 cases d<;>simp only[zRY] at h<;>cases k<;>simp[keyOf] at h<;>rw[VR] at hk<;>subst hk<;>simp_all [MapKept.IsKey]
theorem yDZ {ρ:Env} {d:TypeDesc} {a b:EV} {a' b':Value} (ha:keyOf (zRY d) a=true) (hb:keyOf (zRY d) b=true) (ra:VR ρ a a') (rb:VR ρ b b'):Instr.sameNow d a' b'=some (yYG a b):=by
 cases d<;>simp only[zRY] at ha hb<;>cases a<;>simp[keyOf] at ha<;>cases b<;>simp[keyOf] at hb<;>rw[VR] at ra rb<;>subst ra<;>subst rb
 ·simp[Instr.sameNow,yYG]
 ·subst ha;subst hb;simp[Instr.sameNow,yYG];rfl
 ·simp only[Instr.sameNow,yYG]
  congr 1
  rw[Bool.eq_iff_iff,MapKept.bytes_beq];simp
theorem zMS {ρ:Env} {d:TypeDesc} {k:EV} {k':Value} (hk:keyOf (zRY d) k=true) (rk:VR ρ k k'):∀ (es:List (EV × EV)) (es':List MapEntry) (i:Nat),es'.length=es.length →
  (∀ (i:Nat) (k v:EV),es[i]? = some (k,v)→∃ e,es'[i]? = some e∧VR ρ k e.key∧VR ρ v e.val)→(es.all fun x=>keyOf (zRY d) x.1)=true →
  match zRP k es with
  | none=>Instr.findNow d k' es' i=some none
  | some (j,v)=>∃ v',Instr.findNow d k' es' i=some (some (i+j,v'))∧VR ρ v v'
 | [],es',i,hl,_,_=>by
   have:es'=[]:=List.eq_nil_of_length_eq_zero (by simpa using hl);subst this;simp[zRP,Instr.findNow]
 | (k1,v1)::r,es',i,hl,h,ha=>by
   cases es' with
   | nil=>simp at hl
   | cons e r'=>
     obtain ⟨e1,q1,q2,q3⟩:=h 0 k1 v1 (by simp);simp at q1;subst q1
     simp only[List.all_cons,Bool.and_eq_true] at ha
     have hs:=yDZ hk ha.1 rk q2
     cases hb:yYG k k1 with
     | true=>simp only[zRP,hb,Instr.findNow,hs];exact ⟨_,rfl,q3⟩
     | false=>
       have ih:=zMS hk rk r r' (i+1) (by simpa using hl) (fun j k v hj=>by simpa using h (j+1) k v (by simpa using hj)) ha.2;simp only[zRP,hb,Instr.findNow,hs]
       cases hf:zRP k r with
       | none=>simpa [hf] using ih
       | some x=>
         obtain ⟨j,v⟩:=x;simp only[hf,Option.map] at ih ⊢
         obtain ⟨v',p1,p2⟩:=ih;exact ⟨v',by rw[p1];simp;omega,p2⟩
def isAggV:Value→Bool
 | .agg _=>true
 | _=>false
def zOK (P:Program) (t:TypeId) (i:TI):Bool:=match P.info? t with
 | some inf=>match inf.zero with
   | some z=>isAggV z == i.u.agg && (i.u.agg || z.cells.size == 1)
   | none=>false
 | none=>false
def zeroE (i:TI):EV:=if i.u.agg=true then .agg i.zero else i.zero.headD .unk
theorem TIs.zeroVR {P:Program} {t:TypeId} {i:TI} {inf:TypeInfo} {d:TypeDesc} {z:Value} (T:TIs P t i inf d z) (ρ:Env) (h:zOK P t i=true):VR ρ (zeroE i) z:=by
 have hz:=VRs.ofV (ρ:=ρ) z.cells.toList;rw[← T.cells] at hz
 simp only[zOK,T.info,T.zero,Bool.and_eq_true,beq_iff_eq] at h
 unfold zeroE
 by_cases ha:i.u.agg=true
 ·rw[if_pos ha];rw[ha] at h
  cases z<;>simp[isAggV] at h
  rename_i cs
  rw[VR];exact ⟨cs,rfl,hz⟩
 ·rw[if_neg ha];have ha2:i.u.agg=false:=by simpa using ha
  rw[ha2] at h
  have hc:z.cells = #[z]:=by
   cases z<;>simp[isAggV] at h<;>rfl
  rw[hc] at hz
  cases hi:i.zero with
  | nil=>rw[hi] at hz;simp[VRs] at hz
  | cons v r=>
    rw[hi] at hz
    simp only[VRs] at hz
    obtain ⟨v',l',e,h1,h2⟩:=hz;simp at e
    obtain ⟨rfl,_⟩:=e
    simpa using h1
def lookE (ok:Bool) (found:Option (Nat × EV)) (z:EV):EV:=match found with
 | some (_,v)=>if ok then .tuple [v,.bool true] else v
 | none=>if ok then .tuple [z,.bool false] else z
def zGR (P:Program) (t:TypeId) (ok:Bool) (x k:EV) (s:ES) (K:EV→ES→Prop):Prop:=
 match zXZ P t with
 | some i=>match i.u with
   | .map kt e=>match zXZ P kt,zXZ P e with
     | some ki,some j=>match x with
       | .map none=>(keyOf ki.u k=true∧zOK P e j=true)∧K (lookE ok none (zeroE j)) s
       | .map (some r)=>match s.get r with
         | some (.map es)=>(keyOf ki.u k=true∧zOK P e j=true∧(es.all fun x=>keyOf ki.u x.1)=true)∧K (lookE ok (zRP k es) (zeroE j)) s
         | _=>False
       | _=>False
     | _,_=>False
   | _=>False
 | none=>False
theorem yNY {ρ:Env} {ok:Bool} {v:EV} {v':Value} (b:Bool) (h:VR ρ v v'):VR ρ (if ok then .tuple [v,.bool b] else v) (if ok then .tuple #[v',.bool b] else v'):=by
 cases ok
 ·simpa using h
 ·simp only[if_true];rw[VR];exact ⟨_,rfl,VRs.cons h (VRs.cons (by rw[VR]) VRs.nil)⟩
theorem two_of {ρ:Env} {x y:EV} {l:List Value} (h:VRs ρ [x,y] l):∃ x' y',l=[x',y']∧VR ρ x x'∧VR ρ y y':=by
 simp only[VRs] at h
 obtain ⟨x',l',e1,hx,y',l'',e2,hy,e3⟩:=h;exact ⟨x',y',by rw[e1,e2,e3],hx,hy⟩
theorem yPT {ρ:Env} {x:EV} {l:List Value} (h:VRs ρ [x] l):∃ x',l=[x']∧VR ρ x x':=by
 simp only[VRs] at h
 obtain ⟨x',l',e1,hx,e2⟩:=h;exact ⟨x',by rw[e1,e2],hx⟩
theorem three_of {ρ:Env} {x y z:EV} {l:List Value} (h:VRs ρ [x,y,z] l):∃ x' y' z',l=[x',y',z']∧VR ρ x x'∧VR ρ y y'∧VR ρ z z':=by
 simp only[VRs] at h
 obtain ⟨x',l',e1,hx,y',l'',e2,hy,z',l3,e3,hz,e4⟩:=h;exact ⟨x',y',z',by rw[e1,e2,e3,e4],hx,hy,hz⟩
theorem zKM {P:Program} {w:World} {kt:TypeId} {d:TypeDesc} {k:Value} (hd:P.underlying kt=some d) (hk:MapKept.IsKey d k) (e:Bool):(Instr.checkKey e 10000 kt k).run P w=.ok () w:=MapKept.run_checkKey hd hk e 9999
theorem zXN {P:Program} {t:TypeId} {ok:Bool} {a b:Operand} {x k:EV} {s:ES} {K:EV→ES→Prop} (h:zGR P t ok x k s K):EOp P (.lookup t a b ok) [x,k] s K:=by
 intro ρ w act o ho hR hv;obtain ⟨x',k',e,hx,hk⟩:=two_of hv;have e1:act.eval a=x'∧act.eval b=k':=by simpa [Op.operands] using e
 obtain ⟨dst2,op,type,pos,after,guard⟩:=o;simp only at ho;subst ho
 refine .run (m:=Instr.lookup t (act.eval a) (act.eval b) ok) rfl ?_;rw[e1.1,e1.2];unfold zGR at h
 split at h
 ·rename_i i hi
  obtain ⟨inf,d,z,T⟩:=zQG hi
  split at h
  ·rename_i kt e hu
   have hd:=T.map hu
   split at h
   ·rename_i ki j hki hj
    obtain ⟨inf2,d2,z2,T2⟩:=zQG hki;obtain ⟨inf3,d3,z3,T3⟩:=zQG hj
    split at h
    ·obtain ⟨⟨h1,h2⟩,hK⟩:=h;rw[T2.u] at h1
     rw[VR] at hx;subst hx
     refine RunV.pure (v':=if ok then .tuple #[z3,.bool false] else z3) hR ?_ (yNY false (T3.zeroVR ρ h2)) hK;simp only[Instr.lookup,Sem.run_bind,run_underlying hd,Result.andThen_ok,Sem.run_pure,zKM T2.und (zTY h1 hk),MapKept.run_findKey T2.und (show Instr.findNow d2 k' (#[]:Array MapEntry).toList 0=some none from rfl),T3.run_zero w]
    ·rename_i r
     split at h
     ·rename_i es hg
      obtain ⟨⟨h1,h2,h3⟩,hK⟩:=h;rw[T2.u] at h1 h3
      rw[VR] at hx
      obtain ⟨l,hl,rfl⟩:=hx;obtain ⟨es',clock,hh,⟨hsz,hbo,hbn⟩,hes⟩:=hR.live _ _ _ hg hl;have hf:=zMS h1 hk es es'.toList 0 (by simpa using hsz) (by simpa using hes) h3
      cases hfe:zRP k es with
      | none=>
        simp only[hfe] at hf hK
        refine RunV.pure (v':=if ok then .tuple #[z3,.bool false] else z3) hR ?_ (yNY false (T3.zeroVR ρ h2)) hK;simp only[Instr.lookup,Sem.run_bind,run_underlying hd,Result.andThen_ok,Sem.run_pure,MapKept.run_getObj_map hh,zKM T2.und (zTY h1 hk),MapKept.run_findKey T2.und hf,T3.run_zero w]
      | some y=>
        obtain ⟨jj,v⟩:=y;simp only[hfe] at hf hK
        obtain ⟨v',q1,q2⟩:=hf;refine RunV.pure (v':=if ok then .tuple #[v',.bool true] else v') hR ?_ (yNY true q2) hK;simp only[Instr.lookup,Sem.run_bind,run_underlying hd,Result.andThen_ok,Sem.run_pure,MapKept.run_getObj_map hh,zKM T2.und (zTY h1 hk),MapKept.run_findKey T2.und q1]
     ·exact h.elim
    ·exact h.elim
   ·exact h.elim
  ·exact h.elim
 ·exact h.elim
theorem born_push {es:Array MapEntry} {clock:Nat} {k v:Value} (h1:∀ x∈es.toList,x.born<clock) (h2:(es.toList.map (·.born)).Nodup) :
  (∀ x∈(es.push { key:=k,val:=v,born:=clock }).toList,x.born<clock+1)∧((es.push { key:=k,val:=v,born:=clock }).toList.map (·.born)).Nodup:=by
 rw[Array.toList_push];refine ⟨fun x hx=>?_,?_⟩
 ·rcases List.mem_append.1 hx with h | h
  ·exact Nat.lt_succ_of_lt (h1 x h)
  ·rw[List.mem_singleton.1 h];exact Nat.lt_succ_self _
 ·rw[List.map_append,List.nodup_append];refine ⟨h2,by simp,fun a ha b hb e=>?_⟩;obtain ⟨x,hx,rfl⟩:=List.mem_map.1 ha;have h3:=h1 x hx;simp at hb
  omega
theorem zYK {P:Program} {t:TypeId} {s:ES} {K:EV→ES→Prop} (h:K (.map (some s.nx)) (s.new (.map []))):EOp P (.makeMap t none) [] s K:=by
 intro ρ w act o ho hR hv;obtain ⟨dst2,op,type,pos,after,guard⟩:=o;simp only at ho;subst ho
 refine .run (m:=Instr.makeMap t none) rfl ?_;refine ⟨.map (some s.nx),.map (some w.heap.size),_,_,w.alloc (.map #[] 0),?_,?_,hR.new (.map []) (.map #[] 0) ⟨w.heap.size,0,0,0,0⟩ rfl ?_,h⟩
 ·simp[Instr.makeMap,-World.alloc_eq]
 ·rw[VR];exact ⟨_,if_pos rfl,rfl⟩
 ·exact ⟨#[],0,by simp only[World.alloc,Array.getElem?_push,if_true],⟨rfl,by simp,by simp⟩,by simp⟩
def putE (k v:EV):Option (Nat × EV)→List (EV × EV)→List (EV × EV)
 | some (j,_),es=>setNth es j v
 | none,es=>es++[(k,v)]
where setNth:List (EV × EV)→Nat→EV→List (EV × EV)
 | [],_,_=>[]
 | (k,_)::r,0,v=>(k,v)::r
 | x::r,n+1,v=>x::setNth r n v
def yMR (P:Program) (t:TypeId) (x k v:EV) (s:ES) (K:EV→ES→Prop):Prop:=
 match zXZ P t with
 | some i=>match i.u with
   | .map kt _=>match zXZ P kt with
     | some ki=>match x with
       | .map (some r)=>match s.get r with
         | some (.map es)=>(keyOf ki.u k=true∧(es.all fun x=>keyOf ki.u x.1)=true∧zRP k es=none)∧K zVP (s.set r (.map (es++[(k,v)])))
         | _=>False
       | _=>False
     | none=>False
   | _=>False
 | none=>False
theorem OpRes.unit {P:Program} {ρ:Env} {s:ES} {w:World} {a:Act} {o:Oper} {K:EV→ES→Prop} {m:Sem Unit} {s':ES} {ρ':Env} {w':World} (he:execOp a.eval o=(do m;pure .skip)) (h1:m.run P w=.ok () w') (h2:Go1 ρ s w ρ' s' w') (h3:K zVP s'):OpRes P ρ s w a o K:=
 ⟨zVP,Go.undef,s',ρ',w',.inr ⟨by rw[he];simp[h1],rfl⟩,by rw[zVP,VR];exact ⟨#[],rfl,VRs.nil⟩,h2,h3⟩
theorem xQS {P:Program} {t:TypeId} {x k v:EV} {s:ES} {K:EV→ES→Prop} {ρ:Env} {w:World} {act:Act} {o:Oper} {x' k' v':Value} (hR:Rel ρ s w) (hx:VR ρ x x') (hk:VR ρ k k') (hv:VR ρ v v') (h:yMR P t x k v s K)
  (he:execOp act.eval o=(do Instr.mapUpdate t x' k' v';pure .skip)):OpRes P ρ s w act o K:=by
 unfold yMR at h
 split at h
 ·rename_i i hi
  obtain ⟨inf,d,z,T⟩:=zQG hi
  split at h
  ·rename_i kt e hu
   have hd:=T.map hu
   split at h
   ·rename_i ki hki
    obtain ⟨inf2,d2,z2,T2⟩:=zQG hki
    split at h
    ·rename_i r
     split at h
     ·rename_i es hg
      obtain ⟨⟨h1,h3,h4⟩,hK⟩:=h;rw[T2.u] at h1 h3
      rw[VR] at hx
      obtain ⟨l,hl,rfl⟩:=hx;obtain ⟨es',clock,hh,⟨hsz,hbo,hbn⟩,hes⟩:=hR.live _ _ _ hg hl;have hf:=zMS h1 hk es es'.toList 0 (by simpa using hsz) (by simpa using hes) h3;simp only[h4] at hf
      have hlt:l.r<w.heap.size:=(Array.getElem?_eq_some_iff.1 hh).1;have hrun:(Instr.mapUpdate t (.map (some l.r)) k' v').run P w=.ok () { w with heap:=w.heap.setIfInBounds l.r (.map (es'.push { key:=k',val:=v',born:=clock }) (clock+1)) }:=by
       simp only[Instr.mapUpdate,Sem.run_bind,run_underlying hd,Result.andThen_ok,MapKept.run_getObj_map hh,zKM T2.und (zTY h1 hk),MapKept.run_findKey T2.und hf,MapKept.run_setObj_map _ hh]
      refine OpRes.unit he hrun (hR.turn r _ (.map (es++[(k,v)])) l hg hl rfl rfl rfl rfl (by simp) (fun r2 hr=>by simp[Array.getElem?_setIfInBounds,Ne.symm hr]) ?_ rfl) hK;refine ⟨es'.push { key:=k',val:=v',born:=clock },clock+1,by simp[hlt],⟨by simp[hsz],born_push hbo hbn⟩,fun i k1 v1 hi=>?_⟩;rw[List.getElem?_append] at hi
      by_cases hil:i<es.length
      ·rw[if_pos hil] at hi
       obtain ⟨e1,q1,q2⟩:=hes i k1 v1 hi;exact ⟨e1,by rw[Array.getElem?_push,if_neg (by omega)];exact q1,q2⟩
      ·rw[if_neg hil] at hi
       have:i - es.length=0:=by
        have:=(List.getElem?_eq_some_iff.1 hi).1;simp at this;omega
       rw[this] at hi
       simp at hi
       obtain ⟨rfl,rfl⟩:=hi;exact ⟨_,by rw[Array.getElem?_push,if_pos (by omega)],hk,hv⟩
     ·exact h.elim
    ·exact h.elim
   ·exact h.elim
  ·exact h.elim
 ·exact h.elim
end
section
mutual
theorem EV.bel_ren {π:Nat→Nat} {k m:Nat} (h:∀ i,i<k→π i<m):∀ v:EV,v.bel k→(v.ren π).bel m
 | .unk,_=>trivial
 | .bool _,_=>trivial
 | .int _ _,_=>trivial
 | .str _,_=>trivial
 | .ptr none,_=>trivial
 | .ptr (some a),x=>by simp only[EV.ren,EV.bel] at *;exact h _ x
 | .slice none _ _,_=>trivial
 | .slice (some a) _ _,x=>by simp only[EV.ren,EV.bel] at *;exact h _ x
 | .map none,_=>trivial
 | .map (some r),x=>by simp only[EV.ren,EV.bel] at *;exact h _ x
 | .fn _ as bs,x=>by simp only[EV.ren,EV.bel] at *;exact ⟨zYY h as x.1,zYY h bs x.2⟩
 | .nilFn,_=>trivial
 | .iface _ v,x=>by simp only[EV.ren,EV.bel] at *;exact EV.bel_ren h v x
 | .nilIface,_=>trivial
 | .agg cs,x=>by simp only[EV.ren,EV.bel] at *;exact zYY h cs x
 | .tuple cs,x=>by simp only[EV.ren,EV.bel] at *;exact zYY h cs x
theorem zYY {π:Nat→Nat} {k m:Nat} (h:∀ i,i<k→π i<m):∀ l:List EV,zQX k l→zQX m (zZG π l)
 | [],_=>trivial
 | v::l,x=>by simp only[zZG,zQX] at *;exact ⟨EV.bel_ren h v x.1,zYY h l x.2⟩
end
theorem EO.bel_ren {π:Nat→Nat} {k m:Nat} (h:∀ i,i<k→π i<m) (o:EO) (x:o.bel k):(o.ren π).bel m:=by
 cases o with
 | cells c t z wr fz=>exact zYY h c x
 | sIter s p=>trivial
 | raw id o=>trivial
 | rng id tl st pend cd=>exact zYY h tl x
 | map es=>
   simp only[EO.ren,EO.bel] at *
   induction es with
   | nil=>trivial
   | cons y r ih=>
     obtain ⟨a,b⟩:=y;simp only[xXF,zVH] at *
     exact ⟨EV.bel_ren h a x.1,EV.bel_ren h b x.2.1,ih x.2.2⟩
structure Compact (s s':ES) (π:Nat→Nat) (x x0:ER) (s0:ES):Prop where
 id:∀ i,i<s.nx→π i=i
 inj:∀ i j,i<s0.nx→j<s0.nx→π i=π j→i=j
 nx:s.nx≤s0.nx
 gl:s0.gl=s'.gl
 x:x=x0.ren π
 bel:match x0 with | .ret v=>v.bel s0.nx | .pan v=>v.bel s0.nx
 bl:blBelow s0.nx s0.bl
 get:∀ i o,s0.get i=some o→s'.get (π i)=some (o.ren π)
def Cmp (s:ES) (Q:ER→ES→Prop):ER→ES→Prop:=fun x s'=>∃ π x0 s0,Compact s s' π x x0 s0∧Q x0 s0
theorem EPost.compact {ρ:Env} {s:ES} {w w':World} {Q:ER→ES→Prop} {e:Ending} (h:EPost ρ s w (Cmp s Q) e w'):EPost ρ s w Q e w':=by
 obtain ⟨x,s',ρ',hret,hG,π,x0,s0,hC,hQ⟩:=h
 let ρ0:Env:=fun i=>if i<s0.nx then ρ' (π i) else none
 have hi:∀ i,i<s0.nx→ρ0 i=ρ' (π i):=fun i h=>if_pos h
 have hsb:∀ i o,s0.get i=some o→i<s0.nx∧o.bel s0.nx:=fun i o h=>zKW hC.bl (ES.get_lt h).2
 have hwr:∀ o:EO,(o.ren π).wr=o.wr:=fun o=>by cases o<;>rfl
 refine ⟨x0,s0,ρ0,?_,⟨⟨fun b o l hg hr=>?_,fun i h=>if_neg (by omega),fun b b' o o' l l' hg hg' hr hr' hne hw=>?_,fun b o hg=>?_⟩,fun i h=>?_,hC.nx,hG.was,fun b hb hn=>?_,hG.step,fun b o l hg hr=>?_,hC.gl.trans hG.gl⟩,hQ⟩
 ·have hx:=hC.x;subst hx;have hb:=hC.bel
  cases x0 with
  | ret v=>obtain ⟨v',e1,e2⟩:=hret;exact ⟨v',e1,e2.renFrom hi _ _ hb⟩
  | pan v=>obtain ⟨v',e1,e2⟩:=hret;exact ⟨v',e1,e2.renFrom hi _ _ hb⟩
 ·have hb:=hsb b o hg;rw[hi b hb.1] at hr
  exact (hG.rel.live _ _ _ (hC.get b o hg) hr).renFrom hi hb.2
 ·have hb:=hsb b o hg;have hb':=hsb b' o' hg';rw[hi b hb.1] at hr
  rw[hi b' hb'.1] at hr'
  exact hG.rel.sep _ _ _ _ _ _ (hC.get b o hg) (hC.get b' o' hg') hr hr' (fun e=>hne (hC.inj b b' hb.1 hb'.1 e)) (by rw[hwr];exact hw)
 ·obtain ⟨l,hl⟩:=hG.rel.dom _ _ (hC.get b o hg);exact ⟨l,by rw[hi b (hsb b o hg).1];exact hl⟩
 ·rw[hi i (Nat.lt_of_lt_of_le h hC.nx),hC.id i h];exact hG.old i h
 ·cases hs:s0.get b with
  | none=>rfl
  | some o=>
    have:=hC.get b o hs;rw[hC.id b hb,hG.gone b hb hn] at this
    cases this
 ·have hb:=hsb b o hg;rw[hi b hb.1] at hr
  rcases hG.src _ _ l (hC.get b o hg) hr with ⟨b0,o0,l0,c1,c2,c3,c4⟩ | c1
  ·exact .inl ⟨b0,o0,l0,c1,c2,c3,fun h=>c4 (by rw[hwr];exact h)⟩
  ·exact .inr c1
theorem ECalls.compact {P:Program} {g:FuncId} {args:List EV} {s:ES} {Q:ER→ES→Prop} (h:ECalls P g args s (Cmp s Q)):ECalls P g args s Q:=by
 intro ρ w args' hR hA;have:=h ρ w args' hR hA
 split at this
 ·rename_i f as w1 he
  exact CallsIn.mono this fun e w' h=>h.compact
 ·exact this.compact
 ·exact this.elim
def Eff (G:List Gl) (P:Program) (g:FuncId) (args:List EV) (bl:List (Nat × EO)) (n:Nat) (v:EV) (bl':List (Nat × EO)) (n':Nat):Prop:=
 ECalls P g args ⟨bl,n,G⟩ (Cmp ⟨bl,n,G⟩ fun x s=>x=.ret v∧s=⟨bl',n',G⟩)
def nam (k:Nat) (p:List Nat):Nat→Nat:=fun i=>if i<k then i else p.getD (i - k) 0
def zTV (π:Nat→Nat):List (Nat × EO)→List (Nat × EO)
 | []=>[]
 | (b,o)::r=>(π b,o.ren π)::zTV π r
def allIn (s:ES):List (Nat × EO)→Prop
 | []=>True
 | (b,o)::r=>s.get b=some o∧allIn s r
theorem zBR {s:ES} {π:Nat→Nat}:∀ {l:List (Nat × EO)},allIn s (zTV π l)→∀ {i o},lkp l i=some o→s.get (π i)=some (o.ren π)
 | [],_,i,o,h=>by simp[lkp] at h
 | (b,x)::r,ha,i,o,h=>by
   simp only[zTV,allIn] at ha
   simp only[lkp] at h
   split at h
   ·rename_i hc;subst hc;cases h;exact ha.1
   ·exact zBR ha.2 h
theorem yJH {π:Nat→Nat}:∀ {l:List (Nat × EO)} {b:Nat} {o:EO},lkp (zTV π l) b=some o→∃ i x,(i,x)∈l∧π i=b∧o=x.ren π
 | [],b,o,h=>by simp[zTV,lkp] at h
 | (c,x)::r,b,o,h=>by
   simp only[zTV,lkp] at h
   split at h
   ·rename_i hc;cases h;exact ⟨c,x,.head _,hc,rfl⟩
   ·obtain ⟨i,y,h1,h2⟩:=yJH h;exact ⟨i,y,.tail _ h1,h2⟩
theorem zXY {k:Nat}:∀ {l:List (Nat × EO)},blBelow k l→∀ {i o},(i,o)∈l→i<k∧o.bel k
 | (b,x)::r,ha,i,o,h=>by
   simp only[blBelow] at ha
   cases h with
   | head=>exact ⟨ha.1,ha.2.1⟩
   | tail _ h=>exact zXY ha.2.2 h
theorem zYM {k:Nat}:∀ {l:List (Nat × EO)},(∀ i o,(i,o)∈l→i<k∧o.bel k)→blBelow k l
 | [],_=>trivial
 | (b,x)::r,h=>⟨(h b x (.head _)).1,(h b x (.head _)).2,zYM fun i o hm=>h i o (.tail _ hm)⟩
theorem yWV {π:Nat→Nat}:∀ {l:List (Nat × EO)} {b:Nat} {o:EO},(b,o)∈zTV π l→∃ i x,(i,x)∈l∧π i=b∧o=x.ren π
 | (c,x)::r,b,o,h=>by
   simp only[zTV] at h
   cases h with
   | head=>exact ⟨c,x,.head _,rfl,rfl⟩
   | tail _ h=>obtain ⟨i,y,h1,h2⟩:=yWV h;exact ⟨i,y,.tail _ h1,h2⟩
theorem xVJ {k:Nat} {p:List Nat} (hp:p.Nodup) (hk:∀ x∈p,k≤x):∀ i j,i<k+p.length→j<k+p.length→nam k p i=nam k p j→i=j:=by
 intro i j hi hj h;have hin:∀ t,¬ t<k→t<k+p.length→∃ h:t - k<p.length,nam k p t=p[t - k]:=fun t h1 h2=>⟨by omega,by simp[nam,h1,show t - k<p.length by omega]⟩
 by_cases h1:i<k<;>by_cases h2:j<k
 ·simpa [nam,h1,h2] using h
 ·obtain ⟨q,e⟩:=hin j h2 hj;have:=hk _ (List.getElem_mem q);rw[e] at h
  simp only[nam,h1,if_true] at h
  omega
 ·obtain ⟨q,e⟩:=hin i h1 hi;have:=hk _ (List.getElem_mem q);rw[e] at h
  simp only[nam,h2,if_true] at h
  omega
 ·obtain ⟨q,e⟩:=hin i h1 hi;obtain ⟨q2,e2⟩:=hin j h2 hj;rw[e,e2] at h
  have:=(List.getElem_inj hp).1 h;omega
theorem zWW {k:Nat} {v v0:EV} {s:ES} {bl bl0:List (Nat × EO)} {G:List Gl} {n0:Nat} (p:List Nat) (hn:n0=k+p.length) (hp:p.Nodup) (hpk:∀ x∈p,k≤x∧x<s.nx) (hks:k≤s.nx) (hb:blBelow n0 bl0) (hv0:v0.bel n0) (hG:s.gl=G)
  (hv:v=v0.ren (nam k p)) (hbl:allIn s (zTV (nam k p) bl0)):xXM k (Cmp ⟨bl,k,G⟩ fun x s=>x=.ret v0∧s=⟨bl0,n0,G⟩) (.ret v) s:=by
 have hlt:∀ i,i<n0→nam k p i<s.nx:=by
  intro i hi
  by_cases h:i<k
  ·simp only[nam,h,if_true];omega
  ·have:nam k p i=p[i - k]'(by omega):=by simp[nam,h,show i - k<p.length by omega]
   rw[this];exact (hpk _ (List.getElem_mem _)).2
 have hinj:=xVJ hp fun x hx=>(hpk x hx).1
 have hkeep:∀ i o,lkp bl0 i=some o→s.get (nam k p i)=some (o.ren (nam k p)):=fun i o h=>zBR hbl h
 refine ⟨⟨zTV (nam k p) bl0,s.nx,s.gl⟩,⟨fun b o hg=>?_,?_,rfl⟩,hks,?_,nam k p,.ret v0,⟨bl0,n0,G⟩,⟨fun i hi=>by simp only[nam];exact if_pos hi,fun i j hi hj=>hinj i j (hn ▸ hi) (hn ▸ hj),by simp only;omega,hG.symm,by rw[hv];rfl,hv0,hb,fun i o hg=>?_⟩,rfl,rfl⟩
 ·have:=(ES.get_lt hg).2;have aux:∀ l:List (Nat × EO),allIn s (zTV (nam k p) l)→lkp (zTV (nam k p) l) b=some o→s.get b=some o:=by
   intro l
   induction l with
   | nil=>intro _ h;simp[zTV,lkp] at h
   | cons y r ih=>
     obtain ⟨c,x⟩:=y;intro ha h;simp only[zTV,allIn,lkp] at ha h
     split at h
     ·rename_i hc;subst hc;cases h;exact ha.1
     ·exact ih ha.2 h
  exact aux bl0 hbl this
 ·refine zYM fun i o hm=>?_
  obtain ⟨j,x,h1,h2,h3⟩:=yWV hm;obtain ⟨h4,h5⟩:=zXY hb h1;subst h2;subst h3;exact ⟨hlt j h4,EO.bel_ren hlt x h5⟩
 ·rw[hv];exact EV.bel_ren hlt v0 hv0
 ·have hg':=(ES.get_lt hg).2;have h1:=hkeep i o hg';have h2:=(zKW hb hg').1;unfold ES.get;rw[if_pos (by simpa using hlt i h2)];have aux:∀ l:List (Nat × EO),(∀ j x,(j,x)∈l→j<n0)→lkp l i=some o→lkp (zTV (nam k p) l) (nam k p i)=some (o.ren (nam k p)):=by
   intro l
   induction l with
   | nil=>intro _ h;simp[lkp] at h
   | cons y r ih=>
     obtain ⟨c,x⟩:=y;intro hm h;simp only[zTV,lkp] at h ⊢
     split at h
     ·rename_i hc;subst hc;cases h;simp
     ·rename_i hc
      have hc':¬ nam k p c=nam k p i:=fun e=>hc (hinj c i (hn ▸ hm c x (.head _)) (hn ▸ h2) e)
      simp only[hc',if_false];exact ih (fun j x hj=>hm j x (.tail _ hj)) h
  exact aux bl0 (fun j x hj=>(zXY hb hj).1) hg'
def yKN (π:Nat→Nat):List (Nat × EO)→List (Nat × EO)→List (Nat × EO)
 | [],L=>L
 | (b,_)::r,L=>yKN π r (dropL L (π b))
def yWG (n:Nat) (p:List Nat) (m:Nat):Nat→Nat:=fun i=>if i<n then p.getD i 0 else m+(i - n)
def aft (S:ES) (π:Nat→Nat) (bl bl':List (Nat × EO)) (d:Nat):ES:=⟨zTV π bl' ++ yKN π bl S.bl,S.nx+d,S.gl⟩
theorem yVY {π:Nat→Nat}:∀ {bl L:List (Nat × EO)} {j:Nat} {O:EO},lkp (yKN π bl L) j=some O→lkp L j=some O∧∀ i o,(i,o)∈bl→π i ≠ j
 | [],L,j,O,h=>⟨h,fun i o hm=>by cases hm⟩
 | (b,x)::r,L,j,O,h=>by
   simp only[yKN] at h
   obtain ⟨h1,h2⟩:=yVY h;rw[zPZ] at h1
   split at h1
   ·cases h1
   ·rename_i hne
    refine ⟨h1,fun i o hm=>?_⟩
    cases hm with
    | head=>exact hne
    | tail _ hm=>exact h2 i o hm
theorem zXW {α:Type}:∀ (a b:List (Nat × α)) (j:Nat),lkp (a++b) j=(lkp a j <|> lkp b j)
 | [],b,j=>by simp[lkp]
 | (k,v)::a,b,j=>by
   simp only[List.cons_append,lkp]
   split
   ·rfl
   ·exact zXW a b j
theorem yNH {α:Type}:∀ {l:List (Nat × α)} {j:Nat} {v:α},lkp l j=some v→(j,v)∈l
 | (k,x)::r,j,v,h=>by
   simp only[lkp] at h
   split at h
   ·rename_i hk;subst hk;cases h;exact .head _
   ·exact .tail _ (yNH h)
def zWN:List (Nat × EO)→Prop
 | []=>True
 | (b,_)::r=>lkp r b=none∧zWN r
theorem zJR:∀ {l:List (Nat × EO)},zWN l→∀ {i o},(i,o)∈l→lkp l i=some o
 | (b,x)::r,hk,i,o,h=>by
   simp only[zWN] at hk
   cases h with
   | head=>simp[lkp]
   | tail _ h=>
     have h1:=zJR hk.2 h;simp only[lkp]
     split
     ·rename_i hb;subst hb;rw[hk.1] at h1;cases h1
     ·exact h1
def zJV (k:Nat):List (Nat × EO)→Prop
 | []=>True
 | (b,_)::r=>b<k∧zJV k r
theorem zBX {k:Nat}:∀ {l:List (Nat × EO)},zJV k l→∀ {i o},lkp l i=some o→i<k
 | (b,x)::r,hk,i,o,h=>by
   simp only[zJV] at hk
   simp only[lkp] at h
   split at h
   ·rename_i hb;subst hb;exact hk.1
   ·exact zBX hk.2 h
theorem Eff.at {G:List Gl} {P:Program} {g:FuncId} {args args2:List EV} {bl bl':List (Nat × EO)} {n n':Nat} {v:EV} (h:Eff G P g args bl n v bl' n') {S:ES} (p:List Nat) (hp:p.length=n) (hnd:p.Nodup) (hlt:∀ x∈p,x<S.nx)
  (hargs:args2=zZG (yWG n p S.nx) args) (hab:zQX n args) (hb:blBelow n bl) (hb':blBelow n' bl') (hk':zWN bl') (hn:n≤n') (hget:allIn S (zTV (yWG n p S.nx) bl)) (hS:zJV S.nx S.bl) (hG:S.gl=G) {K Kp:EV→ES→Prop}
  (hK:K (v.ren (yWG n p S.nx)) (aft S (yWG n p S.nx) bl bl' (n' - n))):ECalls P g args2 S (KC K Kp):=by
 have hin:∀ i,i<n→∃ h:i<p.length,yWG n p S.nx i=p[i]:=fun i hi=>⟨by omega,by simp[yWG,hi,hp]⟩
 have hltp:∀ i,i<n→yWG n p S.nx i<S.nx:=fun i hi=>by
  obtain ⟨q,e⟩:=hin i hi;rw[e];exact hlt _ (List.getElem_mem _)
 refine ECalls.frame (ECalls.compact h) (yWG n p S.nx) hargs hab (fun i j hi hj e=>?_) hltp (fun i=>by simp only[yWG];rw[if_neg (by omega)];omega) hb (fun i o hg=>zBR hget (ES.get_lt hg).2) (fun x hx=>by rw[hG];exact hx) ?_
 ·obtain ⟨q,e1⟩:=hin i hi;obtain ⟨q2,e2⟩:=hin j hj;rw[e1,e2] at e
  exact (List.getElem_inj hnd).1 e
 ·rintro x s' ⟨rfl,rfl⟩
  refine ⟨aft S (yWG n p S.nx) bl bl' (n' - n),⟨hn,rfl,rfl,fun j O hj=>?_⟩,hK⟩;have hj2:=(ES.get_lt hj).2;simp only[aft,zXW] at hj2
  cases hr:lkp (zTV (yWG n p S.nx) bl') j with
  | some o=>
    rw[hr] at hj2
    simp at hj2
    subst hj2;obtain ⟨i,x,h1,h2,h3⟩:=yJH hr;refine .inl ⟨i,x,?_,h2,h3⟩;unfold ES.get;rw[if_pos (zXY hb' h1).1];exact zJR hk' h1
  | none=>
    rw[hr] at hj2
    simp at hj2
    obtain ⟨h1,h2⟩:=yVY hj2;exact .inr ⟨by unfold ES.get;rw[if_pos (zBX hS h1)];exact h1,fun i o hg=>h2 i o (yNH (ES.get_lt hg).2)⟩
end
section
section
variable {P:Program} {b:Frame} {a:Act} {k:List Item} {cs:List Frame} {w:World}
theorem xZT {c:Code}:step P (lone (b.atR a (.code (.scope c)::k)) cs w)=.next (lone (b.atR a (.code c :: .inScope c::k)) cs w):=
 step_lone_go (by simp[Go.stepG,Go.stepG.exec,Frame.atR])
theorem yBP {c:Code}:step P (lone (b.atR a (.inScope c::k)) cs w)=.next (lone (b.atR a k) cs w):=
 step_lone_go (by simp[Go.stepG,Go.stepG.exec,Frame.atR])
end
def JumpW (c:Code) (J:Nat→Nat→Act→World→Prop) (bd:Option Nat) (Q:Exit→Act→World→Prop):Exit→Act→World→Prop
 | .goto l,a,w=>(findLabel c l).isSome=true∧∃ m,(∀ b,bd=some b→m<b)∧J l m a w
 | e,a,w=>Q e a w
theorem xTB {F:Fence} {n:Nat} {P:Program} {Q:Exit→Act→World→Prop} {a:Act} {w:World} {c:Code} (J:Nat→Nat→Act→World→Prop) (first:c.wpIn F n P (JumpW c J none Q) a w)
  (pass:∀ l m a w rest,findLabel c l=some rest→J l m a w→rest.wpIn F n P (JumpW c J (some m) Q) a w):(Code.scope c).wpIn F n P Q a w:=by
 intro b k cs hro hb hr;have h0:(lone (b.atR a (.code (.scope c)::k)) cs w).fenced P F:=fenced_calm hb hr rfl
 -- from where a piece of the scope was begun
 have fin:∀ (m0:Machine) (bd:Option Nat) (e:Exit) (a₁:Act) (w₁:World),JumpW c J bd Q e a₁ w₁→ArrivesIn (Machine.fenced P F) P m0 b (.inScope c::k) cs e a₁ w₁ →
   (∀ l m a w rest,(∀ b,bd=some b→m<b)→findLabel c l=some rest→J l m a w→StepsIn (Machine.fenced P F) P m0 (lone (b.atR a (.code rest :: .inScope c::k)) cs w)→∃ e a' w',Q e a' w'∧ArrivesIn (Machine.fenced P F) P m0 b k cs e a' w') →
   ∃ e a' w',Q e a' w'∧ArrivesIn (Machine.fenced P F) P m0 b k cs e a' w':=by
  intro m0 bd e a₁ w₁ hq harr go
  cases e with
  | normal=>exact ⟨.normal,a₁,w₁,hq,StepsIn.trans harr (.one (fenced_calm hb hr rfl) yBP)⟩
  | exit id=>
    have hx:exitTo id (.inScope c::k)=exitTo id k:=by simp[exitTo]
    exact ⟨.exit id,a₁,w₁,hq,fun k' hk=>harr.1 k' (by rw[hx];exact hk),fun hr' hk=>harr.2 hr' (by rw[hx];exact hk)⟩
  | goto l=>
    obtain ⟨hf,m,hm,hJ⟩:=hq;obtain ⟨rest,hrest⟩:=Option.isSome_iff_exists.1 hf;have hg:gotoIn l (.inScope c::k)=some (.code rest :: .inScope c::k):=by simp[gotoIn,hrest]
    exact go l m a₁ w₁ rest hm hrest hJ (harr.1 _ hg)
  | ret=>exact ⟨_,a₁,w₁,hq,harr⟩
  | panic ch=>exact ⟨_,a₁,w₁,hq,harr⟩
  | outgrown=>exact ⟨_,a₁,w₁,hq,harr⟩
 have key:∀ m l a w rest,findLabel c l=some rest→J l m a w→∃ e a' w',Q e a' w'∧ArrivesIn (Machine.fenced P F) P (lone (b.atR a (.code rest :: .inScope c::k)) cs w) b k cs e a' w':=by
  intro m
  induction m using Nat.strongRecOn with
  | _ m ih=>
    intro l a w rest hf hJ;obtain ⟨e,a₁,w₁,hq,harr⟩:=pass l m a w rest hf hJ b (.inScope c::k) cs hro hb hr;refine fin _ _ e a₁ w₁ hq harr fun l' m' a' w' rest' hm hf' hJ' hst=>?_
    obtain ⟨e₂,a₂,w₂,hq₂,harr₂⟩:=ih m' (hm m rfl) l' a' w' rest' hf' hJ';exact ⟨e₂,a₂,w₂,hq₂,.of_steps hst harr₂⟩
 obtain ⟨e,a₁,w₁,hq,harr⟩:=first b (.inScope c::k) cs hro hb hr;obtain ⟨e₂,a₂,w₂,hq₂,harr₂⟩:=fin _ _ e a₁ w₁ hq harr fun l' m' a' w' rest' _ hf' hJ' hst=>by
  obtain ⟨e₂,a₂,w₂,hq₂,harr₂⟩:=key m' l' a' w' rest' hf' hJ';exact ⟨e₂,a₂,w₂,hq₂,.of_steps hst harr₂⟩
 exact ⟨e₂,a₂,w₂,hq₂,.of_steps (.one h0 xZT) harr₂⟩
section
variable {P:Program} {k:Nat} {Q:X→Fr→ES→Prop} {fr:Fr} {s:ES}
def JumpE (c:Code) (J:Nat→Nat→Fr→ES→Prop) (bd:Option Nat) (Q:X→Fr→ES→Prop):X→Fr→ES→Prop
 | .goto l,fr,s=>(findLabel c l).isSome=true∧∃ m,(∀ b,bd=some b→m<b)∧J l m fr s
 | e,fr,s=>Q e fr s
theorem xKQ {c:Code} (J:Nat→Nat→Fr→ES→Prop) (first:ESem P k c (JumpE c J none Q) fr s)
  (pass:∀ l m fr s rest,findLabel c l=some rest→J l m fr s→ESem P k rest (JumpE c J (some m) Q) fr s):ESem P k (.scope c) Q fr s:=by
 intro hk r hr ρ w a hR hF;have tr:∀ bd e a' w',CPost k ρ s w (JumpE c J bd Q) e a' w'→JumpW c (fun l m a' w'=>∃ fr' s' ρ',J l m fr' s'∧FR ρ' fr' a'∧GoK k ρ s w ρ' s' w') bd (CPost k ρ s w Q) e a' w':=by
  rintro bd e a2 w2 ⟨ex,fr2,s2,ρ2,hx,hF2,hG2,hQ⟩
  cases ex with
  | normal=>cases hx;exact ⟨.normal,fr2,s2,ρ2,rfl,hF2,hG2,hQ⟩
  | exit i=>cases hx;exact ⟨.exit i,fr2,s2,ρ2,rfl,hF2,hG2,hQ⟩
  | goto i=>cases hx;obtain ⟨h1,m,h2,h3⟩:=hQ;exact ⟨h1,m,h2,fr2,s2,ρ2,h3,hF2,hG2⟩
  | ret=>cases hx;exact ⟨.ret,fr2,s2,ρ2,rfl,hF2,hG2,hQ⟩
  | pan v=>obtain ⟨v',rfl,hv⟩:=hx;exact ⟨.pan v,fr2,s2,ρ2,⟨v',rfl,hv⟩,hF2,hG2,hQ⟩
 refine xTB (fun l m a' w'=>∃ fr' s' ρ',J l m fr' s'∧FR ρ' fr' a'∧GoK k ρ s w ρ' s' w') (wpIn_mono (first hk r hr.scope ρ w a hR hF) (tr none)) ?_
 rintro l m a' w' rest hf ⟨fr',s',ρ',hJ,hF',hG⟩
 exact wpIn_mono (pass l m fr' s' rest hf hJ hG.nx r (okR.find hr.scope hf) ρ' w' a' hG.rel hF') fun e a2 w2 h=>tr (some m) e a2 w2 (CPost.trans hG h)
def inlG (P:Program) (k:Nat) (c:Code) (l0:Nat) (K0:Fr→ES→Prop) (Q:X→Fr→ES→Prop):Nat→X→Fr→ES→Prop
 | n,.goto l,fr,s=>if l=l0 then K0 fr s else match n with
   | 0=>False
   | n+1=>match findLabel c l with
     | some rest=>ESem P k rest (inlG P k c l0 K0 Q n) fr s
     | none=>False
 | _,.normal,fr,s=>Q .normal fr s
 | _,.exit i,fr,s=>Q (.exit i) fr s
 | _,.ret,fr,s=>Q .ret fr s
 | _,.pan v,fr,s=>Q (.pan v) fr s
theorem xKW {c rest0:Code} (l0 N M:Nat) (I:Nat→Fr→ES→Prop) (hl:∀ m fr s,I m fr s→findLabel c l0=some rest0)
  (first:ESem P k c (inlG P k c l0 (fun fr s=>∃ m,m<M∧I m fr s) Q N) fr s)
  (pass:∀ m fr s,I m fr s→ESem P k rest0 (inlG P k c l0 (fun fr s=>∃ m2,m2<m∧I m2 fr s) Q N) fr s):ESem P k (.scope c) Q fr s:=by
 let J:Nat→Nat→Fr→ES→Prop:=fun l x fr s=>(l=l0∧∃ m,x=m*(N+1)+N∧I m fr s)∨(l ≠ l0∧∃ m n rest,n<N∧x=m*(N+1)+n∧findLabel c l=some rest∧ESem P k rest (inlG P k c l0 (fun fr s=>∃ m2,m2<m∧I m2 fr s) Q n) fr s)
 have mono:∀ (bd:Option Nat) (m n:Nat),n≤N→(∀ b,bd=some b→m*(N+1)+n≤b)→∀ x fr s,inlG P k c l0 (fun fr s=>∃ m2,m2<m∧I m2 fr s) Q n x fr s→JumpE c J bd Q x fr s:=by
  intro bd m n hn hbd x fr s h
  cases x with
  | goto l=>
    unfold inlG at h
    by_cases hll:l=l0
    ·subst hll;simp only[if_true] at h
     obtain ⟨m2,h1,h2⟩:=h;refine ⟨by rw[hl _ _ _ h2];rfl,m2*(N+1)+N,fun b hb=>?_,.inl ⟨rfl,m2,rfl,h2⟩⟩;have:=hbd b hb;have:=Nat.mul_le_mul_right (N+1) (show m2+1≤m from h1);rw[Nat.add_mul] at this
     omega
    ·simp only[hll,if_false] at h
     cases n with
     | zero=>exact h.elim
     | succ n=>
       simp only at h
       cases hf:findLabel c l with
       | none=>rw[hf] at h;exact h.elim
       | some rest=>
         rw[hf] at h
         exact ⟨by rw[hf];rfl,m*(N+1)+n,fun b hb=>by have:=hbd b hb;omega,.inr ⟨hll,m,n,rest,hn,rfl,hf,h⟩⟩
  | normal=>unfold inlG at h;exact h
  | exit i=>unfold inlG at h;exact h
  | ret=>unfold inlG at h;exact h
  | pan v=>unfold inlG at h;exact h
 refine xKQ J (ESem.mono first (mono none M N (Nat.le_refl _) fun b hb=>by cases hb)) ?_
 rintro l x fr s rest hf (⟨rfl,m,rfl,hI⟩ | ⟨hne,m,n,rest',hn,rfl,hf',h⟩)
 ·rw[hl _ _ _ hI] at hf;cases hf
  exact ESem.mono (pass m fr s hI) (mono _ m N (Nat.le_refl _) fun b hb=>by cases hb;omega)
 ·rw[hf] at hf';cases hf'
  exact ESem.mono h (mono _ m n (by omega) fun b hb=>by cases hb;omega)
theorem yQS {c:Code} (N:Nat) (h:ESem P k c (inlG P k c 1000000 (fun _ _=>False) Q N) fr s):ESem P k (.scope c) Q fr s:=by
 refine xKW (rest0:=.skip) 1000000 N 0 (fun _ _ _=>False) (fun _ _ _ h=>h.elim) ?_ fun m fr s h=>h.elim
 have:(fun (fr:Fr) (s:ES)=>∃ m,m<0∧(fun (_:Nat) (_:Fr) (_:ES)=>False) m fr s)=fun _ _=>False:=by
  funext fr s;simp
 rw[this];exact h
end
end
section
theorem yYH {P:Program} {w:World} {r:Nat} {cs:Array Value} {t:TypeId} {fr:Nat × Nat} (h:w.heap[r]? = some (.cells cs t fr)):(shape r).run P w=.ok (some (t,cs.size)) w:=by
 simp[shape,Sem.run,World.shape?,h]
theorem yGR {P:Program} {w:World} {a:Addr} {cs:Array Value} {t:TypeId} {fr:Nat × Nat} (h:w.heap[a.block]? = some (.cells cs t fr)):(Conv.seenAt a).run P w=.ok a w:=by
 have h1:(viewAt a.block).run P w=.ok none w:=by
  simp[viewAt,Sem.run_bind,yYH h]
 simp[Conv.seenAt,Sem.run_bind,h1]
theorem xWV {P:Program} {src dst e:TypeId} {a:Operand} {x:EA} {s:ES} {K:EV→ES→Prop} {j:TI} {c:List EV} {t:TypeId} {z fz:Nat} {wr:Bool} (hs:P.underlying src=some (.pointer e)) (hd:P.underlying dst=some .unsafePointer) (hj:zXZ P e=some j) (hsz:0<j.size)
  (hg:s.get x.b=some (.cells c t z wr fz)) (hlt:x.o<c.length) (h:K (.ptr (some x)) s):EOp P (.convert src dst a) [.ptr (some x)] s K:=by
 intro ρ w act o ho hR hv;obtain ⟨x',e,hx⟩:=yPT hv;have e1:act.eval a=x':=by simpa [Op.operands] using e
 obtain ⟨dst2,op,type,pos,after,guard⟩:=o;simp only at ho;subst ho
 refine .run (m:=convert src dst (act.eval a)) rfl ?_;rw[e1];obtain ⟨inf,d,z',T⟩:=zQG hj;have hx':=hx;rw[VR] at hx
 obtain ⟨l,hl,rfl⟩:=hx;obtain ⟨h1,h2,h3,h4,cs,fr,h5,h6,h7,h8⟩:=hR.live _ _ _ hg hl;refine RunV.pure hR ?_ hx' h;have hc:(cellsIn l.r).run P w=.ok (some cs.size) w:=by simp[cellsIn,Sem.run_bind,yYH h5]
 have hnot:¬ cs.size≤x.o+l.d:=by omega
 have hjs:¬ j.size=0:=by omega
 simp only[convert,Sem.run_bind,run_underlying hs,run_underlying hd,Result.andThen_ok,Conv.unsafePointer,yGR (a:=⟨l.r,x.o+l.d,none⟩) h5,hc,T.run_size w];simp[hnot,hjs]
theorem ySR {P:Program} {src dst u:TypeId} {a:Operand} {x:EA} {s:ES} {K:EV→ES→Prop} {j:TI} {c:List EV} {t:TypeId} {fz:Nat} (hs:P.underlying src=some .unsafePointer) (hd:P.underlying dst=some (.pointer u)) (hj:zXZ P u=some j) (hsz:0<j.size)
  (hg:s.get x.b=some (.cells c t 0 true fz)) (hlies:liesAt P P.depth t (c.length / P.cellsOf t) x.o u 1=true) (h:K (.ptr (some x)) s):EOp P (.convert src dst a) [.ptr (some x)] s K:=by
 intro ρ w act o ho hR hv;obtain ⟨x',e,hx⟩:=yPT hv;have e1:act.eval a=x':=by simpa [Op.operands] using e
 obtain ⟨dst2,op,type,pos,after,guard⟩:=o;simp only at ho;subst ho
 refine .run (m:=convert src dst (act.eval a)) rfl ?_;rw[e1];obtain ⟨inf,d,z',T⟩:=zQG hj;have hx':=hx;rw[VR] at hx
 obtain ⟨l,hl,rfl⟩:=hx;obtain ⟨h1,h2,h3,h4,cs,fr,h5,h6,h7,h8⟩:=hR.live _ _ _ hg hl;obtain ⟨hd0,hcs⟩:=h6.2 rfl rfl;refine RunV.pure hR ?_ hx' h;have hjs:¬ j.size=0:=by omega
 have hv:(variablesAt ⟨l.r,x.o+l.d,none⟩ u 1).run P w=.ok true w:=by
  simp only[variablesAt,Sem.run_bind,run_program,Result.andThen_ok,yYH h5,Sem.run_pure];rw[hcs,h1,hd0,Nat.add_zero,hlies]
 simp only[convert,Sem.run_bind,run_underlying hs,run_underlying hd,Result.andThen_ok,Conv.unsafePointer,yGR (a:=⟨l.r,x.o+l.d,none⟩) h5,hv,T.run_size w];simp[hjs]
def eData (x:EV) (s:ES) (K:EV→ES→Prop):Prop:=
 match x with
 | .slice none _ _=>K (.ptr none) s
 | .slice (some a) _ c=>c ≠ 0∧K (.ptr (some a)) s
 | _=>False
theorem xRS {P:Program} {ts:Array TypeId} {a:Operand} {x:EV} {s:ES} {K:EV→ES→Prop} (h:eData x s K):EOp P (.call { callee:=.builtin .unsafeSliceData,args:=#[a],argTypes:=ts }) [x] s K:=by
 intro ρ w act o ho hR hv;obtain ⟨x',e,hx⟩:=yPT hv;have e1:act.eval a=x':=by simpa [Op.operands,Call.operands] using e
 obtain ⟨dst,op,type,pos,after,guard⟩:=o;simp only at ho;subst ho
 refine .run (m:=Builtin.unsafeSliceData_ ts type (#[a].map act.eval)) rfl ?_;have hm:(#[a].map act.eval) = #[x']:=by simp[e1]
 rw[hm];unfold eData at h
 split at h
 ·rw[VR] at hx;obtain ⟨rfl,rfl,rfl⟩:=hx
  exact RunV.pure (v':=.pointer none) hR rfl (by rw[VR]) h
 ·rename_i y n c
  rw[VR] at hx
  obtain ⟨l,c',o',hl,hcap,hlc,ho',rfl⟩:=hx;have:=hcap.pos;have hc0:c' ≠ 0:=by have:=hcap.le;omega
  refine RunV.pure (v:=.ptr (some y)) (v':=.pointer (some ⟨l.r,o',none⟩)) hR ?_ ?_ h.2
  ·have hdef:Builtin.unsafeSliceData_ ts type #[.slice (some ⟨l.r,o',none⟩) n c']=(do
     if c' ≠ 0 then pure (.pointer (some ⟨l.r,o',none⟩))
     else if (← viewAt l.r).isSome then pure (.pointer (some ⟨l.r,o',none⟩))
     else pure (.pointer (some ⟨← newObj (.view ⟨l.r,o',none⟩ (← elemOf type)),0,none⟩))):=rfl
   rw[hdef];simp[hc0]
  ·rw[VR]
   rcases ho' with q | q
   ·exact ⟨l,hl,by rw[q]⟩
   ·exact absurd q hc0
 ·exact h.elim
theorem liesAt_row {P:Program} {e:TypeId} (hc:P.cellsOf e=1) (count off n:Nat) (hn:off+n≤count):liesAt P P.depth e count off e n=true:=by
 have hd:P.depth=(2*(P.types.size+Made.depth)+1)+1:=rfl;rw[hd];simp only[liesAt,Bool.or_eq_true]
 left
 rw[hd];simp[rowAt,hc,hn,sameLayout,Nat.mod_one]
theorem yKY {P:Program} {w:World} (r:Nat):∀ (l:List Int) (o:Nat) (acc:ByteArray),(∀ j x,l[j]? = some x→w.cell? ⟨r,o+j,none⟩=some (.int .u8 x)) →
  (loadBytes ⟨r,o,none⟩ acc l.length).run P w=.ok ⟨acc.data++(l.map fun n=>UInt8.ofNat n.toNat).toArray⟩ w
 | [],o,acc,_=>by simp[loadBytes]
 | x::l,o,acc,h=>by
   have h0:w.cell? ⟨r,o,none⟩=some (.int .u8 x):=h 0 x rfl;have ih:=yKY (P:=P) r l (o+1) (acc.push (UInt8.ofNat x.toNat)) (fun j y hj=>by
    have:=h (j+1) y (by simpa using hj);rw[show o+1+j=o+(j+1) by omega];exact this)
   have hl:(load ⟨r,o,none⟩).run P w=.ok (.int .u8 x) w:=by simp[h0]
   simp only[List.length_cons,loadBytes,Sem.run_bind,hl,Result.andThen_ok,zVR];rw[show x.toNat.toUInt8=UInt8.ofNat x.toNat from rfl,ih];simp[ByteArray.push]
def eText (P:Program) (pt:TypeId) (x n:EV) (s:ES) (K:EV→ES→Prop):Prop:=
 match n with
 | .int .i64 m=>match x with
   | .ptr none=>m=0∧K (.str []) s
   | .ptr (some a)=>match s.get a.b with
     | some (.cells c t z wr fz)=>(0≤m∧m≤9223372036854775807∧a.o+m.toNat≤c.length∧wr=true∧P.underlying pt=some (.pointer t)∧P.cellsOf t=1∧((c.drop a.o).take m.toNat).all isU8=true)∧K (.str (zSB ((c.drop a.o).take m.toNat))) (s.set a.b (.cells c t z false fz))
     | _=>False
   | _=>False
 | _=>False
theorem xRR {P:Program} {pt it:TypeId} {a b:Operand} {x n:EV} {s:ES} {K:EV→ES→Prop} (h:eText P pt x n s K):EOp P (.call { callee:=.builtin .unsafeString,args:=#[a,b],argTypes:=#[pt,it] }) [x,n] s K:=by
 intro ρ w act o ho hR hv;obtain ⟨x',n',e,hx,hn⟩:=two_of hv;have e1:act.eval a=x'∧act.eval b=n':=by simpa [Op.operands,Call.operands] using e
 obtain ⟨dst,op,type,pos,after,guard⟩:=o;simp only at ho;subst ho
 refine .run (m:=Builtin.unsafeString_ #[pt,it] type (#[a,b].map act.eval)) rfl ?_;have hm:(#[a,b].map act.eval) = #[x',n']:=by simp[e1.1,e1.2]
 rw[hm];unfold eText at h
 split at h
 ·rename_i m
  rw[VR] at hn;subst hn
  split at h
  ·rw[VR] at hx;subst hx
   obtain ⟨rfl,hK⟩:=h;refine RunV.pure (v:=.str []) (v':=.string .empty) hR ?_ (by rw[VR];rfl) hK;exact Lib.run_unsafeString_none w pt it type none
  ·rename_i y
   split at h
   ·rename_i c t z wr fz hg
    obtain ⟨⟨h0,h63,hle,rfl,hp,hc1,hall⟩,hK⟩:=h;rw[VR] at hx
    obtain ⟨l,hl,rfl⟩:=hx;have hb:=hR.live _ _ _ hg hl;obtain ⟨b1,b2,b3,b4,cs,fr,b5,b6,b7,b8⟩:=hb;obtain ⟨k,rfl⟩:∃ k:Nat,m=(k:Int):=⟨m.toNat,by omega⟩;simp only[Int.toNat_natCast] at hle hall hK
    generalize hu:zSB ((c.drop y.o).take k)=u at hK
    have hcs:VRs ρ ((c.drop y.o).take k) ((cs.toList.drop (y.o+l.d)).take k):=by
     refine VRs.of_get ?_ fun j v hj=>?_
     ·simp;omega
     ·simp only[List.getElem?_take,List.getElem?_drop] at hj ⊢
      split at hj
      ·rename_i hlt
       obtain ⟨v',q1,q2⟩:=b7 _ v hj;refine ⟨v',?_,q2⟩;rw[if_pos hlt,show y.o+l.d+j=l.d+(y.o+j) by omega]
       simpa using q1
      ·cases hj
    obtain ⟨ns,n1,n2⟩:=VRs.u8 hcs hall;have hnl:ns.length=k:=by
     have:=congrArg List.length n1;simp at this;omega
    have hcell:∀ j x,ns[j]? = some x→w.cell? ((⟨l.r,y.o+l.d,none⟩:Addr).add j)=some (.int .u8 x):=by
     intro j x hj;have hjk:j<k:=by rw[← hnl];exact (List.getElem?_eq_some_iff.1 hj).1
     have h1:((cs.toList.drop (y.o+l.d)).take k)[j]? = some (.int .u8 x):=by rw[n1];simp[hj]
     simp only[List.getElem?_take,List.getElem?_drop,hjk,if_true] at h1
     rw[zVR];simp only[World.cell?,b5]
     simpa using h1
    have hsh:w.shape? l.r=some (t,cs.size):=by simp[World.shape?,b5]
    by_cases hk0:k=0
    ·subst hk0;have hu0:u=[]:=by rw[← hu];simp[zSB]
     subst hu0;have hG:Go1 ρ s w ρ (s.set y.b (.cells c t z false fz)) w:=hR.turn0 y.b _ _ l hg hl rfl rfl rfl rfl rfl (fun _ _=>rfl) ⟨b1,b2,b3,b4,cs,fr,b5,⟨b6.1,fun q=>by cases q⟩,b7,fun q=>by cases q⟩;exact ⟨.str [],.string .empty,_,_,_,Lib.run_unsafeString_none w pt it type _,by rw[VR];rfl,hG,hK⟩
    ·have hlb:(loadBytes ⟨l.r,y.o+l.d,none⟩ .empty k).run P w=.ok ⟨(ns.map fun n=>UInt8.ofNat n.toNat).toArray⟩ w:=by
      have:=yKY (P:=P) (w:=w) l.r ns (y.o+l.d) .empty (fun j x hj=>by have:=hcell j x hj;rwa [zVR] at this);rw[hnl] at this
      refine this.trans ?_
      congr 2
      simp[ByteArray.empty,ByteArray.emptyWithCapacity]
      try rfl
     have hlies:=liesAt_row (P:=P) hc1 (cs.size / P.cellsOf t) (y.o+l.d) k (by rw[hc1];simp;omega);have h63':¬ (9223372036854775807:Int)<(k:Int):=by omega
     have hdef:Builtin.unsafeString_ #[pt,it] type #[.pointer (some ⟨l.r,y.o+l.d,none⟩),.int .i64 k] =
       (do
        let n ← asInt (.int .i64 k)
        if n<0 then runtimePanic (.error "unsafe.String: len out of range")
        if n > IntKind.i64.max then unsupported (.unsafePointer "String: a length above the largest int")
        if n=0 then pure (.string .empty)
        else if ← variablesAt ⟨l.r,y.o+l.d,none⟩ (← elemOf pt) n.toNat then do
         let s ← loadBytes ⟨l.r,y.o+l.d,none⟩ .empty n.toNat
         freeze ⟨l.r,y.o+l.d,none⟩ n.toNat
         pure (.string s)
        else unsupported (.unsafePointer "String: not so many bytes at ptr")):=rfl
     have hmax:IntKind.i64.max=9223372036854775807:=rfl;have hneg:¬ (k:Int)<0:=by omega
     have hrun:(Builtin.unsafeString_ #[pt,it] type #[.pointer (some ⟨l.r,y.o+l.d,none⟩),.int .i64 k]).run P w=.ok (.string ⟨u.toArray⟩) (w.freeze ⟨l.r,y.o+l.d,none⟩ k):=by
      rw[hdef];have hue:u=ns.map fun n=>UInt8.ofNat n.toNat:=by rw[← hu];exact n2
      simp[asInt,asIntOf,hmax,h63',hneg,hk0,variablesAt,hsh,elemOf,run_underlying hp,hlies,hlb,hue]
     have hlt:l.r<w.heap.size:=(Array.getElem?_eq_some_iff.1 b5).1;have hG:Go1 ρ s w ρ (s.set y.b (.cells c t z false fz)) (w.freeze ⟨l.r,y.o+l.d,none⟩ k):=by
      have hfz:∃ fr2,(w.freeze ⟨l.r,y.o+l.d,none⟩ k).heap[l.r]? = some (.cells cs t fr2):=by
       obtain ⟨lo,hi⟩:=fr;exact ⟨if lo == hi then (y.o+l.d,y.o+l.d+k) else (min lo (y.o+l.d),max hi (y.o+l.d+k)),by simp only[World.freeze,hk0,if_false,Array.getElem?_modify,if_true,b5,Option.map_some]⟩
      obtain ⟨fr2,hfz⟩:=hfz;refine hR.turn0 y.b _ _ l hg hl rfl ?_ ?_ ?_ ?_ (fun r hr=>?_) ⟨b1,b2,b3,b4,cs,fr2,hfz,⟨b6.1,fun q=>by cases q⟩,b7,fun q=>by cases q⟩
      ·simp[World.freeze,hk0]
      ·simp[World.freeze,hk0]
      ·simp[World.freeze,hk0]
      ·simp[World.freeze,hk0]
      ·simp[World.freeze,hk0,Array.getElem?_modify,Ne.symm hr]
     exact ⟨.str u,.string ⟨u.toArray⟩,_,_,_,hrun,by rw[VR],hG,hK⟩
   ·exact h.elim
  ·exact h.elim
 ·exact h.elim
theorem yXZ {P:Program} {g:FuncId} {fn:Func} {e:Array Value→Sem Value} {args:List EV} {s:ES} {Q:ER→ES→Prop} (hf:P.funcs[g]? = some fn) (hname:(fn.name == "runtime.NumGoroutine")=false)
  (hb:fn.body.isNone=true) (hn:Extern.findNext fn=none) (he:Extern.find fn=some e) (h:∀ (ρ:Env) (w:World) (args':Array Value),Rel ρ s w→VRs ρ args args'.toList→RunV P ρ s w (e args') fun v s'=>Q (.ret v) s'):ECalls P g args s Q:=by
 intro ρ w args' hR hA;rw[run_callFunc_extern hf hname hb hn he];obtain ⟨v,v',s',ρ',w',h1,h2,h3,h4⟩:=h ρ w args' hR hA;rw[h1];exact ⟨.ret v,s',ρ',⟨v',rfl,h2⟩,h3,h4⟩
theorem Rel.below {ρ:Env} {s:ES} {w w':World} (h:Rel ρ s w) (hB:RowKit.Below w.heap.size w w'):Go1 ρ s w ρ s w':=
 have hb:∀ r,r<w.heap.size→w'.heap[r]? = w.heap[r]?:=hB.block
 ⟨⟨fun b o l hg hl=>(h.live b o l hg hl).mono (Env.le_refl _) (hb _ (h.live b o l hg hl).lt),h.fresh,h.sep,h.dom⟩,fun _ _=>rfl,Nat.le_refl _,h,fun _ _ q=>q,⟨hB.os,hB.tape,hB.output,hB.size,fun r hr _=>hb r hr⟩,fun b o l hg hl=>.inl ⟨b,o,l,hg,hl,rfl,id⟩,rfl⟩
theorem zMH {P:Program} {g:FuncId} {args:List EV} {s:ES} {v:EV} {v':Value} {Q:ER→ES→Prop} (hf:∀ (args':Array Value) w,(callFunc g args').run P w=.ok (.enter g args') w) (hv:∀ ρ,VR ρ v v')
  (h:∀ (ρ:Env) (w:World) (args':Array Value),Rel ρ s w→VRs ρ args args'.toList→Calls P g args' w fun e w'=>e=.returned v'∧RowKit.Below w.heap.size w w') (hQ:Q (.ret v) s):ECalls P g args s Q:=by
 intro ρ w args' hR hA;rw[hf];refine CallsIn.mono ((callsIn_wide (n:=0)).2 (h ρ w args' hR hA)) ?_
 rintro e w' ⟨rfl,hB⟩
 refine ⟨.ret v,s,ρ,⟨v',rfl,hv ρ⟩,?_,hQ⟩;exact hR.below hB
end
section
section
variable {P:Program} {s:ES} {K:EV→ES→Prop} {src dst:TypeId} {a:Operand}
def xKG (P:Program) (t:TypeId) (l:List UInt8) (s:ES) (K:EV→ES→Prop):Prop:=
 match zXZ P t with
 | some i=>match i.u with
   | .str=>K (.ptr (some ⟨s.nx,0⟩)) (s.new (.sIter l 0))
   | _=>False
 | none=>False
theorem zKT {t:TypeId} {l:List UInt8} (h:xKG P t l s K):EOp P (.range t a) [.str l] s K:=by
 unfold xKG at h
 split at h
 ·rename_i i hi
  split at h
  ·rename_i hu;exact eop_ranges hi hu h
  ·exact h.elim
 ·exact h.elim
def eNextM (b:Nat) (s:ES) (K:EV→ES→Prop):Prop:=
 match s.get b with
 | some (.sIter l pos)=>eNext l pos b s K
 | _=>False
theorem zXQ {b:Nat} (h:eNextM b s K):EOp P (.next a true) [.ptr (some ⟨b,0⟩)] s K:=by
 unfold eNextM at h
 split at h
 ·rename_i l pos hg;exact eop_nexts hg h
 ·exact h.elim
def eToU (P:Program) (src dst:TypeId) (x:EA) (s:ES) (K:EV→ES→Prop):Prop:=
 ∃ e j,P.underlying src=some (.pointer e)∧P.underlying dst=some .unsafePointer∧zXZ P e=some j∧0<j.size∧match s.get x.b with
  | some (.cells c _ _ _ _)=>x.o<c.length∧K (.ptr (some x)) s
  | _=>False
theorem eop_toU {x:EA} (h:eToU P src dst x s K):EOp P (.convert src dst a) [.ptr (some x)] s K:=by
 obtain ⟨e,j,h1,h2,h3,h4,h⟩:=h
 split at h
 ·rename_i c t z wr fz hg;exact xWV h1 h2 h3 h4 hg h.1 h.2
 ·exact h.elim
def eFromU (P:Program) (src dst:TypeId) (x:EA) (s:ES) (K:EV→ES→Prop):Prop:=
 ∃ u j,P.underlying src=some .unsafePointer∧P.underlying dst=some (.pointer u)∧zXZ P u=some j∧0<j.size∧match s.get x.b with
  | some (.cells c t 0 true _)=>liesAt P P.depth t (c.length / P.cellsOf t) x.o u 1=true∧K (.ptr (some x)) s
  | _=>False
theorem eop_fromU {x:EA} (h:eFromU P src dst x s K):EOp P (.convert src dst a) [.ptr (some x)] s K:=by
 obtain ⟨e,j,h1,h2,h3,h4,h⟩:=h
 split at h
 ·rename_i c t fz hg;exact ySR h1 h2 h3 h4 hg h.1 h.2
 ·exact h.elim
end
theorem yZY {P:Program} {w:World} (a:Addr):(sameAddr a a).run P w=.ok true w:=by simp[sameAddr]
theorem eqS_ptr {P:Program} {t e:TypeId} {i j:TI} {a:EA} (hi:zXZ P t=some i) (hu:i.u=.ptr e) (hj:zXZ P e=some j) (hs:0<j.size):EqS P .eql t (.ptr (some a)) (.ptr (some a)) true∧EqS P .neq t (.ptr (some a)) (.ptr (some a)) false:=by
 obtain ⟨inf,d,z,T⟩:=zQG hi;obtain ⟨inf2,d2,z2,T2⟩:=zQG hj;have hd:P.underlying t=some (.pointer e):=by
  have hU:=T.u;rw[hu] at hU
  cases d<;>simp[zRY] at hU
  subst hU;exact T.und
 have he':∀ (n:Nat) (r:Addr) (w:World),(Op.equalIn (n+1) t (.pointer (some r)) (.pointer (some r))).run P w=.ok true w:=by
  intro n r w;have hs':¬ j.size=0:=by omega
  simp only[Op.equalIn,Sem.run_bind,run_underlying hd,Result.andThen_ok,T2.run_size w];simp[hs',yZY]
 have he:∀ (r:Addr) (w:World),(Op.equal t (.pointer (some r)) (.pointer (some r))).run P w=.ok true w:=fun r w=>he' 9999 r w
 constructor
 ·intro ρ x' y' ox oy w hx hy;rw[VR] at hx hy
  obtain ⟨l,hl,rfl⟩:=hx;obtain ⟨l2,hl2,rfl⟩:=hy;rw[hl] at hl2;cases hl2
  simp[eqGuard,binOp,he]
 ·intro ρ x' y' ox oy w hx hy;rw[VR] at hx hy
  obtain ⟨l,hl,rfl⟩:=hx;obtain ⟨l2,hl2,rfl⟩:=hy;rw[hl] at hl2;cases hl2
  simp[eqGuard,binOp,he]
theorem xZR (l:List UInt8):(zQZ l).take l.length=zQZ l:=List.take_of_length_le (by simp[zQY])
theorem xXB (n m:Nat):(n+m≤n)=(m=0):=by
 apply propext;constructor<;>intro h<;>omega
theorem yJK (n:Nat):(n+1≤n)=False:=by simp
attribute [go_sem] xXB yJK Nat.le_refl
attribute [go_sem] yMS hereB Int.toNat_natCast ES.kill dropL xZR false_or or_false
attribute [go_sem] ebinX eqE eqE.eqL List.getD_cons_zero List.getD_cons_succ List.getD_nil
theorem zMF {k:Nat} (l:List UInt8):zQX k (zQZ l):=by
 induction l with
 | nil=>trivial
 | cons b l ih=>exact ⟨trivial,ih⟩
theorem zZT (π:Nat→Nat):∀ a b:List EV,zZG π (a++b)=zZG π a++zZG π b
 | [],b=>rfl
 | v::a,b=>by simp only[List.cons_append,zZG,zZT π a b]
theorem zQB (k:Nat):∀ a b:List EV,zQX k (a++b)↔zQX k a∧zQX k b
 | [],b=>by simp[zQX]
 | v::a,b=>by simp only[List.cons_append,zQX,zQB k a b,and_assoc]
theorem yQW (π:Nat→Nat) (l:List UInt8):zZG π (zQZ l)=zQZ l:=by
 induction l with
 | nil=>rfl
 | cons b l ih=>simp only[zJW,zZG,EV.ren,ih]
theorem zSG (π:Nat→Nat) (t:TypeId) (z:Nat) (wr:Bool) (fz:Nat) (l:List UInt8):(EO.cells (zQZ l) t z wr fz).ren π=.cells (zQZ l) t z wr fz:=by simp only[EO.ren,yQW]
attribute [go_sem] zZT yQW Option.isNone_none Option.isNone_some
theorem keyOf_int {k:IntKind} {n:Int}:E.keyOf (.int k) (.int k n)=true:=by cases k<;>rfl
attribute [go_sem] keyOf_int
theorem yHM {j:TI} {e n a b:Nat} {nc:List EV} {s:ES} {K:EV→ES→Prop}:ySM j e n nc (.slice none a b) s K=if n=0 then K (.slice none 0 0) s else (n*j.bytes≤140737488355328∧n≤9223372036854775807)∧K (.slice (some ⟨s.nx,0⟩) n n) (s.new (.cells nc e j.size true 0)):=rfl
theorem zFF {j:TI} {e n len cap:Nat} {a:EA} {nc:List EV} {s:ES} {K:EV→ES→Prop}:ySM j e n nc (.slice (some a) len cap) s K=match s.get a.b with
  | some (.cells c t z wr fz)=>
    if len+n≤cap then (wr=true∧fz≤a.o+len*j.size∧nc.all EV.one=true∧a.o+(len+n)*j.size≤c.length)∧K (.slice (some a) (len+n) cap) (s.set a.b (.cells (zZH c (a.o+len*j.size) nc) t z true fz))
    else (len≤cap∧a.o+len*j.size≤c.length∧(len+n)*j.bytes≤140737488355328∧len+n≤9223372036854775807) ∧
     if z=0∨(z=j.size∧a.o+cap*j.size ≠ c.length) then K (.slice (some ⟨s.nx,0⟩) (len+n) (len+n)) (s.new (.cells ((c.drop a.o).take (len*j.size)++nc) e j.size true 0))
     else (wr=true∧fz≤a.o∧z=j.size∧nc.all EV.one=true∧t=e)∧K (.slice (some ⟨s.nx,0⟩) (len+n) (len+n)) ((s.kill a.b).new (.cells ((c.drop a.o).take (len*j.size)++nc) e j.size true 0))
  | _=>False:=rfl
attribute [go_sem] yHM zFF
attribute [go_sem] yVK xVZ srcE eCopy eB2S xKG eNextM eNext zGR yMR lookE yYG zRP zeroE eData eText zWH zWJ zQY yVF xVS ySV yKV isU8 xJG inlG aft zTV yKN yWG nam allIn zJV zWN EV.ren zZG xXF EO.ren dropL blBelow
end
section
theorem zBG {x:Int} (h1:0≤x) (h2:x≤255):IntKind.u8.wrap x=x:=by rw[IntKind.wrap_u8];omega
theorem zYP {x:Int} (h1:0≤x) (h2:x≤65535):IntKind.u16.wrap x=x:=by simp only[IntKind.wrap,IntKind.bits,IntKind.signed];simp;omega
theorem zPH {x:Int} (h1:0≤x) (h2:x≤4294967295):IntKind.u32.wrap x=x:=by rw[IntKind.wrap_u32];omega
theorem zKG {x:Int} (h1:0≤x) (h2:x≤18446744073709551615):IntKind.u64.wrap x=x:=by rw[IntKind.wrap_u64];omega
theorem yQN {x:Int} (h1:-2147483648≤x) (h2:x≤2147483647):IntKind.i32.wrap x=x:=by rw[IntKind.wrap_i32];omega
theorem wrapN {k:IntKind} {x:Int} (h1:0≤x) (h2:x≤k.max):k.wrap x=x:=by
 have h3:x<2 ^ k.bits:=by
  cases k<;>simp[IntKind.max,IntKind.signed,IntKind.bits] at h2 ⊢ <;> omega
 have h4:x % 2 ^ k.bits=x:=Int.emod_eq_of_lt h1 h3;simp only[IntKind.wrap,h4]
 cases k<;>simp[IntKind.max,IntKind.signed,IntKind.bits] at h2 ⊢ <;> omega
theorem yPH {n:Nat} {x:Int} (h1:0≤x) (h2:x<2 ^ n):(BitVec.ofInt n x).toNat=x.toNat:=by
 rw[BitVec.toNat_ofInt,Int.emod_eq_of_lt h1 (by exact_mod_cast h2)]
theorem max_lt (k:IntKind):k.max<2 ^ k.bits:=by cases k<;>simp[IntKind.max,IntKind.signed,IntKind.bits]
theorem orI_nat {k:IntKind} {a b:Nat} (ha:(a:Int)≤k.max) (hb:(b:Int)≤k.max) (hab:((a ||| b:Nat):Int)≤k.max):orI k a b=((a ||| b:Nat):Int):=by
 have hm:=max_lt k;simp only[orI,BitVec.toNat_or,yPH (n:=k.bits) (show (0:Int)≤(a:Int) by omega) (by omega),yPH (n:=k.bits) (show (0:Int)≤(b:Int) by omega) (by omega),Int.toNat_natCast];exact wrapN (by omega) hab
theorem orI_add {k:IntKind} (m:Nat) {a b:Int} (h0:0≤a) (hm:a % 2 ^ m=0) (hb0:0≤b) (hb:b<2 ^ m) (hk:a+b≤k.max):orI k a b=a+b:=by
 obtain ⟨x,rfl⟩:=Int.eq_ofNat_of_zero_le h0;obtain ⟨y,rfl⟩:=Int.eq_ofNat_of_zero_le hb0;have hy:y<2 ^ m:=by exact_mod_cast hb
 have hx:x % 2 ^ m=0:=by exact_mod_cast hm
 have e:x ||| y=x+y:=by
  have:=Nat.two_pow_add_eq_or_of_lt hy (x / 2 ^ m);rw[Nat.mul_div_cancel' (Nat.dvd_of_mod_eq_zero hx)] at this
  exact this.symm
 rw[orI_nat (by omega) (by omega) (by rw[e];exact_mod_cast hk),e];simp
theorem shrI_div {k:IntKind} {a b:Int} (hb:b.toNat≤k.bits):shrI k a b=a / 2 ^ b.toNat:=by
 simp only[shrI,Nat.min_eq_left hb];rw[Int.fdiv_eq_ediv_of_nonneg]
 exact_mod_cast Nat.zero_le _
theorem shlI_mul {k:IntKind} {a b:Int} (hb:b.toNat≤k.bits):shlI k a b=k.wrap (a*2 ^ b.toNat):=by
 simp only[shlI,Nat.min_eq_left hb]
def flatT (P:Program) (t:TypeId):Option (List Nat):=
 if P.stoodInHeld t || P.eqGuardType P.depth t then none else go P (P.fieldsOf t).toList 0
where go (P:Program):List Field→Nat→Option (List Nat)
 | [],_=>some []
 | f::fs,k=>if f.offset=k∧f.name ≠ "_" then
    match P.underlying f.type,go P fs (k+1) with
    | some (.int _),some r=>some (0::r)
    | some .string,some r=>some (1::r)
    | some .bool,some r=>some (2::r)
    | _,_=>none
   else none
def xVM:List Nat→List EV→List EV→Prop
 | [],[],[]=>True
 | 0::r,.int k _::xs,.int k' _::ys=>k=k'∧xVM r xs ys
 | 1::r,.str _::xs,.str _::ys=>xVM r xs ys
 | 2::r,.bool _::xs,.bool _::ys=>xVM r xs ys
 | _,_,_=>False
theorem zYS {P:Program} {w:World} {t:TypeId} {d:TypeDesc} {cs:Array Value} {off:Nat} {v:Value} (hu:P.underlying t=some d) (hd:(zRY d).agg=false) (h:cs[off]? = some v):(part t cs off).run P w=.ok v w:=by
 cases d<;>simp[zRY,UT.agg] at hd<;>simp[part,isAgg,run_underlying hu,h]
theorem zHW {P:Program} {ρ:Env} {w:World} (d:Nat):∀ (fs:List Field) (k:Nat) (r:List Nat) (xs ys:List EV) (cs ds:Array Value),flatT.go P fs k=some r→xVM r xs ys →
  (∀ (i:Nat) (v:EV),xs[i]? = some v→∃ v',cs[k+i]? = some v'∧VR ρ v v')→(∀ (i:Nat) (v:EV),ys[i]? = some v→∃ v',ds[k+i]? = some v'∧VR ρ v v') →
  (Op.eqFields (d+1) cs ds fs).run P w=.ok (eqE.eqL xs ys) w
 | [],k,r,xs,ys,cs,ds,h,hf,hx,hy=>by
   simp only[flatT.go,Option.some.injEq] at h
   subst h
   match xs,ys,hf with
   | [],[],_=>simp[Op.eqFields,eqE.eqL]
 | f::fs,k,r,xs,ys,cs,ds,h,hf,hx,hy=>by
   simp only[flatT.go] at h
   split at h
   ·rename_i hk
    obtain ⟨hk,hn⟩:=hk
    split at h
    ·rename_i q r' hu hr
     cases h
     match xs,ys,hf with
     | .int k1 a::xs,.int k2 b::ys,hf=>
       obtain ⟨rfl,hf⟩:=hf;obtain ⟨v1,h1,e1⟩:=hx 0 _ rfl;obtain ⟨v2,h2,e2⟩:=hy 0 _ rfl;rw[VR] at e1;rw[VR] at e2;subst e1;subst e2
       have ih:=zHW (w:=w) (ρ:=ρ) d fs (k+1) r' xs ys cs ds hr hf (fun i v hv=>by have:=hx (i+1) v (by simpa using hv);simpa [Nat.add_assoc,Nat.add_comm 1] using this) (fun i v hv=>by have:=hy (i+1) v (by simpa using hv);simpa [Nat.add_assoc,Nat.add_comm 1] using this);simp only[Op.eqFields,hn,Sem.run_bind,ne_eq,not_false_eq_true,if_true,hk,zYS (w:=w) hu rfl (by simpa using h1),zYS (w:=w) hu rfl (by simpa using h2),Result.andThen_ok,run_equalIn_int w d _ _ _ a b hu,eqE.eqL,eqE]
       by_cases hab:a=b
       ·simp[hab,ih]
       ·simp[hab]
    ·rename_i r' hu hr
     cases h
     match xs,ys,hf with
     | .str a::xs,.str b::ys,hf=>
       simp only[xVM] at hf
       obtain ⟨v1,h1,e1⟩:=hx 0 _ rfl;obtain ⟨v2,h2,e2⟩:=hy 0 _ rfl;rw[VR] at e1;rw[VR] at e2;subst e1;subst e2
       have ih:=zHW (w:=w) (ρ:=ρ) d fs (k+1) r' xs ys cs ds hr hf (fun i v hv=>by have:=hx (i+1) v (by simpa using hv);simpa [Nat.add_assoc,Nat.add_comm 1] using this) (fun i v hv=>by have:=hy (i+1) v (by simpa using hv);simpa [Nat.add_assoc,Nat.add_comm 1] using this);simp only[Op.eqFields,hn,Sem.run_bind,ne_eq,not_false_eq_true,if_true,hk,zYS (w:=w) hu rfl (by simpa using h1),zYS (w:=w) hu rfl (by simpa using h2),Result.andThen_ok,run_equalIn_string w d _ _ _ hu,eqE.eqL,eqE,ByteArray.toList_eq]
       by_cases hab:a=b
       ·simp[hab,ih]
       ·simp[hab]
    ·rename_i r' hu hr
     cases h
     match xs,ys,hf with
     | .bool a::xs,.bool b::ys,hf=>
       simp only[xVM] at hf
       obtain ⟨v1,h1,e1⟩:=hx 0 _ rfl;obtain ⟨v2,h2,e2⟩:=hy 0 _ rfl;rw[VR] at e1;rw[VR] at e2;subst e1;subst e2
       have ih:=zHW (w:=w) (ρ:=ρ) d fs (k+1) r' xs ys cs ds hr hf (fun i v hv=>by have:=hx (i+1) v (by simpa using hv);simpa [Nat.add_assoc,Nat.add_comm 1] using this) (fun i v hv=>by have:=hy (i+1) v (by simpa using hv);simpa [Nat.add_assoc,Nat.add_comm 1] using this);simp only[Op.eqFields,hn,Sem.run_bind,ne_eq,not_false_eq_true,if_true,hk,zYS (w:=w) hu rfl (by simpa using h1),zYS (w:=w) hu rfl (by simpa using h2),Result.andThen_ok,run_equalIn_bool' w d _ _ _ hu,eqE.eqL,eqE]
       by_cases hab:a=b
       ·simp[hab,ih]
       ·simp[hab]
    ·cases h
   ·cases h
theorem zFN {P:Program} {t:TypeId} {r:List Nat} {xs ys:List EV} (h:flatT P t=some r) (hs:P.underlying t=some (.struct (P.fieldsOf t))) (hf:xVM r xs ys) :
  EqS P .eql t (.agg xs) (.agg ys) (eqE (.agg xs) (.agg ys))∧EqS P .neq t (.agg xs) (.agg ys) (!eqE (.agg xs) (.agg ys)):=by
 unfold flatT at h
 split at h
 ·cases h
 ·rename_i hn
  simp only[Bool.or_eq_true,not_or,Bool.not_eq_true] at hn
  have key:∀ (ρ:Env) (x' y':Value) (w:World),VR ρ (.agg xs) x'→VR ρ (.agg ys) y'→∃ cs ds,x'=.agg cs∧y'=.agg ds∧(Op.equalIn 10000 t (.agg cs) (.agg ds)).run P w=.ok (eqE (.agg xs) (.agg ys)) w:=by
   intro ρ x' y' w hx hy;rw[VR] at hx;rw[VR] at hy
   obtain ⟨cs,rfl,hc⟩:=hx;obtain ⟨ds,rfl,hd⟩:=hy;refine ⟨cs,ds,rfl,rfl,?_⟩;rw[show (10000:Nat)=9999+1 from rfl,run_equalIn_agg w 9999 t _ _ hs hn.1,eqE];exact zHW (ρ:=ρ) 9998 _ 0 r xs ys cs ds h hf (fun i v hv=>by obtain ⟨v',q,z⟩:=hc.get i v hv;exact ⟨v',by simpa using q,z⟩) (fun i v hv=>by obtain ⟨v',q,z⟩:=hd.get i v hv;exact ⟨v',by simpa using q,z⟩)
  constructor
  ·intro ρ x' y' ox oy w hx hy;obtain ⟨cs,ds,rfl,rfl,hk⟩:=key ρ x' y' w hx hy;simp only[Sem.run_bind,run_eqGuard_agg w _ _ _ _ _ _ hn.2,Result.andThen_ok,run_eql_struct,hk]
  ·intro ρ x' y' ox oy w hx hy;obtain ⟨cs,ds,rfl,rfl,hk⟩:=key ρ x' y' w hx hy;simp only[Sem.run_bind,run_eqGuard_agg w _ _ _ _ _ _ hn.2,Result.andThen_ok,run_neq_struct,hk]
section
variable {P:Program} {k:Nat} {c:Code} {l0:Nat} {K0:Fr→ES→Prop} {Q:X→Fr→ES→Prop} {fr:Fr} {s:ES}
end
def zVW (b n:Nat):EV:=if n=0 then .slice none 0 0 else .slice (some ⟨b,0⟩) n n
def zVY (b:Nat) (c:List EV) (t z:Nat):List (Nat × EO):=if c.length=0 then [] else [(b,.cells c t z true 0)]
@[simp] theorem zWY (b:Nat):zVW b 0=.slice none 0 0:=rfl
@[simp] theorem zVT (b t z:Nat):zVY b [] t z=[]:=rfl
theorem zWZ {b n:Nat} (h:0<n):zVW b n=.slice (some ⟨b,0⟩) n n:=by unfold zVW;rw[if_neg (by omega)]
theorem zXR {b:Nat} {c:List EV} {t z:Nat} (h:0<c.length):zVY b c t z=[(b,.cells c t z true 0)]:=by unfold zVY;rw[if_neg (by omega)]
@[simp] theorem accE_bel {b n k:Nat} (h:b<k):(zVW b n).bel k:=by unfold zVW;split<;>simp[EV.bel,h]
@[simp] theorem yKX {b t z k:Nat} {c:List EV} (h:b<k) (hc:zQX k c):blBelow k (zVY b c t z):=by
 unfold zVY;split
 ·trivial
 ·simp[blBelow,EO.bel,h,hc]
theorem yBJ {α:Type} (l:List α) (i:Nat):(l.drop i).take (l.length - i)=l.drop i:=List.take_of_length_le (by simp)
theorem iteP {c:Prop} [Decidable c] {A B:Prop} (h1:c→A) (h2:¬ c→B):if c then A else B:=by
 by_cases h:c
 ·rw[if_pos h];exact h1 h
 ·rw[if_neg h];exact h2 h
attribute [go_sem] Nat.lt_add_right_iff_pos Nat.add_lt_add_iff_left Nat.add_left_cancel_iff Nat.left_eq_add Nat.add_eq_left Nat.lt_irrefl
theorem xTD (a b:Nat):((a:Int)+(b:Int)).toNat=a+b:=by omega
theorem xZJ (a:Nat):((a:Int)+1).toNat=a+1:=by omega
theorem yFT (a b:Nat):a+b - a=b:=by omega
attribute [go_sem] xTD xZJ yFT
attribute [go_sem] yBJ List.drop_length List.append_nil List.nil_append
attribute [go_sem] zHX yVV zPX Option.isNone_none Option.isSome_none Option.isSome_some List.drop_zero
class Stp (p:Prop) (q:outParam Prop):Prop where
 h:q→p
theorem stp {p q:Prop} [c:Stp p q] (x:q):p:=c.h x
class Spl (p:Prop) (c a d b:outParam Prop):Prop where
 h:(c→a)→(d→b)→p
theorem spl {p c a d b:Prop} [x:Spl p c a d b] (h1:c→a) (h2:d→b):p:=x.h h1 h2
section
variable {P:Program} {k:Nat} {Q:X→Fr→ES→Prop} {fr:Fr} {s:ES} {K:EV→ES→Prop}
instance {id:Nat} {ops:Array Oper}:Stp (ESem P k (.region id ops false) Q fr s) (xRP P ops.toList Q ops.toList fr s):=⟨esem_reg⟩
instance {c:Operand} {x y:Code}:Stp (ESem P k (.cond c x y) Q fr s) (csel P k x y Q (ev fr c) fr s):=⟨esem_cond⟩
instance:Stp (ESem P k .ret Q fr s) (Q .ret fr s):=⟨esem_ret⟩
instance {i:Nat}:Stp (ESem P k (.exit i) Q fr s) (Q (.exit i) fr s):=⟨esem_exit⟩
instance:Stp (ESem P k .skip Q fr s) (Q .normal fr s):=⟨zGJ⟩
instance {l:Nat}:Stp (ESem P k (.label l) Q fr s) (Q .normal fr s):=⟨esem_label⟩
instance {ts:Array TypeId} {a b:Operand} {x y:EV}:Stp (EOp P (.call { callee:=.builtin .append,args:=#[a,b],argTypes:=ts }) [x,y] s K) (yVK P ts.toList x y s K):=⟨yVX⟩
instance {ts:Array TypeId} {a b:Operand} {x y:EV}:Stp (EOp P (.call { callee:=.builtin .copy,args:=#[a,b],argTypes:=ts }) [x,y] s K) (eCopy P ts.toList x y s K):=⟨eop_copy⟩
instance {c:Prop} [Decidable c] {A B:Prop}:Spl (if c then A else B) c A (¬ c) B:=⟨iteP⟩
instance {b:Bool} {A B:Prop}:Spl (zFG b true A B) (b=true) A (b=false) B:=⟨gsel_boolT⟩
instance {p:Prop} [Decidable p] {A B:Prop}:Spl (zFG (decide p) true A B) p A (¬ p) B:=⟨gsel_decT⟩
instance {p:Prop} [Decidable p] {A B:Prop}:Spl (zFG (decide p) false A B) p B (¬ p) A:=⟨gsel_decF⟩
end
theorem Eff.at2 {G:List Gl} {P:Program} {g:FuncId} {args args2:List EV} {bl bl':List (Nat × EO)} {n n':Nat} {v:EV} (h:Eff G P g args bl n v bl' n') {S:ES} (p:List Nat) (hp:p.length=n)
  (hs:p.Nodup∧(∀ x∈p,x<S.nx)∧args2=zZG (yWG n p S.nx) args∧zQX n args∧blBelow n bl∧blBelow n' bl'∧zWN bl'∧n≤n'∧allIn S (zTV (yWG n p S.nx) bl)∧zJV S.nx S.bl) (hG:S.gl=G) {K Kp:EV→ES→Prop}
  (hK:K (v.ren (yWG n p S.nx)) (aft S (yWG n p S.nx) bl bl' (n' - n))):ECalls P g args2 S (KC K Kp):=
 Eff.at h p hp hs.1 hs.2.1 hs.2.2.1 hs.2.2.2.1 hs.2.2.2.2.1 hs.2.2.2.2.2.1 hs.2.2.2.2.2.2.1 hs.2.2.2.2.2.2.2.1 hs.2.2.2.2.2.2.2.2.1 hs.2.2.2.2.2.2.2.2.2 hG hK
attribute [go_sem] ebinS
attribute [simp] EV.ren zZG xXF yWG nam EO.ren zTV zSG yQW zZT zWJ allIn ES.get lkp blBelow zVH EO.bel zQX EV.bel zMF zQB zWN zJV
end
section
theorem succz1E (n:Nat):(n+1=0)=False:=by simp
theorem zsucc1E (n:Nat):(0=n+1)=False:=by simp
theorem zlt1E (n:Nat):(0<n+1)=True:=by simp
theorem add1_1E (n:Nat):n+1+1=n+2:=rfl
theorem add1_2E (n:Nat):n+1+2=n+3:=rfl
theorem add1_3E (n:Nat):n+1+3=n+4:=rfl
theorem add1_4E (n:Nat):n+1+4=n+5:=rfl
theorem add1_5E (n:Nat):n+1+5=n+6:=rfl
theorem add1_6E (n:Nat):n+1+6=n+7:=rfl
attribute [go_sem] succz1E zsucc1E zlt1E
attribute [go_sem] add1_1E add1_2E add1_3E add1_4E add1_5E add1_6E
theorem accE_one (b:Nat):zVW b 1=.slice (some ⟨b,0⟩) 1 1:=rfl
end
section

end
section
theorem add_litE (n i j:Nat):n+no_index (OfNat.ofNat i)+no_index (OfNat.ofNat j)=n+(OfNat.ofNat i+OfNat.ofNat j):=Nat.add_assoc _ _ _
attribute [go_sem] add_litE ebinS
end
section
open Go.RowKit
mutual
theorem EV.ren_idF {π:Nat→Nat} {k:Nat} (h:∀ i,i<k→π i=i):∀ v:EV,v.bel k→v.ren π=v
 | .unk,_=>rfl
 | .bool _,_=>rfl
 | .int _ _,_=>rfl
 | .str _,_=>rfl
 | .ptr none,_=>rfl
 | .ptr (some a),x=>by simp only[EV.bel] at x;simp only[EV.ren,h _ x]
 | .slice none _ _,_=>rfl
 | .slice (some a) _ _,x=>by simp only[EV.bel] at x;simp only[EV.ren,h _ x]
 | .map none,_=>rfl
 | .map (some r),x=>by simp only[EV.bel] at x;simp only[EV.ren,h _ x]
 | .fn _ as bs,x=>by simp only[EV.bel] at x;simp only[EV.ren,zPV h as x.1,zPV h bs x.2]
 | .nilFn,_=>rfl
 | .iface _ v,x=>by simp only[EV.bel] at x;simp only[EV.ren,EV.ren_idF h v x]
 | .nilIface,_=>rfl
 | .agg cs,x=>by simp only[EV.bel] at x;simp only[EV.ren,zPV h cs x]
 | .tuple cs,x=>by simp only[EV.bel] at x;simp only[EV.ren,zPV h cs x]
theorem zPV {π:Nat→Nat} {k:Nat} (h:∀ i,i<k→π i=i):∀ l:List EV,zQX k l→zZG π l=l
 | [],_=>rfl
 | v::l,x=>by simp only[zQX] at x;simp only[zZG,EV.ren_idF h v x.1,zPV h l x.2]
end
theorem EO.ren_idF {π:Nat→Nat} {k:Nat} (h:∀ i,i<k→π i=i) (o:EO) (x:o.bel k):o.ren π=o:=by
 cases o with
 | cells c t z wr fz=>simp only[EO.bel] at x;simp only[EO.ren,zPV h c x]
 | sIter s p=>rfl
 | raw id o=>rfl
 | rng id tl st pend cd=>simp only[EO.bel] at x;simp only[EO.ren,zPV h tl x]
 | map es=>
   simp only[EO.bel] at x
   simp only[EO.ren,EO.map.injEq]
   induction es with
   | nil=>rfl
   | cons y r ih=>obtain ⟨a,b⟩:=y;simp only[zVH] at x;simp only[xXF,EV.ren_idF h a x.1,EV.ren_idF h b x.2.1,ih x.2.2]
theorem ECalls.toCallsS {P:Program} {g:FuncId} {fn:Func} {c:Code} {args:List EV} {args':Array Value} {Q:ER→ES→Prop} {S:ES} {ρ:Env} (h:ECalls P g args S Q) (hf:P.funcs[g]? = some fn) (hb:fn.body=some c) (hname:(fn.name == "runtime.NumGoroutine")=false)
  (hA:VRs ρ args args'.toList) (w:World) (hR:Rel ρ S w) (hno:∀ b o,S.get b=some o→o.wr=false):Calls P g args' w fun e w'=>∃ x s' ρ',RetR ρ' x e∧RowKit.Below w.heap.size w w'∧Q x s':=by
 have hc:=h _ w args' hR hA;have hcall:(callFunc g args').run P w=.ok (.enter g args') w:=by
  simp only[callFunc,Sem.run_bind,program,Sem.run,Result.andThen_ok,hf,hname,Bool.false_eq_true,if_false,hb,Option.isNone_some];rfl
 rw[hcall] at hc
 refine (callsIn_wide (n:=0)).1 (CallsIn.mono hc ?_)
 rintro e w' ⟨x,s',ρ',h1,h2,h3⟩
 refine ⟨x,s',ρ',h1,⟨h2.step.os,h2.step.tape,h2.step.output,h2.step.size,fun k hk=>h2.step.block k hk ?_⟩,h3⟩
 rintro ⟨b,o,l,hg,hr,hw,hx⟩
 rw[hno b o hg] at hw
 cases hw
theorem done_ef2 {k:Nat} {v v0:EV} {s:ES} {bl bl0:List (Nat × EO)} {G:List Gl} {n0:Nat} (p:List Nat) (hs:n0=k+p.length∧p.Nodup∧(∀ x∈p,k≤x∧x<s.nx)∧k≤s.nx∧blBelow n0 bl0∧v0.bel n0) (hG:s.gl=G)
  (hv:v=v0.ren (nam k p)) (hbl:allIn s (zTV (nam k p) bl0)):xXM k (Cmp ⟨bl,k,G⟩ fun x s=>x=.ret v0∧s=⟨bl0,n0,G⟩) (.ret v) s:=
 zWW p hs.1 hs.2.1 hs.2.2.1 hs.2.2.2.1 hs.2.2.2.2.1 hs.2.2.2.2.2 hG hv hbl
end
end Go.E
