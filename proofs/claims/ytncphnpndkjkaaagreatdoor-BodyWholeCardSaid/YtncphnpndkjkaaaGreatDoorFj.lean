/-
  Own work: a part of the proof that the last text closes.
-/
import Derived.Test.YtncphnpndkjkaaaGreatDoorFi
namespace Go.E
set_option linter.all false
theorem GoK.flat {ρ ρ':Env} {s s':ES} {w w':World} (h:GoK 0 ρ s w ρ' s' w'):Go1 ρ s w ρ ⟨[],s.nx,s.gl⟩ w' where
 rel0:=⟨fun b o l hg _=>by simp[ES.get,lkp] at hg,fun i hi=>h.was.fresh i hi,fun b b' o o' l l' hg=>by simp[ES.get,lkp] at hg,fun b o hg=>by simp[ES.get,lkp] at hg⟩
 old _ _:=rfl
 nx:=Nat.le_refl _
 was:=h.was
 gone b _ _:=by simp[ES.get,lkp]
 step:=h.step
 src b o l hg _:=by simp[ES.get,lkp] at hg
 gl:=rfl
theorem final_flat {P:Program} {fn:Func} {ρ ρ':Env} {s s':ES} {w w':World} {v0:EV} (hv0:v0.bel 0) {fr':Fr} {a:Act} {x:X} {e:Exit} (hF:FR ρ' fr' a) (hG:GoK 0 ρ s w ρ' s' w') (hx:XR ρ' x e) (hQ:xJR P fn.results.toList 0 (fun x _=>x=.ret v0) x fr' s') :
  bodyPostM (zPK none) 0 P fn (EPost ρ s w fun x s2=>x=.ret v0∧s2=⟨[],s.nx,s.gl⟩) e a w':=by
 have hdone:∀ (s':ES) (w':World) v' (vs:EV),GoK 0 ρ s w ρ' s' w'→VR ρ' vs v'→xXM 0 (fun x _=>x=.ret v0) (.ret vs) s'→EPost ρ s w (fun x s2=>x=.ret v0∧s2=⟨[],s.nx,s.gl⟩) (.returned v') w':=by
  rintro s' w' v' vs hG hv ⟨s0,hl,hk,hb,hq⟩
  obtain rfl:vs=v0:=by simpa using hq
  refine ⟨.ret vs,⟨[],s.nx,s.gl⟩,ρ,⟨v',rfl,?_⟩,hG.flat,rfl,rfl⟩;have h1:=VR.cut (k:=0) _ _ hv hv0;exact VR.mono (fun i l hl=>by simp[Env.cut] at hl) _ _ h1
 have hres:(yKZ fr'.ds s' fun s'=>zSV P fr' s' fn.results.toList fun vs=>xXM 0 (fun x _=>x=.ret v0) (.ret (yNX vs)) s')→LeavesInM (zPK none) 0 P fn a.tmps (EPost ρ s w fun x s2=>x=.ret v0∧s2=⟨[],s.nx,s.gl⟩) a.defers .returning w':=by
  intro hr;rw[hF.defers];refine zTR (by simp) _ _ _ _ hr hG fun s2 w2 g2 hr2=>?_
  obtain ⟨vs,k1,vs',k2,k3⟩:=zHR (a:=a) g2.rel hF _ _ hr2;exact ⟨_,yYB k3,hdone _ _ _ _ g2 (yDD k2) k1⟩
 cases x with
 | normal=>cases hx;exact hres hQ
 | ret=>cases hx;exact hres hQ
 | exit i=>exact hQ.elim
 | goto i=>exact hQ.elim
 | pan v=>
   obtain ⟨v',rfl,hv⟩:=hx;show LeavesInM (zPK none) 0 P fn a.tmps (EPost ρ s w _) a.defers (.panicking _) w';rw[hF.defers];refine zTR (by simp) _ _ _ _ hQ hG fun s2 w2 g2 hr2=>?_
   obtain ⟨s0,hl,hk,hb,hq⟩:=hr2
   cases hq
theorem yTQ {P:Program} {g:FuncId} {fn:Func} {c:Code} {args:List EV} {s:ES} {v0:EV} (n:Nat) (rs:List ResultVar) (hf:P.funcs[g]? = some fn) (hb:fn.body=some c) (hn:fn.ntmps=n) (hr:fn.results.toList=rs)
  (hname:(fn.name == "runtime.NumGoroutine")=false) (hl:args.length≤n) (hv0:v0.bel 0) (h:ESem P 0 c (xJR P rs 0 fun x _=>x=.ret v0) ⟨yST 0 args,zVP,n,[]⟩ s):ECalls P g args s fun x s2=>x=.ret v0∧s2=⟨[],s.nx,s.gl⟩:=by
 subst hn;subst hr;intro ρ w args' hR hA;have hcall:(callFunc g args').run P w=.ok (.enter g args') w:=by
  simp only[callFunc,Sem.run_bind,program,Sem.run,Result.andThen_ok,hf,hname,Bool.false_eq_true,if_false,hb,Option.isNone_some];rfl
 rw[hcall];refine callsIn_of_wp_marks (F:=zPK none) hf hb trivial ?_ rfl;refine wpIn_mono (h (Nat.zero_le _) none (.inl rfl) ρ w _ hR (FR.enter hA fn.ntmps hl)) ?_
 rintro e a w' ⟨x,fr',s',ρ',hx,hF,hG,hQ⟩
 exact final_flat hv0 hF hG hx hQ
theorem xWD {v v0:EV} {s:ES} (hv:v=v0) (hb:v0.bel 0):xXM 0 (fun x _=>x=.ret v0) (.ret v) s:=by
 subst hv;exact ⟨⟨[],0,s.gl⟩,⟨fun b o hg=>by simp[ES.get,lkp] at hg,trivial,rfl⟩,Nat.le_refl _,hb,rfl⟩
end Go.E
