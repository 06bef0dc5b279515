/-
  Own work: a part of the proof that the last text closes.
-/
import Derived.Test.YtncphnpndkjkaaaGreatDoorFh
import Derived.Lib.Overlaps
namespace Go.E
set_option linter.all false
def eCap (P:Program) (ts:List TypeId) (x:EV) (s:ES) (K:EV→ES→Prop):Prop:=
 match ts with
 | t::_=>match zXZ P t with
   | some i=>match i.u,x with
     | .slice _,.slice none _ _=>K (.int .i64 0) s
     | .slice _,.slice (some a) _ cap=>match s.get a.b with
       | some (.cells _ _ z _ _)=>if z=0 then K (.int .i64 cap) s else ∀ c':Nat,cap≤c'→K (.int .i64 c') s
       | _=>False
     | _,_=>False
   | none=>False
 | []=>False
theorem yRN {P:Program} {ts:Array TypeId} {a:Operand} {x:EV} {s:ES} {K:EV→ES→Prop} (h:eCap P ts.toList x s K):EOp P (.call { callee:=.builtin .cap,args:=#[a],argTypes:=ts }) [x] s K:=by
 intro ρ w act o ho hR hv;simp only[Op.operands,Call.operands] at hv
 have hv':VRs ρ [x] [act.eval a]:=by simpa using hv
 simp only[VRs] at hv'
 obtain ⟨x',l',e1,hx,e3⟩:=hv';subst e3;simp only[List.cons.injEq,and_true] at e1
 subst e1;obtain ⟨dst,op,type,pos,after,guard⟩:=o;simp only at ho;subst ho
 have hm:(#[a].map act.eval) = #[act.eval a]:=by simp
 refine .run (m:=Builtin.cap_ ts type (#[a].map act.eval)) rfl ?_;rw[hm];generalize act.eval a=x' at hx
 unfold eCap at h
 split at h
 ·rename_i t us h0
  obtain ⟨tl⟩:=ts;simp only at h0;subst h0
  split at h
  ·rename_i i hi
   obtain ⟨inf,d,z,T⟩:=zQG hi
   split at h
   ·rename_i e _ _ hu
    have ht:=T.slice hu;rw[VR] at hx
    obtain ⟨-,-,rfl⟩:=hx;exact RunV.pure hR (v:=.int .i64 0) (v':=goInt 0) (by simp[Builtin.cap_,run_underlying ht]) (by rw[VR];rfl) h
   ·rename_i e a n cap hu
    have ht:=T.slice hu;rw[VR] at hx
    obtain ⟨l,c',o',hl,hc,hn,-,rfl⟩:=hx
    split at h
    ·rename_i c ty z wr fz hg
     obtain ⟨-,hz,-⟩:=hR.live _ _ _ hg hl;have hrun:(Builtin.cap_ ⟨t::us⟩ type #[.slice (some ⟨l.r,o',none⟩) n c']).run P w=.ok (goInt c') w:=by simp[Builtin.cap_,run_underlying ht]
     split at h
     ·rename_i h0
      rcases hc with rfl | ⟨h1,-⟩
      ·exact RunV.pure hR hrun (by rw[VR];rfl) h
      ·exact absurd (hz.trans h0) h1
     ·exact RunV.pure hR hrun (by rw[VR];rfl) (h c' (by rcases hc with rfl | ⟨-,-,h1,-⟩<;>omega))
    ·exact h.elim
   ·exact h.elim
  ·exact h.elim
 ·exact h.elim
theorem xWT {P:Program} {g:FuncId} {fn:Func} {tS tR e:TypeId} {j:TI} {a b:EA} {la ca lb cb:Nat} {s:ES} {Q:ER→ES→Prop} {c c2:List EV} {t t2:TypeId} {fz z2 fz2:Nat} {wr2:Bool}
  (hf:P.funcs[g]? = some fn) (hname:(fn.name == "runtime.NumGoroutine")=false) (hb:fn.body.isNone=true) (hn:Extern.findNext fn=none) (he:Extern.find fn=some (Extern.SlicesOverlaps.overlaps #[tS,tS] #[tR]))
  (ht:P.underlying tS=some (.slice e)) (hj:zXZ P e=some j) (hga:s.get a.b=some (.cells c t 0 true fz)) (hgb:s.get b.b=some (.cells c2 t2 z2 wr2 fz2)) (hab:a.b ≠ b.b) (hla:0<la) (hlc:a.o<c.length) (hfz:fz≤a.o) (hc2:0<c2.length)
  (h:Q (.ret (.bool false)) s):ECalls P g [.slice (some a) la ca,.slice (some b) lb cb] s Q:=by
 refine yXZ hf hname hb hn he fun ρ w args' hR hA=>?_
 obtain ⟨args'⟩:=args';simp only[VRs] at hA
 obtain ⟨x',l',e1,hx,y',l'',e2,hy,e3⟩:=hA;subst e3 e2 e1;obtain ⟨inf,d,z,T⟩:=zQG hj;rw[VR] at hx hy
 obtain ⟨lA,cA,oA,h1,h2,h3,h4,rfl⟩:=hx;obtain ⟨lB,cB,oB,k1,k2,k3,k4,rfl⟩:=hy;have hA:=hR.live _ _ _ hga h1;have hB:=hR.live _ _ _ hgb k1;have hsep:=hR.sep _ _ _ _ _ _ hga hgb h1 k1 hab rfl;obtain ⟨a1,a2,a3,a4,cs,fr,a5,⟨a6,a7⟩,a8,a9⟩:=hA;obtain ⟨b1,b2,b3,b4,cs2,fr2,b5,⟨b6,b7⟩,b8,b9⟩:=hB;obtain ⟨a10,a11⟩:=a7 rfl rfl;have a12:=a3 rfl;have hle:=h2.le;obtain rfl:oA=a.o+lA.d:=by
  rcases h4 with h | h
  ·exact h
  ·omega
 have f1:=a9 rfl a.o hfz (.inl (by omega));have f2:=a9 rfl lA.n (by omega) (.inr ⟨rfl,by omega⟩);refine RunV.pure hR (Lib.run_overlaps_apart w tS tR e ht j.size (fun w=>T.run_size w) ⟨lA.r,a.o+lA.d,none⟩ ⟨lB.r,oB,none⟩ la cA lb cB hsep t t2 cs.size cs2.size ?_ ?_ (by omega) ?_ ?_) (by rw[VR]) h
 ·simp[World.shape?,a5]
 ·simp[World.shape?,b5]
 ·simp only[World.frozen?,a5];simp only[free] at f1
  simp;omega
 ·simp only[World.frozen?,a5];simp only[free] at f2
  simp;omega
end Go.E
