/-
  Own work: a part of the proof that the last text closes.
-/
import Derived.Test.YtncphnpndkjkaaaGreatDoorFe
namespace Go.E
set_option linter.all false
section
def stB (f:Nat→EO) (B:List (Nat × EO)):List (Nat × EO):=B.map fun x=>if x.1<11 then (x.1,f x.1) else x
theorem stB_nil (f:Nat→EO):stB f []=[]:=rfl
theorem zXK (f:Nat→EO) (b:Nat) (o:EO) (B:List (Nat × EO)):stB f ((b,o)::B)=(b,if b<11 then f b else o)::stB f B:=by
 simp only[stB,List.map_cons];split<;>rfl
theorem yNG (f:Nat→EO):∀ (B:List (Nat × EO)) (i:Nat),lkp (stB f B) i=if i<11 then (lkp B i).map (fun _=>f i) else lkp B i
 | [],i=>by simp[stB_nil,lkp]
 | (b,o)::r,i=>by
   rw[zXK];simp only[lkp]
   by_cases h:b=i
   ·subst h;simp only[if_true];split<;>rfl
   ·simp only[h,if_false];exact yNG f r i
theorem xYS (f:Nat→EO) (i:Nat) (o:EO) (hi:i<11):∀ (B:List (Nat × EO)),zWN B→setL (stB f B) i o=stB (fun k=>if k=i then o else f k) B
 | [],_=>rfl
 | (b,x)::r,h=>by
   have ih:=xYS f i o hi r h.2;rw[zXK,zXK];simp only[setL]
   by_cases hb:b=i
   ·subst hb;simp only[if_true,hi]
    congr 1
    have hn:=h.1;clear ih h
    induction r with
    | nil=>rfl
    | cons y r ih2=>
      obtain ⟨c,z⟩:=y;simp only[lkp] at hn
      split at hn
      ·cases hn
      ·rename_i hc
       rw[zXK,zXK,if_neg hc,ih2 hn]
   ·simp only[hb,if_false,ih]
theorem yQF {f g:Nat→EO} (h:∀ k,k<11→f k=g k):∀ (B:List (Nat × EO)),stB f B=stB g B
 | []=>rfl
 | (b,o)::r=>by
   rw[zXK,zXK,yQF h r]
   by_cases hb:b<11
   ·rw[if_pos hb,if_pos hb,h b hb]
   ·rw[if_neg hb,if_neg hb]
theorem xSV (f:Nat→EO) (a b:List (Nat × EO)):stB f (a++b)=stB f a++stB f b:=by simp[stB]
theorem stB_hi (f:Nat→EO) {t:Nat} (ht:11≤t):∀ {l:List (Nat × EO)},zXT t l→stB f l=l
 | [],_=>rfl
 | (b,o)::r,h=>by
   simp only[zXT] at h
   rw[zXK,stB_hi f ht h.2,if_neg (by omega)]
theorem xYP (f:Nat→EO):∀ {B:List (Nat × EO)},zWN B→zWN (stB f B)
 | [],_=>trivial
 | (b,o)::r,h=>by
   rw[zXK];refine ⟨?_,xYP f h.2⟩;rw[yNG,h.1];simp
theorem yDW {t:Nat} {f:Nat→EO} (hf:∀ k,k<11→(f k).bel t):∀ {B:List (Nat × EO)},blBelow t B→blBelow t (stB f B)
 | [],_=>trivial
 | (b,o)::r,h=>by
   rw[zXK];refine ⟨h.1,?_,yDW hf h.2.2⟩
   split
   ·exact hf b (by assumption)
   ·exact h.2.1
class StG (B:List (Nat × EO)) (t:outParam Nat):Prop where
 bg:Bg t B
 big:11≤t
 has:∀ i,i<11→(lkp B i).isSome=true
section
variable {B:List (Nat × EO)} {t:Nat} {f:Nat→EO}
theorem StG.lkp [h:StG B t] {i:Nat} (hi:i<11):E.lkp (stB f B) i=some (f i):=by
 rw[yNG,if_pos hi];have:=h.has i hi
 cases hx:E.lkp B i with
 | none=>rw[hx] at this;cases this
 | some o=>rfl
theorem StG.lkp_hi [h:StG B t] {i:Nat} (hi:11≤i):E.lkp (stB f B) i=E.lkp B i:=by
 rw[yNG,if_neg (by omega)]
theorem StG.setL [h:StG B t] {i:Nat} {o:EO} (hi:i<11):E.setL (stB f B) i o=stB (fun k=>if k=i then o else f k) B:=xYS f i o hi B h.bg.keys
theorem StG.new [h:StG B t] (hf:∀ k,k<11→(f k).bel t):StG (stB f B) t where
 bg:=⟨yDW hf h.bg.below,xYP f h.bg.keys⟩
 big:=h.big
 has i hi:=by rw[StG.lkp hi];rfl
theorem StG.above [h:StG B t] {t':Nat} {X:List (Nat × EO)} (ht:t≤t') (hX:zXT t X) (hk:zWN X) (hb:blBelow t' X):StG (X++B) t' where
 bg:=⟨zJS hb (zYM fun i o hm=>by
   obtain ⟨h1,h2⟩:=zXY h.bg.below hm;exact ⟨by omega,EO.bel_mono ht o h2⟩),by
  clear hb
  induction X with
  | nil=>exact h.bg.keys
  | cons y r ih=>
    obtain ⟨b,o⟩:=y;refine ⟨?_,ih hX.2 hk.2⟩;show E.lkp (r++B) b=none;rw[zXW,hk.1];exact h.bg.none hX.1⟩
 big:=Nat.le_trans h.big ht
 has i hi:=by
  rw[zXW,zVF hX (by have:=h.big;omega)];exact h.has i hi
end
end
section
def PostW (G:List Gl) (t:Nat) (L B:List (Nat × EO)) (n:Nat) (v:EV) (L' B':List (Nat × EO)) (n':Nat):ER→ES→Prop:=
 Cmp ⟨L++B,t+n,G⟩ fun x s=>x=.ret v∧s=⟨L' ++ B',t+n',G⟩
theorem EffW.enter {G:List Gl} {P:Program} {g:FuncId} {args:List EV} {t:Nat} {L B:List (Nat × EO)} {n:Nat} {v:EV} {L' B':List (Nat × EO)} {n':Nat}
  (h:∀ Q,Q=PostW G t L B n v L' B' n'→ECalls P g args ⟨L++B,t+n,G⟩ Q):EffW G P g args t L B n v L' B' n':=h _ rfl
theorem zQN {G:List Gl} {t:Nat} {L B:List (Nat × EO)} {n:Nat} {v0:EV} {L0 B':List (Nat × EO)} {n0:Nat} {Q:ER→ES→Prop} (hQ:Q=PostW G t L B n v0 L0 B' n0) {k nx:Nat} {v:EV} {bls M:List (Nat × EO)} [hA:AppW t bls M B'] [hB:Bg t B'] (p:List Nat)
  (hs:k=t+n∧n0=n+p.length∧p.Nodup∧(∀ x∈p,t+n≤x∧x<nx)∧t+n≤nx∧blBelow (t+n0) L0∧v0.bel (t+n0))
  (hv:v=v0.ren (nam (t+n) p)) (hbl:allIn ⟨M,nx,G⟩ (zTV (nam (t+n) p) L0)):xXM k Q (.ret v) ⟨bls,nx,G⟩:=by
 obtain ⟨rfl,hs⟩:=hs;subst hQ;exact done_W p hs hv hbl
theorem yXB {k:Nat}:∀ {l:List (Nat × EO)},blBelow k l→cutL k l=l
 | [],_=>rfl
 | (b,o)::r,h=>by simp only[cutL,if_pos h.1,yXB h.2.2]
theorem cutL_gnd {f:Nat→EO} {B:List (Nat × EO)} {t j:Nat} [h:Bg t (stB f B)]:cutL (t+j) (stB f B)=stB f B:=yXB (by rw[Bg.blBelow];trivial)
theorem cutL_gnd0 {f:Nat→EO} {B:List (Nat × EO)} {t:Nat} [h:Bg t (stB f B)]:cutL t (stB f B)=stB f B:=yXB h.below
theorem yWB {k:Nat}:∀ {l:List (Nat × EO)},blBelow k l→zJV k l
 | [],_=>trivial
 | (b,o)::r,h=>⟨h.1,yWB h.2.2⟩
theorem yGD {f:Nat→EO} {B:List (Nat × EO)} {t j:Nat} [h:Bg t (stB f B)]:zJV (t+j) (stB f B)=True:=eq_true (yWB (by rw[Bg.blBelow];trivial))
theorem yPD {f:Nat→EO} {B:List (Nat × EO)} {t:Nat} [h:Bg t (stB f B)]:zJV t (stB f B)=True:=eq_true (yWB h.below)
attribute [go_sem] yGD yPD Bg.dropL Bg.dropL0
attribute [simp] yGD yPD Bg.dropL Bg.dropL0
attribute [go_sem] cutL_gnd cutL_gnd0 AppW.less AppW.less0
attribute [simp] zXT xVY namW_lo namW_0 lt_big lt_big0 ne_big ne_big0 Bg.blBelow Bg.blBelow0 Bg.lkp_hi
end
end Go.E
