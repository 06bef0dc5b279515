/-
  Own work: a part of the proof that the last text closes.
-/
import Derived.Test.YtncphnpndkjkaaaGreatDoorFk
namespace Go.E
set_option linter.all false
mutual
theorem EV.ren_cg {π ξ:Nat→Nat} {k:Nat} (h:∀ i,i<k→π i=ξ i):∀ v:EV,v.bel k→v.ren π=v.ren ξ
 | .unk,_=>rfl
 | .bool _,_=>rfl
 | .int _ _,_=>rfl
 | .str _,_=>rfl
 | .ptr none,_=>rfl
 | .ptr (some a),x=>by simp only[EV.bel] at x;simp only[EV.ren,h _ x]
 | .slice none _ _,_=>rfl
 | .slice (some a) _ _,x=>by simp only[EV.bel] at x;simp only[EV.ren,h _ x]
 | .map none,_=>rfl
 | .map (some r),x=>by simp only[EV.bel] at x;simp only[EV.ren,h _ x]
 | .fn _ xs ys,x=>by simp only[EV.bel] at x;simp only[EV.ren,yQQ h xs x.1,yQQ h ys x.2]
 | .nilFn,_=>rfl
 | .iface _ v,x=>by simp only[EV.bel] at x;simp only[EV.ren,EV.ren_cg h v x]
 | .nilIface,_=>rfl
 | .agg cs,x=>by simp only[EV.bel] at x;simp only[EV.ren,yQQ h cs x]
 | .tuple cs,x=>by simp only[EV.bel] at x;simp only[EV.ren,yQQ h cs x]
theorem yQQ {π ξ:Nat→Nat} {k:Nat} (h:∀ i,i<k→π i=ξ i):∀ l:List EV,zQX k l→zZG π l=zZG ξ l
 | [],_=>rfl
 | v::l,x=>by simp only[zQX] at x;simp only[zZG,EV.ren_cg h v x.1,yQQ h l x.2]
end
theorem EO.ren_cg {π ξ:Nat→Nat} {k:Nat} (h:∀ i,i<k→π i=ξ i) (o:EO) (x:o.bel k):o.ren π=o.ren ξ:=by
 cases o with
 | cells c t z wr fz=>simp only[EO.bel] at x;simp only[EO.ren,yQQ h c x]
 | sIter s p=>rfl
 | raw id o=>rfl
 | rng id tl st pend cd=>simp only[EO.bel] at x;simp only[EO.ren,yQQ h tl x]
 | map es=>
   simp only[EO.bel] at x
   simp only[EO.ren,EO.map.injEq]
   induction es with
   | nil=>rfl
   | cons y r ih=>obtain ⟨a,b⟩:=y;simp only[zVH] at x;simp only[xXF,EV.ren_cg h a x.1,EV.ren_cg h b x.2.1,ih x.2.2]
theorem NewN.snoc {k:Nat} {s s2:ES} {B:List (Nat × EO)} {N:Nat} {q:List Nat} (h:NewN k s B N 0 q) (x:Nat) (hx:x ∉ q) (hxs:x<s2.nx) (hnx:s2.nx=s.nx) (hsame:∀ i,i ≠ x→s2.get i=s.get i) (o:EO) (hb:o.bel (N+1)) (hg:s2.get x=some (o.ren (nam 0 (q++[x])))):NewN k s2 ((N,o)::B) (N+1) 0 (q++[x]):=by
 have hN:N=q.length:=by have:=h.top;omega
 have hlt:∀ i,i<N→nam 0 (q++[x]) i=nam 0 q i:=fun i hi=>by
  unfold nam;rw[if_neg (by omega),if_neg (by omega),List.getD_eq_getElem?_getD,List.getD_eq_getElem?_getD,List.getElem?_append_left (by omega)]
 have hmem:∀ i,i<N→nam 0 q i∈q:=fun i hi=>by
  unfold nam;rw[if_neg (by omega),Nat.sub_zero,List.getD_eq_getElem?_getD,List.getElem?_eq_getElem (by omega)];exact List.getElem_mem _
 refine ⟨h.kk,by simp;omega,?_,fun y hy=>?_,Nat.zero_le _,⟨by omega,hb,zYM fun i o' hm=>?_⟩,?_⟩
 ·refine List.nodup_append.2 ⟨h.nd,(by simp),fun a ha b hb e=>?_⟩;rw[List.mem_singleton.1 hb] at e
  exact hx (e ▸ ha)
 ·rcases List.mem_append.1 hy with q1 | q1
  ·exact ⟨Nat.zero_le _,hnx ▸ (h.mem y q1).2⟩
  ·rw[List.mem_singleton.1 q1];exact ⟨Nat.zero_le _,hxs⟩
 ·obtain ⟨h1,h2⟩:=zXY h.bel hm;exact ⟨by omega,EO.bel_mono (Nat.le_succ _) o' h2⟩
 ·refine ⟨?_,zNR fun i o' hm=>?_⟩
  ·have:nam 0 (q++[x]) N=x:=by
    unfold nam;rw[if_neg (by omega),Nat.sub_zero,List.getD_eq_getElem?_getD,List.getElem?_append_right (by omega),hN,Nat.sub_self];rfl
   rw[this];exact hg
  ·obtain ⟨j,y,h1,rfl,rfl⟩:=yWV hm;obtain ⟨h2,h3⟩:=zXY h.bel h1;rw[hlt j h2,EO.ren_cg (k:=N) (fun i hi=>hlt i hi) y h3];have hne:nam 0 q j ≠ x:=fun e=>hx (e ▸ hmem j h2)
   rw[hsame _ hne];have hmm:∀ {L:List (Nat × EO)},(j,y)∈L→(nam 0 q j,y.ren (nam 0 q))∈zTV (nam 0 q) L:=by
    intro L hL
    induction L with
    | nil=>cases hL
    | cons z r ih=>
      obtain ⟨c,w⟩:=z;simp only[zTV]
      cases hL with
      | head=>exact .head _
      | tail _ hL=>exact .tail _ (ih hL)
   exact yXM h.all (hmm h1)
theorem Rel.weakO {ρ:Env} {s s':ES} {w:World} (h:Rel ρ s w) {x:Nat} {c c':List EV} {t z fz:Nat} {wr:Bool} (hx:s.get x=some (.cells c t z wr fz)) (hx':s'.get x=some (.cells c' t z wr fz)) (hl:c'.length=c.length) (hc:∀ (i:Nat) v,c'[i]? = some v→v=.unk∨c[i]? = some v)
  (hget:∀ b,b ≠ x→s'.get b=s.get b) (hnx:s'.nx=s.nx) (hgl:s'.gl=s.gl):Go1 ρ s w ρ s' w:=by
 have key:∀ b o,s'.get b=some o→∃ o0,s.get b=some o0∧(∀ l,BR ρ w l o0→BR ρ w l o)∧o.wr=o0.wr:=by
  intro b o hb
  by_cases hbx:b=x
  ·subst hbx;rw[hx'] at hb;cases hb
   refine ⟨_,hx,fun l hbr=>?_,rfl⟩;obtain ⟨h1,h2,h3,h4,cs,fr,h5,h6,h7,h8⟩:=hbr;refine ⟨by rw[hl];exact h1,h2,h3,h4,cs,fr,h5,h6,fun i v hi=>?_,h8⟩
   rcases hc i v hi with rfl | hv
   ·have hi2:i<c.length:=by rw[← hl];exact (List.getElem?_eq_some_iff.1 hi).1
    obtain ⟨v',q1,-⟩:=h7 i _ (List.getElem?_eq_getElem hi2);exact ⟨v',q1,by simp only[VR]⟩
   ·exact h7 i v hv
  ·rw[hget b hbx] at hb
   exact ⟨o,hb,fun _ h=>h,rfl⟩
 exact {
  gl:=hgl
  rel0:=⟨fun b o l hg hr=>by
    obtain ⟨o0,q1,q2,-⟩:=key b o hg;exact q2 l (h.live b o0 l q1 hr),fun i hi=>h.fresh i (by omega),fun b b' o o' l l' hg hg' hr hr' hne hw=>by
    obtain ⟨o0,q1,-,q3⟩:=key b o hg;obtain ⟨o1,p1,-,-⟩:=key b' o' hg';exact h.sep b b' o0 o1 l l' q1 p1 hr hr' hne (q3 ▸ hw),fun b o hg=>by
    obtain ⟨o0,q1,-,-⟩:=key b o hg;exact h.dom b o0 q1⟩
  old:=fun _ _=>rfl
  nx:=Nat.le_of_eq hnx.symm
  was:=h
  gone:=fun b _ hn=>by
   cases hq:s'.get b with
   | none=>rfl
   | some o=>obtain ⟨o0,q1,-,-⟩:=key b o hq;rw[q1] at hn;cases hn
  step:=StepW.refl _ _
  src:=fun b o l hg hr=>by
   obtain ⟨o0,q1,-,q3⟩:=key b o hg;exact .inl ⟨b,o0,l,q1,hr,rfl,fun hw=>q3 ▸ hw⟩ }
theorem xKX {P:Program} {k:Nat} {c0:Code} {Q:X→Fr→ES→Prop} {fr:Fr} {s s':ES} {x:Nat} {c c':List EV} {t z fz:Nat} {wr:Bool} (hx:s.get x=some (.cells c t z wr fz)) (hx':s'.get x=some (.cells c' t z wr fz)) (hl:c'.length=c.length) (hc:∀ (i:Nat) v,c'[i]? = some v→v=.unk∨c[i]? = some v)
  (hget:∀ b,b ≠ x→s'.get b=s.get b) (hnx:s'.nx=s.nx) (hgl:s'.gl=s.gl) (h:ESem P k c0 Q fr s'):ESem P k c0 Q fr s:=by
 intro hk r hr ρ w a hR hF;have hG:=(Rel.weakO hR hx hx' hl hc hget hnx hgl).toK hk;exact wpIn_mono (h hG.nx r hr _ w a hG.rel hF) fun e a w h=>CPost.trans hG h
end Go.E
