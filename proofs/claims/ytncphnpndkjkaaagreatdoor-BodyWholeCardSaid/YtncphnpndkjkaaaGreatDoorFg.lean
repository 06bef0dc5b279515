/-
  Own work: a part of the proof that the last text closes.
-/
import Derived.Test.YtncphnpndkjkaaaGreatDoorFf
namespace Go.E
set_option linter.all false
section
def renF (π:Nat→Nat):List (Nat × EV)→List (Nat × EV)
 | []=>[]
 | (t,v)::r=>(t,v.ren π)::renF π r
theorem xYN {π:Nat→Nat}:∀ {l:List (Nat × EV)} {t:Nat} {v:EV},lkp l t=some v→lkp (renF π l) t=some (v.ren π)
 | (c,x)::r,t,v,h=>by
   simp only[lkp,renF] at h ⊢
   split at h
   ·rename_i hc;subst hc;cases h;simp
   ·rename_i hc;rw[if_neg hc];exact xYN h
structure NewN (k:Nat) (s:ES) (B:List (Nat × EO)) (N k0:Nat) (q:List Nat):Prop where
 kk:k≤k0
 top:N=k0+q.length
 nd:q.Nodup
 mem:∀ x∈q,k0≤x∧x<s.nx
 nx:k0≤s.nx
 bel:blBelow N B
 all:allIn s (zTV (nam k0 q) B)
theorem NewN.lt {k:Nat} {s:ES} {B:List (Nat × EO)} {N k0:Nat} {q:List Nat} (h:NewN k s B N k0 q):∀ i,i<N→nam k0 q i<s.nx:=by
 intro i hi;have:=h.nx;have hN:=h.top
 by_cases hk:i<k0
 ·simp only[nam,hk,if_true];omega
 ·have e:nam k0 q i=q[i - k0]'(by omega):=by simp[nam,hk,show i - k0<q.length by omega]
  rw[e];exact (h.mem _ (List.getElem_mem _)).2
def envN (ρ:Env) (N:Nat) (π:Nat→Nat):Env:=fun i=>if i<N then ρ (π i) else none
theorem FR.anew {ρ:Env} {fr:Fr} {a:Act} {F:List (Nat × EV)} {N:Nat} {π:Nat→Nat} (h:FR ρ fr a) (hF:zQS fr (renF π F)) (hb:zWP N F):FR (envN ρ N π) ⟨F,.unk,fr.n,fr.ds⟩ a:=by
 refine ⟨h.defers,h.size,fun t=>?_⟩;unfold Fr.lk
 cases hl:lkp F t with
 | none=>simp only[VR]
 | some v=>
   have h1:=h.slot t;rw[zNN hF (xYN hl)] at h1
   exact VR.renFrom (ρ:=envN ρ N π) (ρ':=ρ) (π:=π) (k:=N) (fun i hi=>if_pos hi) _ _ h1 (yWM hb hl)
theorem GoK.anew {k:Nat} {ρ ρ2:Env} {s s2:ES} {w w2:World} (h:GoK k ρ s w ρ2 s2 w2) {B:List (Nat × EO)} {N k0:Nat} {q:List Nat} (c:NewN k s2 B N k0 q):GoK k ρ s w (envN ρ2 N (nam k0 q)) ⟨B,N,s2.gl⟩ w2:=by
 have hN:=c.top;have hk:=c.kk;have hi:∀ i,i<N→envN ρ2 N (nam k0 q) i=ρ2 (nam k0 q i):=fun i h=>if_pos h
 have hinj:=xVJ c.nd fun x hx=>(c.mem x hx).1
 have hsb:∀ i o,(⟨B,N,s2.gl⟩:ES).get i=some o→i<N∧o.bel N:=fun i o h=>zKW c.bel (ES.get_lt h).2
 have hwr:∀ (π:Nat→Nat) (o:EO),(o.ren π).wr=o.wr:=fun π o=>by cases o<;>rfl
 have hget:∀ i o,(⟨B,N,s2.gl⟩:ES).get i=some o→s2.get (nam k0 q i)=some (o.ren (nam k0 q)):=fun i o h=>zBR c.all (ES.get_lt h).2
 have hid:∀ i,i<k→nam k0 q i=i:=fun i h=>by simp only[nam];rw[if_pos (by omega)]
 refine ⟨⟨fun b o l hg hr=>?_,fun i h=>if_neg (by simp only at h;omega),fun b b' o o' l l' hg hg' hr hr' hne hw=>?_,fun b o hg=>?_⟩,fun i h'=>?_,by simp only;omega,fun b hb hn=>?_,h.step,fun b o l hg hr=>?_,h.gl,h.was⟩
 ·have hb:=hsb b o hg;rw[hi b hb.1] at hr
  exact (h.rel.live _ _ _ (hget b o hg) hr).renFrom hi hb.2
 ·have hb:=hsb b o hg;have hb':=hsb b' o' hg';rw[hi b hb.1] at hr
  rw[hi b' hb'.1] at hr'
  exact h.rel.sep _ _ _ _ _ _ (hget b o hg) (hget b' o' hg') hr hr' (fun e=>hne (hinj b b' (hN ▸ hb.1) (hN ▸ hb'.1) e)) (by rw[hwr];exact hw)
 ·obtain ⟨l,hl⟩:=h.rel.dom _ _ (hget b o hg);exact ⟨l,by rw[hi b (hsb b o hg).1];exact hl⟩
 ·rw[hi i (by omega),hid i h'];exact h.old i h'
 ·cases hs:(⟨B,N,s2.gl⟩:ES).get b with
  | none=>rfl
  | some o=>
    have:=hget b o hs;rw[hid b hb,h.gone b hb hn] at this
    cases this
 ·have hb:=hsb b o hg;rw[hi b hb.1] at hr
  rcases h.src _ _ l (hget b o hg) hr with ⟨b0,o0,l0,c1,c2,c3,c4⟩ | c1
  ·exact .inl ⟨b0,o0,l0,c1,c2,c3,fun h=>c4 (by rw[hwr];exact h)⟩
  ·exact .inr c1
theorem yHZ {P:Program} {k:Nat} {c:Code} {Q:X→Fr→ES→Prop} {fr:Fr} {s:ES} (F:List (Nat × EV)) (B:List (Nat × EO)) (N k0:Nat) (q:List Nat) (hw:zQS fr (renF (nam k0 q) F)) (hb:zWP N F) (hs:NewN k s B N k0 q)
  (h:ESem P k c Q ⟨F,.unk,fr.n,fr.ds⟩ ⟨B,N,s.gl⟩):ESem P k c Q fr s:=by
 intro hk r hr ρ w a hR hF;have hG:=(GoK.refl hR hk).anew hs;exact wpIn_mono (h hG.nx r hr _ w a hG.rel (hF.anew hw hb)) fun e a w h=>CPost.trans hG h
def BackP {α:Type} (G:List Gl) (F:α→List (Nat × EV)) (B:α→List (Nat × EO)) (N:α→Nat) (R:α→Prop) (μ:α→Nat) (n0:Nat × List Deferred) (k:Nat) (a:α) (fr:Fr) (s:ES):Prop:=
 ∃ a' k0 q,R a'∧μ a' < μ a∧(fr.n,fr.ds)=n0∧s.gl=G∧zQS fr (renF (nam k0 q) (F a'))∧NewN k s (B a') (N a') k0 q
theorem zQM {α:Type} {P:Program} {k:Nat} {Q:X→Fr→ES→Prop} {fr:Fr} {s:ES} {c:Code} (F:α→List (Nat × EV)) (B:α→List (Nat × EO)) (N:α→Nat) (R:α→Prop) (μ:α→Nat) (a0:α)
  (side:∀ a,R a→zWP (N a) (F a)∧blBelow (N a) (B a)∧k≤N a) (h0:R a0) (hF:zQS fr (F a0)) (hB:zWG s (B a0))
  (round:∀ a,R a→ESem P k c (yBQ (BackP s.gl F B N R μ (fr.n,fr.ds) k a) Q) ⟨F a,.unk,fr.n,fr.ds⟩ ⟨B a,N a,s.gl⟩):ESem P k (.loop c) Q fr s:=by
 obtain ⟨s1,s2,s3⟩:=side a0 h0;refine yRH (F a0) (B a0) (N a0) hF s1 hB s2 s3 ?_;generalize fr.n=n0,fr.ds=d0 at round ⊢
 generalize s.gl=G at round ⊢
 intro hk r hr ρ w a hR hF
 let p:Act→World→Nat→Prop:=fun a' w' n=>∃ x ρ',R x∧μ x=n∧FR ρ' ⟨F x,.unk,n0,d0⟩ a'∧GoK k ρ ⟨B a0,N a0,G⟩ w ρ' ⟨B x,N x,G⟩ w'
 refine wpIn_loop (fun a' w'=>∃ n,p a' w' n) (fun a' w'=>yZM (p a' w')) ⟨μ a0,a0,ρ,h0,rfl,hF,GoK.refl hR hk⟩ ?_
 rintro a' w' ⟨j,hj⟩
 obtain ⟨x,ρ',hx,hμ,hF',hG⟩:=(zPR hj).1;refine wpIn_mono (round x hx hG.nx r hr.loop ρ' w' a' hG.rel hF') ?_
 rintro e a2 w2 ⟨ex,fr2,s2',ρ2,hex,hF2,hG2,hQ⟩
 cases ex with
 | normal=>
   cases hex
   obtain ⟨y,k0,q,hy,hlt,hn,hgl,hw,hc⟩:=hQ;subst hgl;obtain ⟨t1,t2,t3⟩:=side y hy;have h4:=hF2.anew hw t1;rw[(Prod.mk.inj hn).1,(Prod.mk.inj hn).2] at h4
   have hp:p a2 w2 (μ y):=⟨y,_,hy,rfl,h4,(hG.trans hG2).anew hc⟩;exact ⟨⟨_,hp⟩,Nat.lt_of_le_of_lt (zPR hp).2 (hμ ▸ hlt)⟩
 | exit i=>cases hex;exact ⟨.exit i,fr2,s2',ρ2,rfl,hF2,hG.trans hG2,hQ⟩
 | goto i=>cases hex;exact ⟨.goto i,fr2,s2',ρ2,rfl,hF2,hG.trans hG2,hQ⟩
 | ret=>cases hex;exact ⟨.ret,fr2,s2',ρ2,rfl,hF2,hG.trans hG2,hQ⟩
 | pan v=>obtain ⟨v',rfl,hv⟩:=hex;exact ⟨.pan v,fr2,s2',ρ2,⟨v',rfl,hv⟩,hF2,hG.trans hG2,hQ⟩
end
section
theorem xZG {f:Nat→EO} {t j:Nat} {o:EO} {B:List (Nat × EO)} [h:Big t]:stB f ((t+j,o)::B)=(t+j,o)::stB f B:=by
 have:=h.big;rw[zXK,if_neg (by omega)]
theorem yBR {f:Nat→EO} {t:Nat} {o:EO} {B:List (Nat × EO)} [h:Big t]:stB f ((t,o)::B)=(t,o)::stB f B:=xZG (j:=0)
theorem xYM {t i:Nat} {q:List Nat} {B:List (Nat × EO)} [hB:Bg t B]:zTV (nam (t+i) q) B=B:=yBM (fun j hj=>by simp only[nam];rw[if_pos (by omega)]) hB.below
theorem yDY {t:Nat} {q:List Nat} {B:List (Nat × EO)} [hB:Bg t B]:zTV (nam t q) B=B:=xYM (i:=0)
theorem AppW.allIn {t:Nat} {bl M B:List (Nat × EO)} [hA:AppW t bl M B] [hB:Bg t B] {nx:Nat} {G:List Gl} (h:t≤nx):E.allIn ⟨bl,nx,G⟩ B:=zNR fun i o hm=>hA.getB h (zXY hB.below hm).1 (zJR hB.keys hm)
theorem AppW.allIn' {t:Nat} {bl M B:List (Nat × EO)} [hA:AppW t bl M B] [hB:Bg t B] {j:Nat} {G:List Gl}:E.allIn ⟨bl,t+j,G⟩ B=True:=eq_true (AppW.allIn (Nat.le_add_right _ _))
theorem AppW.allIn0 {t:Nat} {bl M B:List (Nat × EO)} [hA:AppW t bl M B] [hB:Bg t B] {G:List Gl}:E.allIn ⟨bl,t,G⟩ B=True:=eq_true (AppW.allIn (Nat.le_refl _))
attribute [simp] xZG yBR xYM yDY AppW.allIn' AppW.allIn0
attribute [go_sem] xZG yBR
def EffR (G:List Gl) (P:Program) (g:FuncId) (args:List EV) (B:List (Nat × EO)) (t:Nat) (Q:EV→List (Nat × EO)→Nat→Prop):Prop:=
 ECalls P g args ⟨B,t,G⟩ (Cmp ⟨B,t,G⟩ fun x s=>∃ v,x=.ret v∧s.gl=G∧Q v s.bl s.nx)
theorem EffR.at {G:List Gl} {P:Program} {g:FuncId} {args:List EV} {B:List (Nat × EO)} {t:Nat} {Q:EV→List (Nat × EO)→Nat→Prop} (h:EffR G P g args B t Q) {K Kp:EV→ES→Prop} (hK:∀ v bl nx,Q v bl nx→K v ⟨bl,nx,G⟩):ECalls P g args ⟨B,t,G⟩ (KC K Kp):=by
 refine ECalls.mono (ECalls.compact h) ?_
 rintro x s ⟨v,rfl,hg,hq⟩
 obtain ⟨bl,nx,gl⟩:=s;simp only at hg
 subst hg;exact hK v bl nx hq
def PostR (G:List Gl) (B:List (Nat × EO)) (t:Nat) (Q:EV→List (Nat × EO)→Nat→Prop):ER→ES→Prop:=Cmp ⟨B,t,G⟩ fun x s=>∃ v,x=.ret v∧s.gl=G∧Q v s.bl s.nx
theorem EffR.enter {G:List Gl} {P:Program} {g:FuncId} {args:List EV} {B:List (Nat × EO)} {t:Nat} {Q:EV→List (Nat × EO)→Nat→Prop} (h:∀ Q',Q'=PostR G B t Q→ECalls P g args ⟨B,t,G⟩ Q'):EffR G P g args B t Q:=h _ rfl
theorem EffR.mono {G:List Gl} {P:Program} {g:FuncId} {args:List EV} {B:List (Nat × EO)} {t:Nat} {Q Q2:EV→List (Nat × EO)→Nat→Prop} (h:EffR G P g args B t Q) (hQ:∀ v bl nx,Q v bl nx→Q2 v bl nx):EffR G P g args B t Q2:=
 ECalls.mono h fun x s ⟨π,x0,s0,h1,v,h2,h3,h4⟩=>⟨π,x0,s0,h1,v,h2,h3,hQ _ _ _ h4⟩
theorem done_R {G:List Gl} {B:List (Nat × EO)} {t:Nat} {Q:EV→List (Nat × EO)→Nat→Prop} {Q':ER→ES→Prop} (hQ':Q'=PostR G B t Q) {s:ES} {v:EV} (k0:Nat) (q:List Nat) (v0:EV) (B0:List (Nat × EO)) (n0:Nat)
  (hG:s.gl=G) (hv:v=v0.ren (nam k0 q)) (hv0:v0.bel n0) (hc:NewN t s B0 n0 k0 q) (hQ:Q v0 B0 n0):xXM t Q' (.ret v) s:=by
 subst hQ';have hinj:=xVJ hc.nd fun x hx=>(hc.mem x hx).1
 have hN:=hc.top;have hkk:=hc.kk;have hnx:=hc.nx;refine ⟨⟨zTV (nam k0 q) B0,s.nx,s.gl⟩,⟨fun b o hg=>?_,zYM fun i o hm=>?_,rfl⟩,Nat.le_trans hc.kk hc.nx,?_,nam k0 q,.ret v0,⟨B0,n0,G⟩,⟨fun i hi=>by simp only at hi;simp only[nam];exact if_pos (by omega),fun i j hi hj=>hinj i j (hN ▸ hi) (hN ▸ hj),by simp only;omega,hG.symm,by rw[hv];rfl,hv0,hc.bel,fun i o hg=>?_⟩,v0,rfl,rfl,hQ⟩
 ·have hl:=(ES.get_lt hg).2;have aux:∀ l:List (Nat × EO),E.allIn s (zTV (nam k0 q) l)→lkp (zTV (nam k0 q) l) b=some o→s.get b=some o:=by
   intro l
   induction l with
   | nil=>intro _ h;simp[zTV,lkp] at h
   | cons y r ih=>
     obtain ⟨c,x⟩:=y;intro ha h;simp only[zTV,E.allIn,lkp] at ha h
     split at h
     ·rename_i hb;subst hb;cases h;exact ha.1
     ·exact ih ha.2 h
  exact aux B0 hc.all hl
 ·obtain ⟨j,x,h1,rfl,rfl⟩:=yWV hm;obtain ⟨h2,h3⟩:=zXY hc.bel h1;exact ⟨hc.lt j h2,EO.bel_ren hc.lt x h3⟩
 ·rw[hv];exact EV.bel_ren hc.lt v0 hv0
 ·have hg':=(ES.get_lt hg).2;have h2:=(zKW hc.bel hg').1;unfold ES.get;rw[if_pos (by simpa using hc.lt i h2)];have aux:∀ l:List (Nat × EO),(∀ j x,(j,x)∈l→j<n0)→lkp l i=some o→lkp (zTV (nam k0 q) l) (nam k0 q i)=some (o.ren (nam k0 q)):=by
   intro l
   induction l with
   | nil=>intro _ h;simp[lkp] at h
   | cons y r ih=>
     obtain ⟨c,x⟩:=y;intro hm h;simp only[zTV,lkp] at h ⊢
     split at h
     ·rename_i hc;subst hc;cases h;simp
     ·rename_i hc
      have hc':¬ nam k0 q c=nam k0 q i:=fun e=>hc (hinj c i (hN ▸ hm c x (.head _)) (hN ▸ h2) e)
      simp only[hc',if_false];exact ih (fun j x hj=>hm j x (.tail _ hj)) h
  exact aux B0 (fun j x hj=>(zXY hc.bel hj).1) hg'
theorem zWX {G:List Gl} {B:List (Nat × EO)} {t:Nat} {Q:EV→List (Nat × EO)→Nat→Prop} {Q':ER→ES→Prop} (hQ':Q'=PostR G B t Q) {bl:List (Nat × EO)} {nx:Nat} {v:EV}
  (ht:t≤nx) (hb:blBelow nx bl) (hv:v.bel nx) (hQ:Q v bl nx):xXM t Q' (.ret v) ⟨bl,nx,G⟩:=by
 subst hQ';refine zZZ hb ht hv ⟨fun i=>i,.ret v,⟨bl,nx,G⟩,⟨fun _ _=>rfl,fun _ _ _ _ h=>h,ht,rfl,?_,hv,hb,fun i o hg=>?_⟩,v,rfl,rfl,hQ⟩
 ·show ER.ret v=ER.ret (v.ren fun i=>i);rw[EV.ren_idF (k:=nx) (fun _ _=>rfl) v hv]
 ·rw[EO.ren_idF (k:=nx) (fun _ _=>rfl) o (zKW hb (ES.get_lt hg).2).2];exact hg
end
end Go.E
