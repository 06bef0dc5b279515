/-
  Own work: a part of the proof that the last text closes.
-/
import Derived.Test.YtncphnpndkjkaaaGreatDoorFj
namespace Go.E
set_option linter.all false
section
theorem EffR.atW {G:List Gl} {P:Program} {g:FuncId} {args:List EV} {t:Nat} {B:List (Nat × EO)} {Q:EV→List (Nat × EO)→Nat→Prop} (h:EffR G P g args B t Q) {bl M:List (Nat × EO)} {nx:Nat} [hA:AppW t bl M B] [hB:Bg t B]
  (hs:zQX t args∧t≤nx∧zJV nx M) (hQ:∀ v B' n,Q v B' n→n=t∧v.bel t∧Bg t B') {K Kp:EV→ES→Prop}
  (hK:∀ v B',Q v B' t→v.bel t→Bg t B'→K v ⟨M++B',nx,G⟩):ECalls P g args ⟨bl,nx,G⟩ (KC K Kp):=by
 obtain ⟨s1,s2,s3⟩:=hs;have hid:∀ i,i<t→yZB t [] nx i=i:=fun i hi=>zQR hi
 have hMB:∀ {j O},lkp M j=some O→t≤j∧lkp bl j=some O:=fun {j O} hj=>⟨zFS hA.ge hj,by rw[hA.eq,zXW,hj];rfl⟩
 refine ECalls.frame (ECalls.compact h) (yZB t [] nx) (zPV hid args s1).symm s1 (fun i j hi hj e=>?_) (fun i hi=>?_) (fun i=>?_) hB.below (fun i o hg=>?_) (fun x hx=>hx) ?_
 ·simp only at hi hj
  rwa [hid i hi,hid j hj] at e
 ·simp only at hi
  rw[hid i hi];show i<nx;omega
 ·show yZB t [] nx (t+i)=nx+i;unfold yZB;rw[if_neg (by omega),if_neg (by simp)];simp
 ·have hl':=(ES.get_lt hg).2;obtain ⟨h1,h2⟩:=Bg.lkp_lt (t:=t) hl';rw[hid i h1,EO.ren_idF hid o h2];exact hA.getB s2 h1 hl'
 ·rintro x ⟨B',n,gl⟩ ⟨v,rfl,hgl,hq⟩
  simp only at hgl hq
  subst hgl;obtain ⟨rfl,hv,hB'⟩:=hQ v B' n hq;haveI:=hB';refine ⟨⟨M++B',nx,gl⟩,⟨Nat.le_refl _,rfl,by simp,fun j O hj=>?_⟩,?_⟩
  ·have hj2:=(ES.get_lt hj).2;simp only[zXW] at hj2
   cases hr:lkp M j with
   | some o=>
     rw[hr] at hj2
     simp at hj2
     subst hj2;obtain ⟨h3,h4⟩:=hMB hr;refine .inr ⟨by unfold ES.get;rw[if_pos (zBX s3 hr)];exact h4,fun i o hg=>?_⟩;have:=(Bg.lkp_lt (t:=n) (ES.get_lt hg).2).1;rw[hid i this];omega
   | none=>
     rw[hr] at hj2
     have hj3:lkp B' j=some O:=by simpa using hj2
     obtain ⟨h1,h2⟩:=Bg.lkp_lt (t:=n) hj3;refine .inl ⟨j,O,?_,hid j h1,(EO.ren_idF hid O h2).symm⟩;unfold ES.get;rw[if_pos (show j<n from h1)];exact hj3
  ·show KC K Kp ((ER.ret v).ren (yZB n [] nx)) _;have e:v.ren (yZB n [] nx)=v:=EV.ren_idF hid v hv;simp only[ER.ren,e];exact hK v B' hq hv hB'
end
section
variable {P:Program} {L:List Oper} {base:Nat}
structure Hold (p:Prop):Prop where
 mk::go:p
theorem zZF (i:Nat) {k:Nat} {ops:Array Oper} {d:Bool} {Q:X→Fr→ES→Prop} {fr:Fr} {s:ES} (h:Hold (ESem P k (.region i ops d) Q fr s)):ESem P k (.region i ops d) Q fr s:=h.go
def KeptX {α:Type} (m n0:Nat) (d0:List Deferred) (G:List Gl) (F:α→List (Nat × EV)) (B:α→List (Nat × EO)) (R:α→Prop):X→Fr→ES→Prop
 | .normal,f,t=>∃ a,R a∧(f.n,f.ds)=(n0,d0)∧t.gl=G∧zQS (f.keep m) (F a)∧zWG t (B a)
 | _,_,_=>False
theorem esem_cut {α:Type} {k m:Nat} {x y:Code} {Q Q2:X→Fr→ES→Prop} {fr:Fr} {s:ES} {n0:Nat} {d0:List Deferred} {G:List Gl} (F:α→List (Nat × EV)) (B:α→List (Nat × EO)) (N:α→Nat) (R:α→Prop) (hs:∀ a,R a→zWP (N a) (F a)∧blBelow (N a) (B a)∧k≤N a)
  (h1:ESem P k x (KeptX m n0 d0 G F B R) fr s) (h2:∀ a,R a→ESem P k y Q ⟨F a,.unk,n0,d0⟩ ⟨B a,N a,G⟩):ESem P k x (yBQ (xYG P k m y Q) Q2) fr s:=by
 refine ESem.mono h1 fun e f t h=>?_
 cases e with
 | normal=>
   obtain ⟨a,ha,q1,q2,q3,q4⟩:=h;obtain ⟨s1,s2,s3⟩:=hs a ha;simp only[Prod.mk.injEq] at q1
   show ESem P k y Q (f.keep m) t;have e1:(f.keep m).n=n0:=q1.1;have e2:(f.keep m).ds=d0:=q1.2;exact yRH (F a) (B a) (N a) q3 s1 q4 s2 s3 (by rw[e1,e2,q2];exact h2 a ha)
 | exit i=>exact h.elim
 | goto i=>exact h.elim
 | ret=>exact h.elim
 | pan v=>exact h.elim
def NoX:X→Fr→ES→Prop:=fun _ _ _=>False
theorem esem_cut2 {α:Type} {k m1 m2:Nat} {x y z:Code} {Q Q2 Q3:X→Fr→ES→Prop} {fr:Fr} {s:ES} (F:α→List (Nat × EV)) (B:α→List (Nat × EO)) (N:α→Nat) (R:α→Prop) (hs:∀ a,R a→zWP (N a) (F a)∧blBelow (N a) (B a)∧k≤N a)
  (h1:ESem P k x (yBQ (xYG P k m1 y (KeptX m2 fr.n fr.ds s.gl F B R)) NoX) fr s) (h2:∀ a,R a→ESem P k z Q ⟨F a,.unk,fr.n,fr.ds⟩ ⟨B a,N a,s.gl⟩):ESem P k x (yBQ (xYG P k m1 y (yBQ (xYG P k m2 z Q) Q3)) Q2) fr s:=by
 refine ESem.mono h1 fun e f t h=>?_
 cases e with
 | normal=>exact esem_cut F B N R hs h h2
 | exit i=>exact h.elim
 | goto i=>exact h.elim
 | ret=>exact h.elim
 | pan v=>exact h.elim
end
end Go.E
