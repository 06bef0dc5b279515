/-
  Own work: a part of the proof that the last text closes.
-/
import Derived.Test.YtgajmgkhlkghjaaGreatDoorFj
namespace Go.E
set_option linter.all false
section
theorem EffR.atW {G:List Gl} {P:Program} {g:FuncId} {args:List EV} {t:Nat} {B:List (Nat × EO)} {Q:EV→List (Nat × EO)→Nat→Prop} (h:EffR G P g args B t Q) {bl M:List (Nat × EO)} {nx:Nat} [hA:AppW t bl M B] [hB:Bg t B]
  (hs:zQX t args∧t≤nx∧keysLt nx M) (hQ:∀ v B' n,Q v B' n→n=t∧v.bel t∧Bg t B') {K Kp:EV→ES→Prop}
  (hK:∀ v B',Q v B' t→v.bel t→Bg t B'→K v ⟨M++B',nx,G⟩):ECalls P g args ⟨bl,nx,G⟩ (KC K Kp):=by
 obtain ⟨s1,s2,s3⟩:=hs;have hid:∀ i,i<t→namW t [] nx i=i:=fun i hi=>zWW hi
 have hMB:∀ {j O},lkp M j=some O→t≤j∧lkp bl j=some O:=fun {j O} hj=>⟨keysGe_lkp hA.ge hj,by rw[hA.eq,lkp_append,hj];rfl⟩
 refine ECalls.frame (ECalls.compact h) (namW t [] nx) (renL_idF hid args s1).symm s1 (fun i j hi hj e=>?_) (fun i hi=>?_) (fun i=>?_) hB.below (fun i o hg=>?_) (fun x hx=>hx) ?_
 ·simp only at hi hj
  rwa [hid i hi,hid j hj] at e
 ·simp only at hi
  rw[hid i hi];show i<nx;omega
 ·show namW t [] nx (t+i)=nx+i;unfold namW;rw[if_neg (by omega),if_neg (by simp)];simp
 ·have hl':=(ES.get_lt hg).2;obtain ⟨h1,h2⟩:=Bg.lkp_lt (t:=t) hl';rw[hid i h1,EO.ren_idF hid o h2];exact hA.getB s2 h1 hl'
 ·rintro x ⟨B',n,gl⟩ ⟨v,rfl,hgl,hq⟩
  simp only at hgl hq
  subst hgl;obtain ⟨rfl,hv,hB'⟩:=hQ v B' n hq;haveI:=hB';refine ⟨⟨M++B',nx,gl⟩,⟨Nat.le_refl _,rfl,by simp,fun j O hj=>?_⟩,?_⟩
  ·have hj2:=(ES.get_lt hj).2;simp only[lkp_append] at hj2
   cases hr:lkp M j with
   | some o=>
     rw[hr] at hj2
     simp at hj2
     subst hj2;obtain ⟨h3,h4⟩:=hMB hr;refine .inr ⟨by unfold ES.get;rw[if_pos (keysLt_lkp s3 hr)];exact h4,fun i o hg=>?_⟩;have:=(Bg.lkp_lt (t:=n) (ES.get_lt hg).2).1;rw[hid i this];omega
   | none=>
     rw[hr] at hj2
     have hj3:lkp B' j=some O:=by simpa using hj2
     obtain ⟨h1,h2⟩:=Bg.lkp_lt (t:=n) hj3;refine .inl ⟨j,O,?_,hid j h1,(EO.ren_idF hid O h2).symm⟩;unfold ES.get;rw[if_pos (show j<n from h1)];exact hj3
  ·show KC K Kp ((ER.ret v).ren (namW n [] nx)) _;have e:v.ren (namW n [] nx)=v:=EV.ren_idF hid v hv;simp only[ER.ren,e];exact hK v B' hq hv hB'
end
section
variable {P:Program} {L:List Oper} {base:Nat}
def readyL (L:List Oper) (rem:List Nat):List Nat:=rem.filter fun i=>(bindsL L i).all fun e=>!rem.elem e
def tree (P:Program) (L:List Oper) (base:Nat) (K:Fr→ES→Prop):Nat→List Nat→Fr→ES→Prop
 | 0,_,fr,s=>K fr s
 | n+1,rem,fr,s=>readyL L rem ≠ []∧∀ i∈readyL L rem,stepG P L base i (tree P L base K n (rem.filter fun x=>!(x == i))) fr s
theorem tree_any {k:Nat} {ρ0:Env} {s0:ES} {w0:World} {Q:X→Fr→ES→Prop} (hk:k≤base) (r:Option Nat) (hb:∀ i<L.length,∀ e∈bindsL L i,e<L.length) :
  ∀ (fuel:Nat) (rem:List Nat) (listed:Array Bool) (fr:Fr) (s:ES) (ρ:Env) (w:World) (a:Act),rem.length=fuel→rem.Nodup→(∀ p∈rem,p<L.length) →
   (∀ i<L.length,listed[i]? = some (!rem.elem i))→tree P L base (Q .normal) fuel rem fr s→GoK k ρ0 s0 w0 ρ s w→FR ρ fr a→(∀ p∈rem,base+p<s.nx∧s.get (base+p)=none∧ρ (base+p)=none) →
   wpAnyIn (wideR r) 0 P .any L.toArray (CPost k ρ0 s0 w0 Q) fuel listed a w
 | 0,rem,listed,fr,s,ρ,w,a,hlen,_,_,hl,h,hG,hF,_=>by
   have hrem:=List.eq_nil_of_length_eq_zero hlen;subst hrem;refine ⟨?_,?_⟩
   ·refine List.eq_nil_iff_forall_not_mem.2 fun i hi=>?_
    obtain ⟨h1,h2,_⟩:=mem_ready hi;have:=hl i (by simpa using h1);simp[Array.getD_eq_getD_getElem?,this] at h2
   ·exact ⟨.normal,fr,s,ρ,rfl,hF,hG,h⟩
 | fuel+1,rem,listed,fr,s,ρ,w,a,hlen,hnd,hlt,hl,h,hG,hF,hkept=>by
   have hget:∀ i<L.length,∀ d,listed.getD i d = !rem.elem i:=fun i hi d=>by
    rw[Array.getD_eq_getD_getElem?,hl i hi];rfl
   obtain ⟨hne,hall⟩:=h;refine ⟨fun hr=>?_,fun i hi=>?_⟩
   ·obtain ⟨i,hi⟩:=List.exists_mem_of_ne_nil _ hne;simp only[readyL,List.mem_filter,List.all_eq_true,Bool.not_eq_true'] at hi
    obtain ⟨hm,h2⟩:=hi;have hp:=hlt i hm;have hin:i∈Region.ready .any L.toArray listed:=by
     obtain ⟨o,ho⟩:∃ o,L[i]? = some o:=⟨_,List.getElem?_eq_getElem hp⟩;refine ready_mem (o:=o) (by simpa using hp) (by rw[hget _ hp];simp[hm]) (by simpa using ho) fun e he hbd=>?_
     have hbl:e.on∈bindsL L i:=by
      simp only[bindsL,ho];exact List.mem_map.2 ⟨e,List.mem_filter.2 ⟨he,hbd⟩,rfl⟩
     rw[hget _ (hb i hp _ hbl),h2 _ hbl];rfl
    rw[hr] at hin;cases hin
   ·obtain ⟨h1,h2,o,ho,h3⟩:=mem_ready hi;have hil:i<L.length:=by simpa using h1
    rw[hget _ hil] at h2
    have hmem:i∈rem:=by simpa using h2
    have hrd:i∈readyL L rem:=by
     simp only[readyL,List.mem_filter,List.all_eq_true,Bool.not_eq_true'];refine ⟨hmem,fun e he=>?_⟩;have hlt2:=hb i hil e he;have ho':L[i]? = some o:=by simpa using ho
     simp only[bindsL,ho',List.mem_map,List.mem_filter] at he
     obtain ⟨e',⟨he1,he2⟩,rfl⟩:=he;have:=h3 e' he1 he2;rw[hget _ hlt2] at this
     simpa using this
    have hst:=hall i hrd;obtain ⟨q1,q2,q3⟩:=hkept i hmem;refine wpOpIn_mono (fun a' w' hx=>?_) (stepG_wp hst r hG hF hk q1 q2 q3 _);obtain ⟨fr',s',ρ',hG',hF',hc',hnx,hold⟩:=hx;have hmf:∀ x,x∈rem.filter (fun x=>!(x == i))↔x∈rem∧x ≠ i:=fun x=>by simp[List.mem_filter]
    have hlen2:(rem.filter fun x=>!(x == i)).length=fuel:=by
     have h5:rem.filter (fun x=>!(x == i))=rem.erase i:=by rw[hnd.erase_eq_filter];rfl
     rw[h5,List.length_erase_of_mem hmem];omega
    refine tree_any hk r hb fuel _ _ fr' s' ρ' w' a' hlen2 (hnd.filter _) (fun p hp=>hlt p ((hmf p).1 hp).1) ?_ hc' hG' hF' fun p hp=>?_
    ·intro x hx;have hsz:i<listed.size:=(Array.getElem?_eq_some_iff.1 (hl i hil)).1
     by_cases hxi:x=i
     ·subst hxi;rw[Array.getElem?_setIfInBounds_self_of_lt hsz];simp
     ·rw[Array.getElem?_setIfInBounds_ne (fun e=>hxi e.symm),hl x hx];have:rem.elem x=(rem.filter fun x=>!(x == i)).elem x:=by
       rw[Bool.eq_iff_iff];simp only[List.elem_eq_mem,decide_eq_true_eq,hmf];exact ⟨fun h=>⟨h,hxi⟩,fun h=>h.1⟩
      rw[this]
    ·obtain ⟨hp1,hp2⟩:=(hmf p).1 hp;obtain ⟨q1,q2,q3⟩:=hkept p hp1;have hne:base+p ≠ base+i:=fun e=>hp2 (by omega)
     exact ⟨by omega,hold _ q1 hne q2 q3⟩
def okT0 (L:List Oper) (n:Nat) (rem:List Nat):Bool:=decide (rem=List.range n) && Nat.beq L.length n && (List.range n).all fun i=>(bindsL L i).all fun e=>Nat.blt e n
theorem drawT {k:Nat} {Q:X→Fr→ES→Prop} {fr:Fr} {s:ES} {id:Nat} (hm:P.follows .mixedOrders=true) (n:Nat) (rem:List Nat) (hn:okT0 L n rem=true)
  (h:tree P L s.nx (Q .normal) n rem fr (s.keep n)):ESem P k (.region id L.toArray true) Q fr s:=by
 simp only[okT0,Bool.and_eq_true,List.all_eq_true,List.mem_range,Nat.blt_eq,decide_eq_true_eq] at hn
 obtain ⟨⟨rfl,h1⟩,h2⟩:=hn;have h1:=Nat.eq_of_beq_eq_true h1;subst h1;intro hk r hr ρ w a hR hF;have hR0:Rel0 ρ s { w with drawn:=w.drawn+1 }:=⟨fun b o l hg hl=>by
  have:=hR.live b o l hg hl;exact this.mono (Env.le_refl _) rfl,hR.fresh,hR.sep,hR.dom⟩
 have hG0:GoK k ρ s w ρ s { w with drawn:=w.drawn+1 }:=⟨hR0,fun _ _=>rfl,hk,fun _ _ h=>h,⟨rfl,rfl,rfl,Nat.le_refl _,fun _ _ _=>rfl⟩,fun b o l hg hl=>.inl ⟨b,o,l,hg,hl,rfl,fun e=>e⟩,rfl,hR⟩;have hR':=hG0.rel;have hkeep:=Rel.less (s':=s.keep L.length) hR' (fun b o hg=>by
  rw[ES.get_keep] at hg
  split at hg
  ·exact hg
  ·cases hg) (by simp[ES.keep]) rfl
 have hG:=hG0.trans (hkeep.toK hk);refine wpIn_region_any hm (tree_any hk r h2 _ (List.range L.length) _ fr _ ρ _ a (by simp) List.nodup_range (fun p hp=>List.mem_range.1 hp) ?_ h hG hF ?_)
 ·intro i hi;simp[hi]
 ·intro p hp;have:=List.mem_range.1 hp;exact ⟨by simp[ES.keep];omega,by rw[ES.get_keep,if_neg (by omega)],hR.fresh _ (by omega)⟩
def treeK (P:Program) (L:List Oper) (base:Nat) (K:Fr→ES→Prop) (n:Nat) (fr:Fr) (s:ES):List (Nat × List Nat)→Prop
 | []=>True
 | (i,r)::ks=>stepG P L base i (tree P L base K n r) fr s∧treeK P L base K n fr s ks
def okT (L:List Oper) (rem:List Nat) (ks:List (Nat × List Nat)):Bool:=decide (readyL L rem=ks.map (·.1)) && !ks.isEmpty && ks.all fun p=>decide (p.2=rem.filter fun x=>!(x == p.1))
theorem treeK_mem {K:Fr→ES→Prop} {n:Nat} {fr:Fr} {s:ES}:∀ {ks:List (Nat × List Nat)},treeK P L base K n fr s ks→∀ p∈ks,stepG P L base p.1 (tree P L base K n p.2) fr s
 | [],_,p,hp=>by cases hp
 | (i,r)::ks,h,p,hp=>by
   rcases List.mem_cons.1 hp with rfl | hp
   ·exact h.1
   ·exact treeK_mem h.2 p hp
theorem tree_step {K:Fr→ES→Prop} {n:Nat} {rem:List Nat} {fr:Fr} {s:ES} (ks:List (Nat × List Nat)) (hk:okT L rem ks=true) (h:treeK P L base K n fr s ks):tree P L base K (n+1) rem fr s:=by
 simp only[okT,Bool.and_eq_true,decide_eq_true_eq,List.all_eq_true,Bool.not_eq_true',List.isEmpty_eq_false_iff] at hk
 obtain ⟨⟨h1,h2⟩,h3⟩:=hk;refine ⟨by rw[h1];simpa using h2,fun i hi=>?_⟩;rw[h1] at hi
 obtain ⟨p,hp,rfl⟩:=List.mem_map.1 hi;rw[← h3 p hp];exact treeK_mem h p hp
theorem tree_done {K:Fr→ES→Prop} {rem:List Nat} {fr:Fr} {s:ES} (h:K fr s):tree P L base K 0 rem fr s:=h
def Kept1 (m:Nat) (fr:Fr) (s:ES) (F:List (Nat × EV)) (B:List (Nat × EO)):X→Fr→ES→Prop
 | .normal,f,t=>(f.n,f.ds)=(fr.n,fr.ds)∧t.gl=s.gl∧zWQ (f.keep m) F∧lessL t B
 | _,_,_=>False
theorem esem_then {k m:Nat} {x y:Code} {Q Q2:X→Fr→ES→Prop} {fr:Fr} {s:ES} (F:List (Nat × EV)) (B:List (Nat × EO)) (N:Nat) (hs:frBel N F∧blBelow N B∧k≤N)
  (h1:ESem P k x (Kept1 m fr s F B) fr s) (h2:ESem P k y Q ⟨F,.unk,fr.n,fr.ds⟩ ⟨B,N,s.gl⟩):ESem P k x (Then (seqN P k m y Q) Q2) fr s:=by
 refine ESem.mono h1 fun e f t h=>?_
 cases e with
 | normal=>
   obtain ⟨q1,q2,q3,q4⟩:=h;simp only[Prod.mk.injEq] at q1
   show ESem P k y Q (f.keep m) t;have e1:(f.keep m).n=fr.n:=q1.1;have e2:(f.keep m).ds=fr.ds:=q1.2;exact esem_trim F B N q3 hs.1 q4 hs.2.1 hs.2.2 (by rw[e1,e2,q2];exact h2)
 | exit i=>exact h.elim
 | goto i=>exact h.elim
 | ret=>exact h.elim
 | pan v=>exact h.elim
structure Hold (p:Prop):Prop where
 mk::go:p
theorem esem_holdR (i:Nat) {k:Nat} {ops:Array Oper} {d:Bool} {Q:X→Fr→ES→Prop} {fr:Fr} {s:ES} (h:Hold (ESem P k (.region i ops d) Q fr s)):ESem P k (.region i ops d) Q fr s:=h.go
def KeptX {α:Type} (m n0:Nat) (d0:List Deferred) (G:List Gl) (F:α→List (Nat × EV)) (B:α→List (Nat × EO)) (R:α→Prop):X→Fr→ES→Prop
 | .normal,f,t=>∃ a,R a∧(f.n,f.ds)=(n0,d0)∧t.gl=G∧zWQ (f.keep m) (F a)∧lessL t (B a)
 | _,_,_=>False
theorem esem_cut {α:Type} {k m:Nat} {x y:Code} {Q Q2:X→Fr→ES→Prop} {fr:Fr} {s:ES} {n0:Nat} {d0:List Deferred} {G:List Gl} (F:α→List (Nat × EV)) (B:α→List (Nat × EO)) (N:α→Nat) (R:α→Prop) (hs:∀ a,R a→frBel (N a) (F a)∧blBelow (N a) (B a)∧k≤N a)
  (h1:ESem P k x (KeptX m n0 d0 G F B R) fr s) (h2:∀ a,R a→ESem P k y Q ⟨F a,.unk,n0,d0⟩ ⟨B a,N a,G⟩):ESem P k x (Then (seqN P k m y Q) Q2) fr s:=by
 refine ESem.mono h1 fun e f t h=>?_
 cases e with
 | normal=>
   obtain ⟨a,ha,q1,q2,q3,q4⟩:=h;obtain ⟨s1,s2,s3⟩:=hs a ha;simp only[Prod.mk.injEq] at q1
   show ESem P k y Q (f.keep m) t;have e1:(f.keep m).n=n0:=q1.1;have e2:(f.keep m).ds=d0:=q1.2;exact esem_trim (F a) (B a) (N a) q3 s1 q4 s2 s3 (by rw[e1,e2,q2];exact h2 a ha)
 | exit i=>exact h.elim
 | goto i=>exact h.elim
 | ret=>exact h.elim
 | pan v=>exact h.elim
def NoX:X→Fr→ES→Prop:=fun _ _ _=>False
theorem esem_cut2 {α:Type} {k m1 m2:Nat} {x y z:Code} {Q Q2 Q3:X→Fr→ES→Prop} {fr:Fr} {s:ES} (F:α→List (Nat × EV)) (B:α→List (Nat × EO)) (N:α→Nat) (R:α→Prop) (hs:∀ a,R a→frBel (N a) (F a)∧blBelow (N a) (B a)∧k≤N a)
  (h1:ESem P k x (Then (seqN P k m1 y (KeptX m2 fr.n fr.ds s.gl F B R)) NoX) fr s) (h2:∀ a,R a→ESem P k z Q ⟨F a,.unk,fr.n,fr.ds⟩ ⟨B a,N a,s.gl⟩):ESem P k x (Then (seqN P k m1 y (Then (seqN P k m2 z Q) Q3)) Q2) fr s:=by
 refine ESem.mono h1 fun e f t h=>?_
 cases e with
 | normal=>exact esem_cut F B N R hs h h2
 | exit i=>exact h.elim
 | goto i=>exact h.elim
 | ret=>exact h.elim
 | pan v=>exact h.elim
end
end Go.E
