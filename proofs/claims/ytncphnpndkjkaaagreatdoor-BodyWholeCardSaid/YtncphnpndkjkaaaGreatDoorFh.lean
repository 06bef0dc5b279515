/-
  Own work: a part of the proof that the last text closes.
-/
import Derived.Test.YtncphnpndkjkaaaGreatDoorFg
namespace Go.E
set_option linter.all false
section
section
variable {b T ty z k t j:Nat} {c:List EV} {r M B:List (Nat × EO)} {o:EO}
theorem zKP {p:List (Nat × EO)→Prop} (h0:c=[]→p []) (h1:p [(T,.cells c ty z true 0)]):p (zVY T c ty z):=by
 unfold zVY;split
 ·rename_i h;exact h0 (List.eq_nil_of_length_eq_zero h)
 ·exact h1
theorem lkp_acc (h:(T=b)=False):lkp (zVY T c ty z++r) b=lkp r b:=by
 refine zKP (p:=fun x=>lkp (x++r) b=lkp r b) (fun _=>rfl) ?_;have:¬ T=b:=by simp[h]
 simp[lkp,this]
theorem yTR:∀ (a d:List (Nat × EO)),cutL k (a++d)=cutL k a++cutL k d
 | [],_=>rfl
 | (b,o)::a,d=>by simp only[List.cons_append,cutL,yTR a d];split<;>rfl
theorem xTQ (h:(T<k)=True):cutL k (zVY T c ty z++r)=zVY T c ty z++cutL k r:=by
 rw[yTR];congr 1;refine zKP (p:=fun x=>cutL k x=x) (fun _=>rfl) ?_;simp[cutL,h]
theorem yWN:∀ (a d:List (Nat × EO)),zJV k (a++d)=(zJV k a∧zJV k d)
 | [],d=>by simp[zJV]
 | (b,o)::a,d=>by simp only[List.cons_append,zJV,yWN a d,and_assoc]
theorem yZF (h:(T<k)=True):zJV k (zVY T c ty z++r)=zJV k r:=by
 rw[yWN];have:zJV k (zVY T c ty z):=zKP (p:=fun x=>zJV k x) (fun _=>trivial) ⟨by simp[h],trivial⟩;simp[this]
theorem zHZ {α:Type} (n:Nat):∀ (a d:List (Nat × α)),dropL (a++d) n=dropL a n++dropL d n
 | [],_=>rfl
 | (b,o)::a,d=>by simp only[List.cons_append,dropL,zHZ n a d];split<;>rfl
theorem xWF (h:(T=b)=False):dropL (zVY T c ty z++r) b=zVY T c ty z++dropL r b:=by
 rw[zHZ];congr 1;have h':¬ T=b:=by simp[h]
 refine zKP (p:=fun x=>dropL x b=x) (fun _=>rfl) ?_;simp[dropL,h']
theorem yTF:∀ (a d:List (Nat × EO)),blBelow k (a++d)=(blBelow k a∧blBelow k d)
 | [],d=>by simp[blBelow]
 | (b,o)::a,d=>by simp only[List.cons_append,blBelow,yTF a d,and_assoc]
theorem zXS (h:(T<k)=True) (hc:zQX k c):blBelow k (zVY T c ty z++r)=blBelow k r:=by
 rw[yTF];have:blBelow k (zVY T c ty z):=yKX (by simp[h]) hc;simp[this]
theorem renB_acc {π:Nat→Nat}:zTV π (zVY T c ty z++r)=zVY (π T) (zZG π c) ty z++zTV π r:=by
 have hl:∀ l:List EV,(zZG π l).length=l.length:=by
  intro l;induction l with
  | nil=>rfl
  | cons v l ih=>simp only[zZG,List.length_cons,ih]
 rw[yQX];congr 1;unfold zVY;rw[hl]
 split
 ·rfl
 ·rfl
theorem yKS {s:ES}:∀ (a d:List (Nat × EO)),zWG s (a++d)=(zWG s a∧zWG s d)
 | [],d=>by simp[zWG]
 | (b,o)::a,d=>by simp only[List.cons_append,zWG,yKS a d,and_assoc]
theorem xXH {s:ES}:∀ (a d:List (Nat × EO)),E.allIn s (a++d)=(E.allIn s a∧E.allIn s d)
 | [],d=>by simp[E.allIn]
 | (b,o)::a,d=>by simp only[List.cons_append,E.allIn,xXH a d,and_assoc]
theorem zNW:∀ (a d:List (Nat × EO)),zXT k (a++d)=(zXT k a∧zXT k d)
 | [],d=>by simp[zXT]
 | (b,o)::a,d=>by simp only[List.cons_append,zXT,zNW a d,and_assoc]
instance AppW.acc [h:AppW t r M B]:AppW t (zVY (t+j) c ty z++r) (zVY (t+j) c ty z++M) B:=⟨by rw[h.eq,List.append_assoc],by
 rw[zNW];exact ⟨zKP (p:=fun x=>zXT t x) (fun _=>trivial) ⟨Nat.le_add_right _ _,trivial⟩,h.ge⟩⟩
instance AppW.acc0 [h:AppW t r M B]:AppW t (zVY t c ty z++r) (zVY t c ty z++M) B:=AppW.acc (j:=0)
theorem less_acc {s:ES} (h:c ≠ []→s.get T=some (.cells c ty z true 0)):zWG s (zVY T c ty z):=by
 unfold zVY;split
 ·trivial
 ·rename_i hc;exact ⟨h (fun e=>hc (by rw[e];rfl)),trivial⟩
end
section
variable {b T ty z k t j:Nat} {c:List EV}
theorem yRQ (h:(T<k)=True):zJV k (zVY T c ty z)=True:=by
 have:=yZF (c:=c) (ty:=ty) (z:=z) (r:=[]) h;rw[List.append_nil] at this
 rw[this];simp[zJV]
end
theorem zTN {f:Nat→EO} {T ty z:Nat} {c:List EV} {B:List (Nat × EO)} [h:Big T]:stB f (zVY T c ty z++B)=zVY T c ty z++stB f B:=by
 have:=h.big;rw[xSV,stB_hi f (t:=T) this];exact zKP (p:=fun x=>zXT T x) (fun _=>trivial) ⟨Nat.le_refl _,trivial⟩
theorem yGF {T ty z:Nat} {c:List EV}:zWN (zVY T c ty z):=zKP (p:=fun x=>zWN x) (fun _=>trivial) ⟨rfl,trivial⟩
theorem zST {t T ty z:Nat} {c:List EV} (h:t≤T):zXT t (zVY T c ty z):=zKP (p:=fun x=>zXT t x) (fun _=>trivial) ⟨h,trivial⟩
def zMD (bl:List (Nat × EO)) (T:Nat) (c:List EV) (ty z:Nat):Prop:=c ≠ []→lkp bl T=some (.cells c ty z true 0)
section
variable {b T T' ty z ty' z' nx:Nat} {c c':List EV} {o:EO} {r bl:List (Nat × EO)} {G:List Gl}
theorem ySZ (h:(b=T)=False):zMD ((b,o)::r) T c ty z=zMD r T c ty z:=by
 have h':¬ b=T:=by simp[h]
 simp[zMD,lkp,h']
theorem ySX:zMD ((T,.cells c ty z true 0)::r) T c ty z=True:=by simp[zMD,lkp]
theorem ySW:zMD (zVY T c ty z++r) T c ty z=True:=by
 refine eq_true fun hc=>?_
 rw[zXR (List.length_pos_iff.2 hc)];simp[lkp]
theorem acc_lessL {s:ES} (h:zMD s.bl T c ty z) (hT:T<s.nx):zWG s (zVY T c ty z):=less_acc fun hc=>by
 unfold ES.get;rw[if_pos hT];exact h hc
theorem yGN (h1:(T<nx)=True) (h2:zMD bl T c ty z=True):zWG ⟨bl,nx,G⟩ (zVY T c ty z++r)=zWG ⟨bl,nx,G⟩ r:=by
 rw[yKS];have:=acc_lessL (s:=⟨bl,nx,G⟩) (h2 ▸ trivial) (by simp only;rw[h1];trivial);simp[this]
theorem acc_allIn {s:ES} (h:zMD s.bl T c ty z) (hT:T<s.nx):E.allIn s (zVY T c ty z):=by
 unfold zVY;split
 ·trivial
 ·rename_i hc
  refine ⟨?_,trivial⟩;unfold ES.get;rw[if_pos hT];exact h fun e=>hc (by rw[e];rfl)
theorem allIn_accG (h1:(T<nx)=True) (h2:zMD bl T c ty z=True):E.allIn ⟨bl,nx,G⟩ (zVY T c ty z++r)=E.allIn ⟨bl,nx,G⟩ r:=by
 rw[xXH];have:=acc_allIn (s:=⟨bl,nx,G⟩) (h2 ▸ trivial) (by simp only;rw[h1];trivial);simp[this]
end
attribute [go_sem] ySZ ySX ySW yGN Nat.mul_zero Nat.zero_mul Nat.sub_zero
attribute [simp] ySZ ySX ySW yGN allIn_accG
theorem yKF (n m:Nat):(n+m<n)=False:=by simp
attribute [simp] yKF
attribute [go_sem] yKF
theorem xTT {π:Nat→Nat} {b n:Nat}:(zVW b n).ren π=zVW (π b) n:=by unfold zVW;split<;>rfl
theorem zWB {k i:Nat} {q:List Nat} {l:List EV} (h:zQX k l):zZG (nam (k+i) q) l=l:=zPV (fun j hj=>by simp only[nam];rw[if_pos (by omega)]) l h
attribute [go_sem] renF xTT
attribute [simp] renF xTT
theorem elen_acc {e b n x y:Nat} {z:List EV} {s:ES} {K:EV→Prop}:xZQ ⟨.slice e,x,y,z⟩ (zVW b n) s K=K (.int .i64 n):=by
 unfold zVW;split
 ·rename_i h;subst h;simp[xZQ]
 ·simp[xZQ]
attribute [go_sem] elen_acc lkp_acc xTQ yZF xWF
attribute [go_sem] yRQ
attribute [simp] yRQ
attribute [simp] lkp_acc xTQ yZF xWF zXS renB_acc zNW
def accNo (bl:List (Nat × EO)) (T:Nat) (c:List EV):Prop:=c=[]→lkp bl T=none
section
variable {b T T' ty z t j:Nat} {c c':List EV} {o:EO} {r bl B:List (Nat × EO)}
theorem accNo_cons (h:(b=T)=False):accNo ((b,o)::r) T c=accNo r T c:=by
 have h':¬ b=T:=by simp[h]
 simp[accNo,lkp,h']
theorem accNo_self (h:lkp r T=none):accNo (zVY T c ty z++r) T c=True:=by
 refine eq_true fun hc=>?_
 subst hc;exact h
theorem xPM [h:Bg t B]:lkp B t=none:=Bg.none (Nat.le_refl _)
theorem yHT {f:Nat→EO} [h:Bg t (stB f B)]:dropL (zVY t c ty z++stB f B) t=stB f B:=by
 rw[zHZ,Bg.dropL0 (B:=stB f B)];unfold zVY;split
 ·rfl
 ·simp[dropL]
end
attribute [simp] accNo_cons accNo_self xPM
attribute [go_sem] xPM yHT
attribute [simp] yHT
theorem zJJ {j:TI} {e n T N nx:Nat} {nc c:List EV} {bl:List (Nat × EO)} {G:List Gl} {K:EV→ES→Prop} (hn:0<n) (hc:c.length=N*j.size) (hj:0<j.size) (hg:zMD bl T c e j.size) (hT:T<nx) (hno:accNo bl T c) (hnc:nc.all EV.one=true)
  (hb:(N+n)*j.bytes≤140737488355328∧N+n≤9223372036854775807) (hK:K (.slice (some ⟨nx,0⟩) (N+n) (N+n)) ⟨(nx,.cells (c++nc) e j.size true 0)::dropL bl T,nx+1,G⟩):ySM j e n nc (zVW T N) ⟨bl,nx,G⟩ K:=by
 by_cases h0:N=0
 ·subst h0;have hc0:c=[]:=List.eq_nil_of_length_eq_zero (by simpa using hc);subst hc0;rw[zWY,yHM,if_neg (by omega)];rw[Nat.zero_add] at hK hb
  rw[yXT (hno rfl)] at hK
  exact ⟨hb,hK⟩
 ·have hcp:0<c.length:=by rw[hc];exact Nat.mul_pos (by omega) hj
  rw[zWZ (by omega),zFF];have hget:(⟨bl,nx,G⟩:ES).get T=some (.cells c e j.size true 0):=by
   unfold ES.get;rw[if_pos hT];exact hg (List.ne_nil_of_length_pos hcp)
  rw[hget];simp only;rw[if_neg (by omega),if_neg (by rw[Nat.zero_add,hc];omega)];refine ⟨⟨Nat.le_refl _,by rw[Nat.zero_add,hc];exact Nat.le_refl _,hb⟩,by simp[hnc],?_⟩;rw[List.drop_zero,← hc,List.take_length];exact hK
end
section
theorem xWZ {P:Program} {t e:TypeId} {a:EA} {n c:Nat} (hd:P.underlying t=some (.slice e)):EqS P .eql t (.slice (some a) n c) (.slice none 0 0) false∧EqS P .neq t (.slice (some a) n c) (.slice none 0 0) true:=by
 have he':∀ (i:Nat) (r:Addr) (m k:Nat) (w:World),(Op.equalIn (i+1) t (.slice (some r) m k) (.slice none 0 0)).run P w=.ok false w:=by
  intro i r m k w;simp only[Op.equalIn,Sem.run_bind,run_underlying hd,Result.andThen_ok,Sem.run_pure]
 have he:∀ (r:Addr) (m k:Nat) (w:World),(Op.equal t (.slice (some r) m k) (.slice none 0 0)).run P w=.ok false w:=fun r m k w=>he' 9999 r m k w
 constructor
 ·intro ρ x' y' ox oy w hx hy;simp only[VR] at hx hy
  obtain ⟨l,c',o',_,_,_,_,rfl⟩:=hx;obtain ⟨_,_,rfl⟩:=hy;simp[eqGuard,binOp,he]
 ·intro ρ x' y' ox oy w hx hy;simp only[VR] at hx hy
  obtain ⟨l,c',o',_,_,_,_,rfl⟩:=hx;obtain ⟨_,_,rfl⟩:=hy;simp[eqGuard,binOp,he]
theorem Eff.atR {G:List Gl} {P:Program} {g:FuncId} {args args2:List EV} {bl bl' nw:List (Nat × EO)} {n n':Nat} {v:EV} (h:Eff G P g args bl n v bl' n') (hbl:bl'=bl++nw) {S:ES} (p:List Nat) (hp:p.length=n)
  (hs:p.Nodup∧(∀ x∈p,x<S.nx)∧args2=zZG (yWG n p S.nx) args∧zQX n args∧blBelow n bl∧blBelow n' bl'∧zWN bl'∧n≤n'∧allIn S (zTV (yWG n p S.nx) bl)∧zJV S.nx S.bl) (hG:S.gl=G) {K Kp:EV→ES→Prop}
  (hK:K (v.ren (yWG n p S.nx)) ⟨zTV (yWG n p S.nx) nw++S.bl,S.nx+(n' - n),S.gl⟩):ECalls P g args2 S (KC K Kp):=by
 obtain ⟨hnd,hlt,hargs,hab,hb,hb',hk',hn,hget,hS⟩:=hs;have hin:∀ i,i<n→∃ h:i<p.length,yWG n p S.nx i=p[i]:=fun i hi=>⟨by omega,by simp[yWG,hi,hp]⟩
 have hltp:∀ i,i<n→yWG n p S.nx i<S.nx:=fun i hi=>by
  obtain ⟨q,e⟩:=hin i hi;rw[e];exact hlt _ (List.getElem_mem _)
 have hmem:∀ {i o},(i,o)∈bl'→lkp bl' i=some o:=fun hm=>zJR hk' hm
 refine ECalls.frame (ECalls.compact h) (yWG n p S.nx) hargs hab (fun i j hi hj e=>?_) hltp (fun i=>by simp only[yWG];rw[if_neg (by omega)];omega) hb (fun i o hg=>zBR hget (ES.get_lt hg).2) (fun x hx=>by rw[hG];exact hx) ?_
 ·obtain ⟨q,e1⟩:=hin i hi;obtain ⟨q2,e2⟩:=hin j hj;rw[e1,e2] at e
  exact (List.getElem_inj hnd).1 e
 ·rintro x s' ⟨rfl,rfl⟩
  refine ⟨⟨zTV (yWG n p S.nx) nw++S.bl,S.nx+(n' - n),S.gl⟩,⟨hn,rfl,rfl,fun j O hj=>?_⟩,hK⟩;have hj2:=(ES.get_lt hj).2;simp only[zXW] at hj2
  have hgx:∀ {i:Nat} {x:EO},(i,x)∈bl'→(⟨bl',n',G⟩:ES).get i=some x:=fun {i x} hm=>by
   unfold ES.get;rw[if_pos (zXY hb' hm).1];exact hmem hm
  cases hr:lkp (zTV (yWG n p S.nx) nw) j with
  | some o=>
    rw[hr] at hj2
    simp at hj2
    subst hj2;obtain ⟨i,x,h1,h2,h3⟩:=yJH hr;exact .inl ⟨i,x,hgx (by rw[hbl];exact List.mem_append_right _ h1),h2,h3⟩
  | none=>
    rw[hr] at hj2
    have hj3:lkp S.bl j=some O:=by simpa using hj2
    by_cases hin2:∃ i o,(i,o)∈bl∧yWG n p S.nx i=j
    ·obtain ⟨i,o,h1,h2⟩:=hin2;have h3:=yXM hget (renB_mem' h1);rw[h2] at h3
     have h4:=(ES.get_lt h3).2;rw[hj3] at h4
     cases h4
     exact .inl ⟨i,o,hgx (by rw[hbl];exact List.mem_append_left _ h1),h2,rfl⟩
    ·exact .inr ⟨by unfold ES.get;rw[if_pos (zBX hS hj3)];exact hj3,fun i o hg e=>hin2 ⟨i,o,yNH (ES.get_lt hg).2,e⟩⟩
where
 renB_mem' {π:Nat→Nat}:∀ {l:List (Nat × EO)} {i:Nat} {o:EO},(i,o)∈l→(π i,o.ren π)∈zTV π l
 | _::_,_,_,.head _=>.head _
 | _::_,_,_,.tail _ h=>.tail _ (renB_mem' h)
attribute [go_sem] true_or or_true false_and and_false
end
section
theorem run_appZ {P:Program} {w:World} {ts:Array TypeId} {ty:TypeId} {t u e:TypeId} {us:List TypeId} {k:IntKind} {base:Option Addr} {sLen sCap n:Nat} {j:TI} {inf:TypeInfo} {d:TypeDesc} {z:Value}
  (h0:ts.toList=t::u::us) (ht:P.underlying t=some (.slice e)) (hu:P.underlying u=some (.int k)) (T:TIs P e j inf d z) (hzs:z.cells.size=j.size) (hn:(n:Int)≤9223372036854775807) (hb:n*j.bytes≤140737488355328) :
  (sLen+n≤sCap→(Builtin.append_ ts ty #[.slice base sLen sCap,.int .i64 n]).run P w=(match base with | some a=>(do storeCells (a.add (sLen*j.size)) (Builtin.zeroCells z.cells n).toList;pure (.slice base (sLen+n) sCap):Sem Value).run P w | none=>.ok (.slice base (sLen+n) sCap) w)) ∧
  (¬ sLen+n≤sCap→sLen+n≤9223372036854775807→(sLen+n)*j.bytes≤140737488355328→∀ olds:Array Value,(Builtin.firstCells j.size sLen (.slice base sLen sCap)).run P w.drew=.ok olds w.drew →
   ∃ nc,sLen+n≤nc∧(Builtin.append_ ts ty #[.slice base sLen sCap,.int .i64 n]).run P w=.ok (.slice (some ⟨w.heap.size,0,none⟩) (sLen+n) nc) (w.drew.alloc (.cells (olds++Builtin.zeroCells z.cells n++Builtin.zeroCells z.cells (nc - (sLen+n))) e))):=by
 obtain ⟨l⟩:=ts;simp only at h0
 subst h0;have hbb:inf.bytes=j.bytes:=T.bytes.symm;have hs:inf.size=j.size:=T.size.symm;have hw:IntKind.i64.wrap (n:Int)=n:=zQK (by omega) hn;have hneg:¬ (n:Int)<0:=by omega
 have h48:¬ (281474976710656<(n:Int)*(j.bytes:Int)):=by
  rw[show (n:Int)*(j.bytes:Int)=((n*j.bytes:Nat):Int) by rw[Int.natCast_mul]];omega
 have hz0:∀ m,m*j.size=0→Builtin.zeroCells z.cells m = #[]:=fun m hm=>by
  apply Array.ext'
  simp[Builtin.zeroCells,hzs,hm]
 constructor
 ·intro hc
  by_cases hm:n*j.size=0
  ·cases base<;>simp[Builtin.append_,run_underlying ht,run_underlying hu,T.run_size w,asInt,asIntOf,hw,hneg,typeInfo,T.info,hbb,h48,hc,hm,hz0 n hm]
  ·cases base<;>simp[Builtin.append_,run_underlying ht,run_underlying hu,T.run_size w,asInt,asIntOf,hw,hneg,typeInfo,T.info,hbb,h48,hc,hm,zeroValue,T.zero]
 ·intro hc h63 hby olds ho;have h63':¬ (9223372036854775807<((sLen:Int)+(n:Int))):=by omega
  have h48':¬ (281474976710656<Builtin.nextslicecap (sLen+n) sCap*j.bytes):=by
   have:=growslice_fits (need:=sLen+n) (old:=sCap) (by omega) hby;omega
  refine ⟨grownCap w (sLen+n) sCap e,?_,?_⟩
  ·unfold grownCap Question.cut;simp only;omega
  by_cases hm:n*j.size=0
  ·simp[Builtin.append_,run_underlying ht,run_underlying hu,T.run_size w,asInt,asIntOf,hw,hneg,typeInfo,T.info,hbb,h48,hc,hm,hz0 n hm,h63',h48',Question.forced,ho,zeroValue,T.zero,newRow,grownCap]
  ·simp[Builtin.append_,run_underlying ht,run_underlying hu,T.run_size w,asInt,asIntOf,hw,hneg,typeInfo,T.info,hbb,h48,hc,hm,h63',h48',Question.forced,ho,zeroValue,T.zero,newRow,grownCap]
theorem xXP {P:Program} {ρ:Env} {s:ES} {w:World} {K:EV→ES→Prop} {ts:Array TypeId} {ty t u e:TypeId} {us:List TypeId} {k:IntKind} {x:EV} {x':Value} {j:TI} {n:Nat}
  (hR:Rel ρ s w) (h0:ts.toList=t::u::us) (ht:P.underlying t=some (.slice e)) (hu:P.underlying u=some (.int k)) (hj:zXZ P e=some j) (hpos:0<j.size) (hzero:j.zero.length=j.size) (hn:(n:Int)≤9223372036854775807) (hbn:n*j.bytes≤140737488355328)
  (h:ySM j e n (zWT j.zero n) x s K) (hx:VR ρ x x'):RunV P ρ s w (Builtin.append_ ts ty #[x',.int .i64 n]) K:=by
 obtain ⟨inf,d,z,T⟩:=zQG hj;have hD:=hR.drew;have hzs:z.cells.size=j.size:=by rw[← hzero,T.cells];simp
 generalize hnc:zWT j.zero n=nc at h
 have hncl:nc.length=n*j.size:=by rw[← hnc,zZJ,hzero]
 have hnr:VRs ρ nc (Builtin.zeroCells z.cells n).toList:=by
  rw[← hnc,zHJ];exact zSH (by rw[T.cells];exact VRs.ofV _) n _ (by rw[hzs,hzero])
 have hrunZ:∀ (base:Option Addr) (sLen sCap:Nat),_:=fun base sLen sCap=>run_appZ (w:=w) (ty:=ty) (base:=base) (sLen:=sLen) (sCap:=sCap) h0 ht hu T hzs hn hbn
 generalize Builtin.zeroCells z.cells n=news at hnr hrunZ
 -- a new block
 have grow:∀ (base:Option Addr) (sLen sCap:Nat) (olds:Array Value) (oldE:List EV) (s1:ES),x'=.slice base sLen sCap→¬ sLen+n≤sCap→sLen+n≤9223372036854775807→(sLen+n)*j.bytes≤140737488355328 →
   (Builtin.firstCells j.size sLen (.slice base sLen sCap)).run P w.drew=.ok olds w.drew→VRs ρ oldE olds.toList→oldE.length=sLen*j.size→Go1 ρ s w.drew ρ s1 w.drew→s1.nx=s.nx →
   K (.slice (some ⟨s.nx,0⟩) (sLen+n) (sLen+n)) (s1.new (.cells (oldE++nc) e j.size true 0))→RunV P ρ s w (Builtin.append_ ts ty #[x',Value.int .i64 n]) K:=by
  rintro base sLen sCap olds oldE s1 rfl hc h63 hby hold hor hol hg1 hnx hK
  obtain ⟨cap,hge,hrun⟩:=(hrunZ base sLen sCap).2 hc h63 hby olds hold;have hols:olds.size=sLen*j.size:=by have:=hor.length;simpa [hol] using this
  have hnws:news.size=n*j.size:=by have:=hnr.length;simpa [hncl] using this
  have hmul:(sLen+n)*j.size=sLen*j.size+n*j.size:=Nat.add_mul _ _ _;have hcap:cap*j.size=(sLen+n)*j.size+(cap - (sLen+n))*j.size:=by rw[← Nat.add_mul];congr 1;omega
  have hG:=hg1.trans (hg1.rel.newRoom (oldE++nc) (olds++news++Builtin.zeroCells z.cells (cap - (sLen+n))) e j.size (cap*j.size) (by omega) (by simp[hol,hncl];omega) (by simp[zDP,hzs,hols,hnws];omega) (by
   have:(olds++news++Builtin.zeroCells z.cells (cap - (sLen+n))).toList.take (oldE++nc).length=olds.toList++news.toList:=by
    rw[Array.toList_append,Array.toList_append,List.take_left' (by simp[hols,hnws,hol,hncl])]
   rw[this];exact hor.append hnr))
  refine ⟨.slice (some ⟨s.nx,0⟩) (sLen+n) (sLen+n),_,_,_,_,hrun,?_,hD.trans hG,hK⟩;rw[VR];refine ⟨_,cap,0,by rw[hnx];exact if_pos rfl,.inr ⟨by simp;omega,by simp[hol,hncl];omega,hge,by simp⟩,Nat.le_refl _,.inl rfl,rfl⟩
 unfold ySM at h
 split at h
 ·rename_i l0 c0
  have hx':=hx;rw[VR] at hx'
  obtain ⟨rfl,rfl,rfl⟩:=hx'
  split at h
  ·rename_i hn0
   subst hn0;have:=(hrunZ none 0 0).1 (by omega);exact RunV.pure (v:=.slice none 0 0) hR this (by rw[VR];simp) h
  ·rename_i hn0
   obtain ⟨⟨h1,h2⟩,hK⟩:=h;refine grow none 0 0 #[] [] s rfl (by omega) (by omega) (by simpa using h1) (by simp[Builtin.firstCells]) VRs.nil (by simp) (Go1.refl hD.rel) rfl (by simpa using hK)
 ·rename_i a len cap
  split at h
  ·rename_i c t' z' wr fz hg
   have hx':=hx;rw[VR] at hx'
   obtain ⟨l,c',o',hl,hcap,hlc,ho',rfl⟩:=hx';have hb:=hR.live _ _ _ hg hl;obtain ⟨b1,b2,b3,b4,cs,fr,b5,b6,b7,b8⟩:=hb;have hcl:=hcap.le
   split at h
   ·-- there is room, as is known
    rename_i hroom
    obtain ⟨⟨hwr,hfz,hone,hle⟩,hK⟩:=h;subst hwr;have hrun:=(hrunZ (some ⟨l.r,o',none⟩) len c').1 (by omega);have hmul:(len+n)*j.size=len*j.size+n*j.size:=Nat.add_mul _ _ _;obtain ⟨w',q1,q2⟩:=zHB (P:=P) hR hg hl hnr (VRs.one hnr hone) hfz (by omega);have hst:(storeCells ((⟨l.r,o',none⟩:Addr).add (len*j.size)) news.toList).run P w=.ok () w':=by
     by_cases hn0:n=0
     ·subst hn0;have hnl:=hnr.length;have:news.toList=[]:=List.eq_nil_of_length_eq_zero (by omega);rw[this] at q1 ⊢
      exact q1
     ·have ho:o'=a.o+l.d:=by rcases ho' with q | q<;>omega
      subst ho;rw[zVR,show a.o+l.d+len*j.size=a.o+len*j.size+l.d by omega];exact q1
    refine ⟨.slice (some a) (len+n) cap,.slice (some ⟨l.r,o',none⟩) (len+n) c',_,_,_,?_,?_,q2,hK⟩
    ·rw[hrun];simp only[Sem.run_bind,hst,Result.andThen_ok,Sem.run_pure]
    ·rw[VR];exact ⟨l,c',o',hl,hcap,by omega,ho',rfl⟩
   ·rename_i hroom
    obtain ⟨⟨hlc2,hle,hby,h63⟩,h⟩:=h;have hgrow:¬ len+n≤c'→∀ s1:ES,Go1 ρ s w.drew ρ s1 w.drew→s1.nx=s.nx→K (.slice (some ⟨s.nx,0⟩) (len+n) (len+n)) (s1.new (.cells ((c.drop a.o).take (len*j.size)++nc) e j.size true 0))→RunV P ρ s w (Builtin.append_ ts ty #[.slice (some ⟨l.r,o',none⟩) len c',Value.int .i64 n]) K:=by
     intro hc s1 hg1 hnx hK;obtain ⟨olds,ho1,ho2⟩:=zFJ (P:=P) hD.rel hg hx (Nat.le_refl _) hle;exact grow (some ⟨l.r,o',none⟩) len c' olds _ s1 rfl hc h63 hby ho1 ho2 (by simp;omega) hg1 hnx hK
    by_cases hz0:z'=0∨(z'=j.size∧a.o+cap*j.size ≠ c.length)
    ·rw[if_pos hz0] at h
     refine hgrow ?_ s (Go1.refl hD.rel) rfl h
     rcases hcap with rfl | ⟨q1,q2,q3,q4⟩
     ·exact hroom
     ·rcases hz0 with q | q
      ·exact absurd (b2.trans q) q1
      ·rw[b2,q.1,b1] at q2;exact absurd q2 q.2
    ·rw[if_neg hz0] at h
     obtain ⟨⟨hwr,hfz,hzj,hone,hte⟩,hK⟩:=h;subst hwr
     by_cases hroom2:len+n≤c'
     ·have hmul:(len+n)*j.size=len*j.size+n*j.size:=Nat.add_mul _ _ _;have ho:o'=a.o+l.d:=by rcases ho' with q | q<;>omega
      subst ho
      rcases hcap with rfl | ⟨p1,p2,p3,p4⟩
      ·omega
      have hmul2:(len+n)*j.size≤c' * j.size:=Nat.mul_le_mul_right _ hroom2;rw[b2,hzj] at p4
      have hrun:=(hrunZ (some ⟨l.r,a.o+l.d,none⟩) len c').1 hroom2;obtain ⟨w',q1,q2⟩:=yGX (P:=P) hR hg hl (m:=len*j.size) hnr (VRs.one hnr hone) (by omega) hfz hle (by omega);rw[hte,hzj] at q2
      refine ⟨.slice (some ⟨s.nx,0⟩) (len+n) (len+n),.slice (some ⟨l.r,a.o+l.d,none⟩) (len+n) c',_,_,_,?_,?_,q2,hK⟩
      ·rw[hrun];simp only[zVR,Sem.run_bind,Sem.run_pure];rw[show a.o+l.d+len*j.size=a.o+len*j.size+l.d by omega,q1];rfl
      ·rw[VR];exact ⟨_,c',a.o+l.d,if_pos rfl,.inr ⟨by simp only;omega,by simp only;omega,hroom2,by simp only;omega⟩,Nat.le_refl _,.inl (by simp only;omega),rfl⟩
     ·refine hgrow hroom2 (s.kill a.b) ?_ rfl hK;exact Rel.less hD.rel (fun b o hg=>by rw[ES.get_kill] at hg;split at hg;cases hg;exact hg) (Nat.le_refl _) rfl
  ·exact h.elim
 ·exact h.elim
def yYZ (P:Program) (ts:List TypeId) (x:EV) (n:Nat) (s:ES) (K:EV→ES→Prop):Prop:=
 match ts with
 | t::u::_=>match zXZ P t,zXZ P u with
   | some i,some i2=>match i.u,i2.u with
     | .slice e,.int _=>match zXZ P e with
       | some j=>(0<j.size∧j.zero.length=j.size∧(n:Int)≤9223372036854775807∧n*j.bytes≤140737488355328)∧ySM j e n (zWT j.zero n) x s K
       | none=>False
     | _,_=>False
   | _,_=>False
 | _=>False
theorem xKV {P:Program} {ts:Array TypeId} {a b:Operand} {x:EV} {n:Nat} {s:ES} {K:EV→ES→Prop} (h:yYZ P ts.toList x n s K):EOp P (.call { callee:=.builtin .append,args:=#[a,b],argTypes:=ts }) [x,.int .i64 n] s K:=by
 intro ρ w act o ho hR hv;simp only[Op.operands,Call.operands,List.map] at hv
 have hv':VRs ρ [x,.int .i64 n] [act.eval a,act.eval b]:=by simpa using hv
 simp only[VRs] at hv'
 obtain ⟨x',l',e1,hx,y',l'',e2,hy,e3⟩:=hv';subst e3;subst e2;simp only[List.cons.injEq,and_true] at e1
 obtain ⟨rfl,rfl⟩:=e1;obtain ⟨dst,op,type,pos,after,guard⟩:=o;simp only at ho;subst ho
 have hm:(#[a,b].map act.eval) = #[act.eval a,act.eval b]:=by simp
 refine .run (m:=Builtin.append_ ts type (#[a,b].map act.eval)) rfl ?_;rw[hm];simp only[VR] at hy
 rw[hy];unfold yYZ at h
 split at h
 ·rename_i t u us h0
  split at h
  ·rename_i i i2 hi hi2
   obtain ⟨inf,d,z,T⟩:=zQG hi;obtain ⟨inf2,d2,z2,T2⟩:=zQG hi2
   split at h
   ·rename_i e k hu hu2
    have hd:d=.slice e:=by rw[T.u] at hu;cases d<;>simp[zRY] at hu;subst hu;rfl
    subst hd;have hd2:∃ k,d2=.int k:=by rw[T2.u] at hu2;cases d2<;>simp[zRY] at hu2;exact ⟨_,rfl⟩
    obtain ⟨k2,rfl⟩:=hd2
    split at h
    ·rename_i j hj
     obtain ⟨⟨h1,h2,h3,h4⟩,h⟩:=h;exact xXP hR h0 T.und T2.und hj h1 h2 h3 h4 h hx
    ·exact h.elim
   ·exact h.elim
  ·exact h.elim
 ·exact h.elim
instance (priority:=high) {P:Program} {ts:Array TypeId} {a b:Operand} {x:EV} {n:Nat} {s:ES} {K:EV→ES→Prop}:Stp (EOp P (.call { callee:=.builtin .append,args:=#[a,b],argTypes:=ts }) [x,.int .i64 n] s K) (yYZ P ts.toList x n s K):=⟨xKV⟩
theorem zKY {G:List Gl} {B:List (Nat × EO)} {t:Nat} {Q:EV→List (Nat × EO)→Nat→Prop} {Q':ER→ES→Prop} (hQ':Q'=PostR G B t Q) {bl M B':List (Nat × EO)} {nx:Nat} {v:EV} [hA:AppW t bl M B'] [hB:Bg t B'] (ht:t≤nx) (hv:v.bel t) (hQ:Q v B' t):xXM t Q' (.ret v) ⟨bl,nx,G⟩:=by
 have hid:∀ i,i<t→nam t [] i=i:=fun i hi=>by simp only[nam];rw[if_pos hi]
 refine done_R hQ' t [] v B' t rfl (EV.ren_idF hid v hv).symm hv ⟨Nat.le_refl _,rfl,by simp,by simp,ht,hB.below,?_⟩ hQ;rw[yDY];exact AppW.allIn ht
attribute [go_sem] b2sP yYZ
end
section
def xXS (j:TI) (e:TypeId) (n:Nat) (nc:List EV) (x:EV) (s:ES) (K:EV→ES→Prop):Prop:=
 match x with
 | .slice none _ _=>if n=0 then K (.slice none 0 0) s else (n*j.bytes≤140737488355328∧n≤9223372036854775807)∧∀ c',n≤c'→K (.slice (some ⟨s.nx,0⟩) n c') (s.new (.cells (nc++zWT j.zero (c' - n)) e 0 true 0))
 | .slice (some a) len cap=>match s.get a.b with
   | some (.cells c t z wr fz)=>
     if len+n≤cap then (wr=true∧fz≤a.o+len*j.size∧nc.all EV.one=true∧a.o+(len+n)*j.size≤c.length)∧K (.slice (some a) (len+n) cap) (s.set a.b (.cells (zZH c (a.o+len*j.size) nc) t z true fz))
     else (z=0∧len≤cap∧a.o+len*j.size≤c.length∧(len+n)*j.bytes≤140737488355328∧len+n≤9223372036854775807) ∧
      ∀ c',len+n≤c'→K (.slice (some ⟨s.nx,0⟩) (len+n) c') (s.new (.cells ((c.drop a.o).take (len*j.size)++nc++zWT j.zero (c' - (len+n))) e 0 true 0))
   | _=>False
 | _=>False
def zJN (P:Program) (ts:List TypeId) (x y:EV) (s:ES) (K:EV→ES→Prop):Prop:=
 match ts with
 | t::us=>match zXZ P t with
   | some i=>match i.u with
     | .slice e=>match zXZ P e with
       | some j=>(xVZ P us∧0<j.size∧j.zero.length=j.size)∧match srcE j.size y s with
         | some (n,nc)=>nc.length=n*j.size∧xXS j e n nc x s K
         | none=>False
       | none=>False
     | _=>False
   | none=>False
 | []=>False
theorem xXT {P:Program} {ρ:Env} {s:ES} {w:World} {K:EV→ES→Prop} {ts:Array TypeId} {ty t e:TypeId} {us:List TypeId} {x:EV} {y:EV} {x' y':Value} {j:TI} {n:Nat} {nc:List EV}
  (hR:Rel ρ s w) (h0:ts.toList=t::us) (ht:P.underlying t=some (.slice e)) (hnz:xVZ P us) (hj:zXZ P e=some j) (hpos:0<j.size) (hzero:j.zero.length=j.size) (hsrc:srcE j.size y s=some (n,nc)) (hncl:nc.length=n*j.size)
  (h:xXS j e n nc x s K) (hx:VR ρ x x') (hy:VR ρ y y'):RunV P ρ s w (Builtin.append_ ts ty #[x',y']) K:=by
 obtain ⟨inf,d,z,T⟩:=zQG hj;have hlen:∀ w,(Builtin.lenOf y').run P w=.ok n w:=by
  obtain ⟨h1,_⟩:=zRH (P:=P) hR hsrc hy;intro w2
  cases y' <;> simp[Builtin.lenOf] at h1 ⊢ <;> exact h1
 obtain ⟨_,news,hnew,hnr⟩:=zRH (P:=P) hR hsrc hy;have hD:=hR.drew;obtain ⟨_,news2,hnew2,hnr2⟩:=zRH (P:=P) hD.rel hsrc hy;have hzs:z.cells.size=j.size:=by rw[← hzero,T.cells];simp
 -- a new block
 have grow:∀ (base:Option Addr) (sLen sCap:Nat) (olds:Array Value) (oldE:List EV) (s1:ES),x'=.slice base sLen sCap→¬ sLen+n≤sCap→sLen+n≤9223372036854775807→(sLen+n)*j.bytes≤140737488355328 →
   (Builtin.firstCells j.size sLen (.slice base sLen sCap)).run P w.drew=.ok olds w.drew→VRs ρ oldE olds.toList→oldE.length=sLen*j.size→Go1 ρ s w.drew ρ s1 w.drew→s1.nx=s.nx →
   (∀ c',sLen+n≤c'→K (.slice (some ⟨s.nx,0⟩) (sLen+n) c') (s1.new (.cells (oldE++nc++zWT j.zero (c' - (sLen+n))) e 0 true 0)))→RunV P ρ s w (Builtin.append_ ts ty #[x',y']) K:=by
  rintro base sLen sCap olds oldE s1 rfl hc h63 hby hold hor hol hg1 hnx hK
  obtain ⟨cap,hge,hrun⟩:=(zDM (w:=w) (ty:=ty) h0 ht hnz rfl T (fun w=>hlen w) hnew (base:=base) (sLen:=sLen) (sCap:=sCap)).2 hc h63 hby olds news2 hold hnew2;have hols:olds.size=sLen*j.size:=by have:=hor.length;simpa [hol] using this
  have hnws:news2.size=n*j.size:=by have:=hnr2.length;simpa [hncl] using this
  have hmul:(sLen+n)*j.size=sLen*j.size+n*j.size:=Nat.add_mul _ _ _;have hcap:cap*j.size=(sLen+n)*j.size+(cap - (sLen+n))*j.size:=by rw[← Nat.add_mul];congr 1;omega
  have hzr:VRs ρ (zWT j.zero (cap - (sLen+n))) (Builtin.zeroCells z.cells (cap - (sLen+n))).toList:=by
   rw[zHJ];exact zSH (by rw[T.cells];exact VRs.ofV _) _ _ (by rw[hzs,hzero])
  have hvr:VRs ρ (oldE++nc++zWT j.zero (cap - (sLen+n))) (olds++news2++Builtin.zeroCells z.cells (cap - (sLen+n))).toList:=by
   rw[Array.toList_append,Array.toList_append];exact (hor.append hnr2).append hzr
  have hG:=hg1.trans (hg1.rel.newCells _ _ e hvr);refine ⟨.slice (some ⟨s.nx,0⟩) (sLen+n) cap,_,_,_,_,hrun,?_,hD.trans hG,hK cap hge⟩;rw[VR];exact ⟨_,cap,0,by rw[hnx];exact if_pos rfl,.inl rfl,hge,.inl rfl,rfl⟩
 unfold xXS at h
 split at h
 ·rename_i l0 c0
  have hx':=hx;rw[VR] at hx'
  obtain ⟨rfl,rfl,rfl⟩:=hx'
  split at h
  ·rename_i hn0
   subst hn0;have:=(zDM (w:=w) (ty:=ty) h0 ht hnz rfl T (fun w=>hlen w) hnew (base:=none) (sLen:=0) (sCap:=0)).1 (by omega);exact RunV.pure (v:=.slice none 0 0) hR this (by rw[VR];simp) h
  ·rename_i hn0
   obtain ⟨⟨h1,h2⟩,hK⟩:=h;refine grow none 0 0 #[] [] s rfl (by omega) (by omega) (by simpa using h1) (by simp[Builtin.firstCells]) VRs.nil (by simp) (Go1.refl hD.rel) rfl (by simpa using hK)
 ·rename_i a len cap
  split at h
  ·rename_i c t' z' wr fz hg
   have hx':=hx;rw[VR] at hx'
   obtain ⟨l,c',o',hl,hcap,hlc,ho',rfl⟩:=hx';have hb:=hR.live _ _ _ hg hl;obtain ⟨b1,b2,b3,b4,cs,fr,b5,b6,b7,b8⟩:=hb;have hcl:=hcap.le
   split at h
   ·-- there is room, as is known
    rename_i hroom
    obtain ⟨⟨hwr,hfz,hone,hle⟩,hK⟩:=h;subst hwr;have hrun:=(zDM (w:=w) (ty:=ty) h0 ht hnz rfl T (fun w=>hlen w) hnew (base:=some ⟨l.r,o',none⟩) (sLen:=len) (sCap:=c')).1 (by omega);have hmul:(len+n)*j.size=len*j.size+n*j.size:=Nat.add_mul _ _ _;obtain ⟨w',q1,q2⟩:=zHB (P:=P) hR hg hl hnr (VRs.one hnr hone) hfz (by omega);have hst:(storeCells ((⟨l.r,o',none⟩:Addr).add (len*j.size)) news.toList).run P w=.ok () w':=by
     by_cases hn0:n=0
     ·subst hn0;have hnl:=hnr.length;have:news.toList=[]:=List.eq_nil_of_length_eq_zero (by omega);rw[this] at q1 ⊢
      exact q1
     ·have ho:o'=a.o+l.d:=by rcases ho' with q | q<;>omega
      subst ho;rw[zVR,show a.o+l.d+len*j.size=a.o+len*j.size+l.d by omega];exact q1
    refine ⟨.slice (some a) (len+n) cap,.slice (some ⟨l.r,o',none⟩) (len+n) c',_,_,_,?_,?_,q2,hK⟩
    ·rw[hrun];simp only[Sem.run_bind,hst,Result.andThen_ok,Sem.run_pure]
    ·rw[VR];exact ⟨l,c',o',hl,hcap,by omega,ho',rfl⟩
   ·rename_i hroom
    obtain ⟨⟨hz0,hlc2,hle,hby,h63⟩,hK⟩:=h;have hcc:c'=cap:=by
     rcases hcap with q | ⟨q1,_⟩
     ·exact q
     ·exact absurd (b2.trans hz0) q1
    subst hcc;obtain ⟨olds,ho1,ho2⟩:=zFJ (P:=P) hD.rel hg hx (Nat.le_refl _) hle;exact grow (some ⟨l.r,o',none⟩) len c' olds _ s rfl hroom h63 hby ho1 ho2 (by simp;omega) (Go1.refl hD.rel) rfl hK
  ·exact h.elim
 ·exact h.elim
theorem zVG {P:Program} {ts:Array TypeId} {a b:Operand} {x y:EV} {s:ES} {K:EV→ES→Prop} (h:zJN P ts.toList x y s K):EOp P (.call { callee:=.builtin .append,args:=#[a,b],argTypes:=ts }) [x,y] s K:=by
 intro ρ w act o ho hR hv;simp only[Op.operands,Call.operands,List.map] at hv
 have hv':VRs ρ [x,y] [act.eval a,act.eval b]:=by simpa using hv
 simp only[VRs] at hv'
 obtain ⟨x',l',e1,hx,y',l'',e2,hy,e3⟩:=hv';subst e3;subst e2;simp only[List.cons.injEq,and_true] at e1
 obtain ⟨rfl,rfl⟩:=e1;obtain ⟨dst,op,type,pos,after,guard⟩:=o;simp only at ho;subst ho
 have hm:(#[a,b].map act.eval) = #[act.eval a,act.eval b]:=by simp
 refine .run (m:=Builtin.append_ ts type (#[a,b].map act.eval)) rfl ?_;rw[hm];unfold zJN at h
 split at h
 ·rename_i t us h0
  split at h
  ·rename_i i hi
   obtain ⟨inf,d,z,T⟩:=zQG hi
   split at h
   ·rename_i e hu
    have hd:d=.slice e:=by rw[T.u] at hu;cases d<;>simp[zRY] at hu;subst hu;rfl
    subst hd
    split at h
    ·rename_i j hj
     obtain ⟨⟨h1,h2,h3⟩,h⟩:=h
     split at h
     ·rename_i n nc hsrc
      exact xXT hR h0 T.und h1 hj h2 h3 hsrc h.1 h.2 hx hy
     ·exact h.elim
    ·exact h.elim
   ·exact h.elim
  ·exact h.elim
 ·exact h.elim
theorem xJY {j:TI} {e n a b:Nat} {nc:List EV} {s:ES} {K:EV→ES→Prop}:xXS j e n nc (.slice none a b) s K=if n=0 then K (.slice none 0 0) s else (n*j.bytes≤140737488355328∧n≤9223372036854775807)∧∀ c',n≤c'→K (.slice (some ⟨s.nx,0⟩) n c') (s.new (.cells (nc++zWT j.zero (c' - n)) e 0 true 0)):=rfl
theorem xJJ {j:TI} {e n len cap:Nat} {a:EA} {nc:List EV} {s:ES} {K:EV→ES→Prop}:xXS j e n nc (.slice (some a) len cap) s K=match s.get a.b with
  | some (.cells c t z wr fz)=>
    if len+n≤cap then (wr=true∧fz≤a.o+len*j.size∧nc.all EV.one=true∧a.o+(len+n)*j.size≤c.length)∧K (.slice (some a) (len+n) cap) (s.set a.b (.cells (zZH c (a.o+len*j.size) nc) t z true fz))
    else (z=0∧len≤cap∧a.o+len*j.size≤c.length∧(len+n)*j.bytes≤140737488355328∧len+n≤9223372036854775807) ∧
     ∀ c',len+n≤c'→K (.slice (some ⟨s.nx,0⟩) (len+n) c') (s.new (.cells ((c.drop a.o).take (len*j.size)++nc++zWT j.zero (c' - (len+n))) e 0 true 0))
  | _=>False:=rfl
attribute [go_sem] xJY xJJ
def accX (b n cap:Nat):EV:=if n=0 then .slice none 0 0 else .slice (some ⟨b,0⟩) n cap
theorem xXN (b cap:Nat):accX b 0 cap=.slice none 0 0:=rfl
theorem yFS {b n cap:Nat} (h:0<n):accX b n cap=.slice (some ⟨b,0⟩) n cap:=by unfold accX;rw[if_neg (by omega)]
theorem accX_bel {b n cap k:Nat} (h:b<k):(accX b n cap).bel k:=by unfold accX;split<;>simp[EV.bel,h]
def zYH (n:Nat):List EV:=zWT [.slice none 0 0] n
theorem yKR (n:Nat):(zYH n).length=n:=by simp[zYH,zZJ]
theorem zVS (n k:Nat):zQX k (zYH n):=by
 unfold zYH
 induction n with
 | zero=>trivial
 | succ n ih=>simp only[zWT];rw[zQB];exact ⟨by simp[zQX,EV.bel],ih⟩
theorem xQK {π:Nat→Nat} (n:Nat):zZG π (zYH n)=zYH n:=zPV (k:=0) (fun i hi=>by omega) _ (zVS n 0)
theorem xTH (n:Nat):zWT [.slice none 0 0] n=zYH n:=rfl
attribute [go_sem] xTH
attribute [simp] yKR xQK
end
end Go.E
