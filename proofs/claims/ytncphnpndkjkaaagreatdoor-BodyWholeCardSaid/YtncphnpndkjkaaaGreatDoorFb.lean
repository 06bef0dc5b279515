/-
  Own work: a part of the proof that the last text closes.
-/
import Derived.Test.YtncphnpndkjkaaaGreatDoorFa
import Derived.RangeFuncCalls
import Derived.RangeFuncRecord
import Derived.IntWalk
import Derived.Below
namespace Go.E
set_option linter.all false
section
inductive ER where
 | ret (v:EV)
 | pan (v:EV)
inductive X where
 | normal
 | exit (id:Nat)
 | goto (l:Nat)
 | ret
 | pan (v:EV)
def zPK (r:Option Nat):Fence:={ Fence.wide with round:=r }
def RetR (ρ:Env):ER→Ending→Prop
 | .ret v,e=>∃ v',e=.returned v'∧VR ρ v v'
 | .pan v,e=>∃ v',e=.panicked [{ v:=v',recovered:=false }]∧VR ρ v v'
def EPost (ρ:Env) (s:ES) (w:World) (Q:ER→ES→Prop) (e:Ending) (w':World):Prop:=
 ∃ x s' ρ',RetR ρ' x e∧Go1 ρ s w ρ' s' w'∧Q x s'
def ECalls (P:Program) (g:FuncId) (args:List EV) (s:ES) (Q:ER→ES→Prop):Prop:=
 ∀ (ρ:Env) (w:World) (args':Array Value),Rel ρ s w→VRs ρ args args'.toList →
  match (callFunc g args').run P w with
  | .ok (.enter f as) w1=>CallsIn (zPK none) 0 P f as w1 (EPost ρ s w Q)
  | .ok (.value v') w1=>EPost ρ s w Q (.returned v') w1
  | _=>False
def EYields (P:Program) (l:Nat) (args:List EV) (s:ES) (Q:ER→ES→Prop):Prop:=
 ∀ (ρ:Env) (w:World) (args':Array Value),Rel ρ s w→VRs ρ args args'.toList →
  match (Instr.yield l args').run P w with
  | .ok (.round l' f tm asg body) w1=>RoundIn (zPK none) 0 P l' f tm asg body w1 (EPost ρ s w Q)
  | _=>False
def yNK:Code→Bool
 | .rangeFunc _ _ _ _=>false
 | .seq x y=>yNK x && yNK y
 | .cond _ x y=>yNK x && yNK y
 | .block _ x=>yNK x
 | .loop x=>yNK x
 | .scope x=>yNK x
 | _=>true
def okR (r:Option Nat) (c:Code):Prop:=r=none∨yNK c=true
theorem okR.seq1 {r:Option Nat} {x y:Code} (h:okR r (.seq x y)):okR r x:=h.imp id fun h=>by simp only[yNK,Bool.and_eq_true] at h;exact h.1
theorem okR.seq2 {r:Option Nat} {x y:Code} (h:okR r (.seq x y)):okR r y:=h.imp id fun h=>by simp only[yNK,Bool.and_eq_true] at h;exact h.2
theorem okR.cond1 {r:Option Nat} {c:Operand} {x y:Code} (h:okR r (.cond c x y)):okR r x:=h.imp id fun h=>by simp only[yNK,Bool.and_eq_true] at h;exact h.1
theorem okR.cond2 {r:Option Nat} {c:Operand} {x y:Code} (h:okR r (.cond c x y)):okR r y:=h.imp id fun h=>by simp only[yNK,Bool.and_eq_true] at h;exact h.2
theorem okR.block {r:Option Nat} {i:Nat} {x:Code} (h:okR r (.block i x)):okR r x:=h
theorem okR.loop {r:Option Nat} {x:Code} (h:okR r (.loop x)):okR r x:=h
theorem okR.scope {r:Option Nat} {x:Code} (h:okR r (.scope x)):okR r x:=h
theorem yPN:∀ {c rest:Code} {l:Nat},yNK c=true→findLabel c l=some rest→yNK rest=true
 | .seq a b,rest,l,h,hf=>by
   simp only[yNK,Bool.and_eq_true] at h
   simp only[findLabel] at hf
   split at hf
   ·rename_i r1 h1;cases hf;simp only[yNK,Bool.and_eq_true];exact ⟨yPN h.1 h1,h.2⟩
   ·exact yPN h.2 hf
 | .label _,rest,l,h,hf=>by
   simp only[findLabel] at hf
   split at hf
   ·cases hf;rfl
   ·cases hf
 | .skip,_,_,_,hf | .region _ _ _,_,_,_,hf | .cond _ _ _,_,_,_,hf | .block _ _,_,_,_,hf | .loop _,_,_,_,hf | .rangeFunc _ _ _ _,_,_,_,hf | .exit _,_,_,_,hf | .scope _,_,_,_,hf | .goto _,_,_,_,hf | .ret,_,_,_,hf | .refuse _,_,_,_,hf=>by simp[findLabel] at hf
theorem okR.find {r:Option Nat} {c rest:Code} {l:Nat} (h:okR r c) (hf:findLabel c l=some rest):okR r rest:=h.imp id fun h=>yPN h hf
def XR (ρ:Env):X→Exit→Prop
 | .normal,e=>e=.normal
 | .exit i,e=>e=.exit i
 | .goto l,e=>e=.goto l
 | .ret,e=>e=.ret
 | .pan v,e=>∃ v',e=.panic [{ v:=v',recovered:=false }]∧VR ρ v v'
def CPost (k:Nat) (ρ:Env) (s:ES) (w:World) (Q:X→Fr→ES→Prop) (e:Exit) (a:Act) (w':World):Prop:=
 ∃ x fr' s' ρ',XR ρ' x e∧FR ρ' fr' a∧GoK k ρ s w ρ' s' w'∧Q x fr' s'
def ESem (P:Program) (k:Nat) (c:Code) (Q:X→Fr→ES→Prop) (fr:Fr) (s:ES):Prop:=
 k≤s.nx→∀ (r:Option Nat),okR r c→∀ (ρ:Env) (w:World) (a:Act),Rel ρ s w→FR ρ fr a→c.wpIn (zPK r) 0 P (CPost k ρ s w Q) a w
theorem CPost.trans {k:Nat} {ρ ρ1:Env} {s s1:ES} {w w1:World} {Q:X→Fr→ES→Prop} {e:Exit} {a:Act} {w2:World} (h:GoK k ρ s w ρ1 s1 w1) (g:CPost k ρ1 s1 w1 Q e a w2):CPost k ρ s w Q e a w2:=
 let ⟨x,fr',s',ρ',h1,h2,h3,h4⟩:=g
 ⟨x,fr',s',ρ',h1,h2,h.trans h3,h4⟩
theorem ESem.mono {P:Program} {k:Nat} {c:Code} {Q Q':X→Fr→ES→Prop} {fr:Fr} {s:ES} (h:ESem P k c Q fr s) (hq:∀ x fr s,Q x fr s→Q' x fr s):ESem P k c Q' fr s:=
 fun hk r hr ρ w a hR hF=>wpIn_mono (h hk r hr ρ w a hR hF) fun _ _ _ ⟨x,fr',s',ρ',h1,h2,h3,h4⟩=>⟨x,fr',s',ρ',h1,h2,h3,hq _ _ _ h4⟩
theorem ECalls.mono {P:Program} {g:FuncId} {args:List EV} {s:ES} {Q Q':ER→ES→Prop} (h:ECalls P g args s Q) (hq:∀ x s,Q x s→Q' x s):ECalls P g args s Q':=by
 intro ρ w args' hR hA;have:=h ρ w args' hR hA
 revert this
 split
 ·exact fun h=>⟨h.1,fun cs hr=>let ⟨e,w',fr,⟨x,s',ρ',h1,h2,h3⟩,b,c⟩:=h.2 cs hr;⟨e,w',fr,⟨x,s',ρ',h1,h2,hq _ _ h3⟩,b,c⟩⟩
 ·exact fun ⟨x,s',ρ',h1,h2,h3⟩=>⟨x,s',ρ',h1,h2,hq _ _ h3⟩
 ·exact id
def zMJ (fr:Fr) (l:List Operand):List EV:=l.map (ev fr)
def xQQ (fr:Fr):Option Operand→Option EV
 | some x=>some (ev fr x)
 | none=>none
theorem FR.args {ρ:Env} {fr:Fr} {a:Act} (h:FR ρ fr a) (l:List Operand):VRs ρ (zMJ fr l) (l.map a.eval):=by
 induction l with
 | nil=>exact VRs.nil
 | cons x l ih=>exact VRs.cons (h.ev x) ih
theorem FR.opt {ρ:Env} {fr:Fr} {a:Act} (h:FR ρ fr a) (x:Option Operand):zHD ρ (xQQ fr x) (x.map a.eval):=by
 cases x with
 | none=>trivial
 | some x=>exact h.ev x
def zMX (fr:Fr) (ps:List (Nat × Operand)):List (Nat × EV):=ps.map fun x=>(x.1,ev fr x.2)
def econv (P:Program) (src dst:TypeId) (x:EV) (K:EV→Prop):Prop:=
 match zXZ P src,zXZ P dst,x with
 | some _,some j,.int _ n=>match j.u with
   | .int k=>K (.int k (k.wrap n))
   | _=>False
 | some _,some j,.str t=>match j.u with
   | .str=>K (.str t)
   | _=>False
 | _,_,_=>False
theorem xKK {P:Program} {src dst:TypeId} {x:EV} {x':Value} {K:EV→Prop} (h:econv P src dst x K) {ρ:Env} (hx:VR ρ x x') (w:World) :
  ∃ v,K v∧∃ v',VR ρ v v'∧(convert src dst x').run P w=.ok v' w:=by
 unfold econv at h
 split at h
 ·rename_i i j k n h1 h2
  obtain ⟨_,d1,_,T1⟩:=zQG h1;obtain ⟨_,d2,_,T2⟩:=zQG h2;rw[VR] at hx;subst hx
  split at h
  ·rename_i k' hu
   have hd:d2=.int k':=by rw[T2.u] at hu;cases d2<;>simp[zRY] at hu;subst hu;rfl
   subst hd;refine ⟨_,h,_,by rw[VR],?_⟩;simp[convert,T1.run_und w,T2.run_und w,Conv.intToInt]
  ·exact h.elim
 ·rename_i i j t h1 h2
  obtain ⟨_,d1,_,T1⟩:=zQG h1;obtain ⟨_,d2,_,T2⟩:=zQG h2;rw[VR] at hx;subst hx
  split at h
  ·rename_i hu
   have hd:d2=.string:=by rw[T2.u] at hu;cases d2<;>simp[zRY] at hu;rfl
   subst hd;refine ⟨_,h,_,by rw[VR],?_⟩;simp[convert,T1.run_und w,T2.run_und w]
  ·exact h.elim
 ·exact h.elim
def ebin (op:BinOp) (x y:EV) (K:EV→Prop):Prop:=
 match x,y with
 | .int k a,.int k' b=>ebinI op k a k' b K
 | .str a,.str b=>ebinS op a b K
 | .bool a,.bool b=>match op with
   | .eql=>K (.bool (decide (a=b)))
   | .neq=>K (.bool (decide (a ≠ b)))
   | _=>False
 | .nilIface,.iface _ _=>match op with
   | .eql=>K (.bool false)
   | .neq=>K (.bool true)
   | _=>False
 | .iface _ _,.nilIface=>match op with
   | .eql=>K (.bool false)
   | .neq=>K (.bool true)
   | _=>False
 | .ptr a,.ptr none=>match op with
   | .eql=>K (.bool a.isNone)
   | .neq=>K (.bool a.isSome)
   | _=>False
 | _,_=>False
def eqE:EV→EV→Bool
 | .int _ a,.int _ b=>decide (a=b)
 | .str a,.str b=>decide (a=b)
 | .bool a,.bool b=>decide (a=b)
 | .ptr a,.ptr b=>decide (a=b)
 | .agg cs,.agg ds=>eqL cs ds
 | .nilIface,.nilIface=>true
 | .iface t v,.iface u w=>decide (t=u) && eqE v w
 | _,_=>false
where eqL:List EV→List EV→Bool
 | [],[]=>true
 | x::xs,y::ys=>eqE x y && eqL xs ys
 | _,_=>false
def EqS (P:Program) (op:BinOp) (t:TypeId) (x y:EV) (b:Bool):Prop:=
 ∀ (ρ:Env) (x' y':Value) (ox oy:Operand) (w:World),VR ρ x x'→VR ρ y y'→(do eqGuard op t ox oy x' y';binOp op t x' y':Sem Value).run P w=.ok (.bool b) w
def ebinX (P:Program) (op:BinOp) (t:TypeId) (x y:EV) (K:EV→Prop):Prop:=
 match op with
 | .eql=>EqS P .eql t x y (eqE x y)∧K (.bool (eqE x y))
 | .neq=>EqS P .neq t x y (!eqE x y)∧K (.bool (!eqE x y))
 | _=>False
def xKR (P:Program) (op:BinOp) (t:TypeId) (x y:EV) (cy:Bool) (K:EV→Prop):Prop:=
 match x,y with
 | .bool _,.bool _=>match zXZ P t with
   | some i=>match i.u with
     | .bool=>ebin op x y K
     | _=>False
   | none=>False
 | .nilIface,.nilIface=>cy=true∧match zXZ P t with
   | some i=>match i.u with
     | .iface=>(match op with
       | .eql=>K (.bool true)
       | .neq=>K (.bool false)
       | _=>False)
     | _=>False
   | none=>False
 | .nilIface,.iface _ _ | .iface _ _,.nilIface=>match zXZ P t with
   | some i=>match i.u with
     | .iface=>ebin op x y K
     | _=>False
   | none=>False
 | .ptr _,.ptr none=>match zXZ P t with
   | some i=>match i.u with
     | .ptr _=>ebin op x y K
     | _=>False
   | none=>False
 | .int _ _,.int _ _ | .str _,.str _=>ebin op x y K
 | x,y=>ebinX P op t x y K
def yND:Operand→Bool
 | .const _=>true
 | _=>false
section equal
variable {P:Program} {t:TypeId} (w:World)
theorem yJQ (d:Nat) (h:P.underlying t=some .bool) (a b:Bool):(Op.equalIn (d+1) t (.bool a) (.bool b)).run P w=.ok (a == b) w:=by simp[Op.equalIn,run_underlying h]
theorem yKD (d:Nat) {ms:Array (String × TypeId)} (h:P.underlying t=some (.interface ms)):(Op.equalIn (d+1) t .nilIface .nilIface).run P w=.ok true w:=by simp[Op.equalIn,run_underlying h]
theorem zDX (d:Nat) {ms:Array (String × TypeId)} (h:P.underlying t=some (.interface ms)) (u:TypeId) (v:Value):(Op.equalIn (d+1) t .nilIface (.iface u v)).run P w=.ok false w:=by simp[Op.equalIn,run_underlying h]
theorem zDZ (d:Nat) {ms:Array (String × TypeId)} (h:P.underlying t=some (.interface ms)) (u:TypeId) (v:Value):(Op.equalIn (d+1) t (.iface u v) .nilIface).run P w=.ok false w:=by simp[Op.equalIn,run_underlying h]
theorem zDN (d:Nat) {e:TypeId} (h:P.underlying t=some (.pointer e)) (a:Option Addr):(Op.equalIn (d+1) t (.pointer a) (.pointer none)).run P w=.ok a.isNone w:=by cases a<;>simp[Op.equalIn,run_underlying h]
theorem zDT (h:P.underlying t=some .bool) (a b:Bool):(Op.equal t (.bool a) (.bool b)).run P w=.ok (a == b) w:=yJQ w 9999 h a b
theorem zDR {ms:Array (String × TypeId)} (h:P.underlying t=some (.interface ms)):(Op.equal t .nilIface .nilIface).run P w=.ok true w:=yKD w 9999 h
theorem zGN {ms:Array (String × TypeId)} (h:P.underlying t=some (.interface ms)) (u:TypeId) (v:Value):(Op.equal t .nilIface (.iface u v)).run P w=.ok false w:=zDX w 9999 h u v
theorem zGM {ms:Array (String × TypeId)} (h:P.underlying t=some (.interface ms)) (u:TypeId) (v:Value):(Op.equal t (.iface u v) .nilIface).run P w=.ok false w:=zDZ w 9999 h u v
theorem zHN {e:TypeId} (h:P.underlying t=some (.pointer e)) (a:Option Addr):(Op.equal t (.pointer a) (.pointer none)).run P w=.ok a.isNone w:=zDN w 9999 h a
end equal
theorem xKP {P:Program} {op:BinOp} {t:TypeId} {x y:EV} {ox oy:Operand} {K:EV→Prop} (h:xKR P op t x y (yND oy) K) {ρ:Env} {x' y':Value} (hx:VR ρ x x') (hy:VR ρ y y') (w:World) :
  ∃ v,K v∧∃ v',VR ρ v v'∧(do eqGuard op t ox oy x' y';binOp op t x' y':Sem Value).run P w=.ok v' w:=by
 have hund:∀ {i:TI},zXZ P t=some i→∃ d,i.u=zRY d∧P.underlying t=some d:=by
  intro i hi;obtain ⟨_,d,_,T⟩:=zQG hi;exact ⟨d,T.u,T.und⟩
 unfold xKR at h
 split at h
 ·-- bool
  rename_i a b
  rw[VR] at hx;rw[VR] at hy;subst hx;subst hy
  split at h
  ·rename_i i hi
   split at h
   ·rename_i hu
    obtain ⟨d,hd,hrun⟩:=hund hi;have hd':d=.bool:=by rw[hd] at hu;cases d<;>simp[zRY] at hu;rfl
    subst hd';simp only[ebin] at h
    split at h
    ·exact ⟨_,h,_,by rw[VR],by simp[eqGuard,binOp,zDT _ hrun,Bool.beq_eq_decide_eq]⟩
    ·refine ⟨_,h,_,by rw[VR],?_⟩;simp[eqGuard,binOp,zDT _ hrun]
     cases a<;>cases b<;>rfl
    ·exact h.elim
   ·exact h.elim
  ·exact h.elim
 ·-- nil, nil
  rw[VR] at hx;rw[VR] at hy;subst hx;subst hy
  obtain ⟨hc,h⟩:=h;obtain ⟨cv,rfl⟩:∃ cv,oy=.const cv:=by cases oy<;>simp[yND] at hc;exact ⟨_,rfl⟩
  split at h
  ·rename_i i hi
   split at h
   ·rename_i hu
    obtain ⟨d,hd,hrun⟩:=hund hi;have hd':∃ ms,d=.interface ms:=by rw[hd] at hu;cases d<;>simp[zRY] at hu;exact ⟨_,rfl⟩
    obtain ⟨ms,rfl⟩:=hd'
    split at h
    ·exact ⟨_,h,_,by rw[VR],by simp[eqGuard,binOp,zDR _ hrun]⟩
    ·exact ⟨_,h,_,by rw[VR],by simp[eqGuard,binOp,zDR _ hrun]⟩
    ·exact h.elim
   ·exact h.elim
  ·exact h.elim
 ·-- nil, held
  rename_i t1 v1
  rw[VR] at hx;rw[VR] at hy;subst hx;obtain ⟨y1,rfl,_⟩:=hy
  split at h
  ·rename_i i hi
   split at h
   ·rename_i hu
    obtain ⟨d,hd,hrun⟩:=hund hi;have hd':∃ ms,d=.interface ms:=by rw[hd] at hu;cases d<;>simp[zRY] at hu;exact ⟨_,rfl⟩
    obtain ⟨ms,rfl⟩:=hd';simp only[ebin] at h
    split at h
    ·exact ⟨_,h,_,by rw[VR],by simp[eqGuard,binOp,zGN _ hrun]⟩
    ·exact ⟨_,h,_,by rw[VR],by simp[eqGuard,binOp,zGN _ hrun]⟩
    ·exact h.elim
   ·exact h.elim
  ·exact h.elim
 ·-- held, nil
  rename_i t1 v1
  rw[VR] at hx;rw[VR] at hy;subst hy;obtain ⟨y1,rfl,_⟩:=hx
  split at h
  ·rename_i i hi
   split at h
   ·rename_i hu
    obtain ⟨d,hd,hrun⟩:=hund hi;have hd':∃ ms,d=.interface ms:=by rw[hd] at hu;cases d<;>simp[zRY] at hu;exact ⟨_,rfl⟩
    obtain ⟨ms,rfl⟩:=hd';simp only[ebin] at h
    split at h
    ·exact ⟨_,h,_,by rw[VR],by simp[eqGuard,binOp,zGM _ hrun]⟩
    ·exact ⟨_,h,_,by rw[VR],by simp[eqGuard,binOp,zGM _ hrun]⟩
    ·exact h.elim
   ·exact h.elim
  ·exact h.elim
 ·-- pointer, nil
  rename_i a
  have hx':∃ a',x'=.pointer a'∧a'.isNone=a.isNone:=by
   cases a with
   | none=>rw[VR] at hx;exact ⟨_,hx,rfl⟩
   | some a=>rw[VR] at hx;obtain ⟨l,_,rfl⟩:=hx;exact ⟨_,rfl,rfl⟩
  obtain ⟨a',rfl,ha⟩:=hx';rw[VR] at hy;subst hy
  split at h
  ·rename_i i hi
   split at h
   ·rename_i e hu
    obtain ⟨d,hd,hrun⟩:=hund hi;have hd':d=.pointer e:=by rw[hd] at hu;cases d<;>simp[zRY] at hu;subst hu;rfl
    subst hd';simp only[ebin] at h
    split at h
    ·refine ⟨_,h,_,by rw[VR],?_⟩;rw[← ha]
     cases a' <;> simp[eqGuard,binOp,zHN _ hrun]
    ·refine ⟨_,h,_,by rw[VR],?_⟩;have:a.isSome=a'.isSome:=by cases a<;>cases a' <;> simp at ha ⊢
     rw[this]
     cases a' <;> simp[eqGuard,binOp,zHN _ hrun]
    ·exact h.elim
   ·exact h.elim
  ·exact h.elim
 ·-- integers
  rename_i k a k' b
  rw[VR] at hx;rw[VR] at hy;subst hx;subst hy
  simp only[ebin] at h
  obtain ⟨v,h1,v',h2,h3⟩:=xKS (P:=P) (t:=t) h w;refine ⟨v,h1,v',h2 ρ,?_⟩;have:(eqGuard op t ox oy (.int k a) (.int k' b))=(pure ():Sem Unit):=by cases op<;>rfl
  rw[this];exact h3
 ·-- strings
  rename_i a b
  rw[VR] at hx;rw[VR] at hy;subst hx;subst hy
  simp only[ebin] at h
  obtain ⟨v,h1,v',h2,h3⟩:=xKT (P:=P) (t:=t) h w;refine ⟨v,h1,v',h2 ρ,?_⟩;have:(eqGuard op t ox oy (.string ⟨a.toArray⟩) (.string ⟨b.toArray⟩))=(pure ():Sem Unit):=by cases op<;>rfl
  rw[this];exact h3
 ·unfold ebinX at h
  split at h
  ·exact ⟨_,h.2,_,by rw[VR],h.1 ρ _ _ ox oy w hx hy⟩
  ·exact ⟨_,h.2,_,by rw[VR],h.1 ρ _ _ ox oy w hx hy⟩
  ·exact h.elim
def zSK (P:Program) (b:Builtin) (ts:List TypeId) (xs:List EV) (s:ES) (K:EV→ES→Prop):Prop:=
 match b,ts,xs with
 | .len,t::_,x::_=>match zXZ P t with
   | some i=>xZQ i x s fun v=>K v s
   | none=>False
 | .min,_,x::r=>zHT minI x r fun v=>K v s
 | .max,_,x::r=>zHT maxI x r fun v=>K v s
 | _,_,_=>False
def OpRes (P:Program) (ρ:Env) (s:ES) (w:World) (a:Act) (o:Oper) (K:EV→ES→Prop):Prop:=
 ∃ v v' s' ρ' w',((execOp a.eval o).run P w=.ok (.value v') w'∨((execOp a.eval o).run P w=.ok .skip w'∧v'=Go.undef))∧VR ρ' v v'∧Go1 ρ s w ρ' s' w'∧K v s'
def EOp (P:Program) (op:Op) (vals:List EV) (s:ES) (K:EV→ES→Prop):Prop:=
 ∀ (ρ:Env) (w:World) (a:Act) (o:Oper),o.op=op→Rel ρ s w→VRs ρ vals (op.operands.toList.map a.eval)→OpRes P ρ s w a o K
def KC (K Kp:EV→ES→Prop):ER→ES→Prop
 | .ret v,s=>K v s
 | .pan v,s=>Kp v s
def convP (P:Program) (src dst:TypeId):Bool:=match zXZ P src,zXZ P dst with
 | some i,some j=>match i.u,j.u with
   | .int _,.int _=>true
   | .str,.str=>true
   | _,_=>false
 | _,_=>false
def hereB:Builtin→Bool
 | .len | .min | .max=>true
 | _=>false
def yTW (P:Program) (c:Call) (fr:Fr) (s:ES) (K Kp:EV→ES→Prop):Prop:=
 match c.callee with
 | .builtin b=>match hereB b with
   | true=>zSK P b c.argTypes.toList (zMJ fr c.args.toList) s K
   | false=>EOp P (.call c) (zMJ fr c.args.toList) s K
 | .value f=>match ev fr f with
   | .fn (.func g) first cap=>ECalls P g (first++zMJ fr c.args.toList++cap) s (KC K Kp)
   | .fn (.yield l) first _=>EYields P l (first++zMJ fr c.args.toList) s (KC K Kp)
   | _=>False
 | .invoke _ _=>False
def zFG (b want:Bool) (A B:Prop):Prop:=(b=want→A)∧(b = !want→B)
@[congr] theorem gsel_congr {b c want:Bool} {A B:Prop} (h:b=c):zFG b want A B=zFG c want A B:=by rw[h]
theorem yMX (A B:Prop):zFG true true A B=A:=by simp[zFG]
theorem gsel_tf (A B:Prop):zFG true false A B=B:=by simp[zFG]
theorem xVH (A B:Prop):zFG false true A B=B:=by simp[zFG]
theorem gsel_ff (A B:Prop):zFG false false A B=A:=by simp[zFG]
theorem gsel_decT {p:Prop} [Decidable p] {A B:Prop} (hA:p→A) (hB:¬ p→B):zFG (decide p) true A B:=⟨fun h=>hA (of_decide_eq_true h),fun h=>hB (of_decide_eq_false h)⟩
theorem gsel_decF {p:Prop} [Decidable p] {A B:Prop} (hA:p→B) (hB:¬ p→A):zFG (decide p) false A B:=⟨fun h=>hB (of_decide_eq_false h),fun h=>hA (of_decide_eq_true h)⟩
theorem gsel_boolT {b:Bool} {A B:Prop} (hA:b=true→A) (hB:b=false→B):zFG b true A B:=⟨hA,hB⟩
def zRM (K:EV→ES→Prop) (v:EV) (s:ES):Prop:=K v s
def eop (P:Program) (op:Op) (fr:Fr) (s:ES) (K Kp:EV→ES→Prop):Prop:=
 match op with
 | .move x | .assign x=>K (ev fr x) s
 | .pick c a b=>match ev fr c with
   | .bool t=>zFG t true (zRM K (ev fr a) s) (zRM K (ev fr b) s)
   | _=>False
 | .alloc t=>match zXZ P t with
   | some i=>eNew i.zero t s K
   | none=>False
 | .box t x=>eBox t (ev fr x) s K
 | .build t ps=>match zXZ P t with
   | some i=>yXV P i (zMX fr ps.toList) fun v=>K v s
   | none=>False
 | .buildSlice t n ps=>match zXZ P t with
   | some i=>zGP P i n (zMX fr ps.toList) s K
   | none=>False
 | .load t x=>match zXZ P t with
   | some i=>yMP i (ev fr x) s fun v=>K v s
   | none=>False
 | .store t x v=>match zXZ P t with
   | some i=>xWH i (ev fr x) (ev fr v) s K
   | none=>False
 | .nilCheck x=>match ev fr x with
   | .ptr (some a)=>K (.ptr (some a)) s
   | _=>False
 | .binOp op t x y _=>xKR P op t (ev fr x) (ev fr y) (yND y) fun v=>K v s
 | .unOp op _ x=>eun op (ev fr x) fun v=>K v s
 | .convert src dst x=>match convP P src dst with
   | true=>econv P src dst (ev fr x) fun v=>K v s
   | false=>match b2sP P src dst with
     | true=>eB2S P src dst (ev fr x) s K
     | false=>EOp P (.convert src dst x) [ev fr x] s K
 | .slice t x lo hi mx=>match zXZ P t with
   | some i=>zHX P i (ev fr x) (xQQ fr lo) (xQQ fr hi) (xQQ fr mx) s K
   | none=>False
 | .fieldAddr t x f=>match zXZ P t with
   | some i=>zKK P i (ev fr x) f s K
   | none=>False
 | .field t x f=>match zXZ P t with
   | some i=>yRF P i (ev fr x) f fun v=>K v s
   | none=>False
 | .indexAddr t x ix=>match zXZ P t with
   | some i=>zVN P i (ev fr x) (ev fr ix) s K
   | none=>False
 | .index t x ix=>match zXZ P t with
   | some i=>yRM P i (ev fr x) (ev fr ix) fun v=>K v s
   | none=>False
 | .makeInterface t x=>match zXZ P t with
   | some i=>match i.u with
     | .iface=>False
     | _=>K (.iface t (ev fr x)) s
   | none=>False
 | .makeFunc f first cap=>K (.fn f (zMJ fr first.toList) (zMJ fr cap.toList)) s
 | .extract x n=>zNZ (ev fr x) n fun v=>K v s
 | .call c=>yTW P c fr s K Kp
 | .defer _=>False
 | op=>EOp P op (zMJ fr op.operands.toList) s K
theorem yPY {ρ:Env} {fr:Fr} {a:Act} (hF:FR ρ fr a) (ps:Array (Nat × Operand)) :
  (ps.map fun (x:Nat × Operand)=>(x.1,a.eval x.2)).size=(zMX fr ps.toList).length ∧
  ∀ (k n:Nat) (v:EV),(zMX fr ps.toList)[k]? = some (n,v)→∃ v',(ps.map fun (x:Nat × Operand)=>(x.1,a.eval x.2))[k]? = some (n,v')∧VR ρ v v':=by
 refine ⟨by simp[zMX],fun k n v h=>?_⟩;simp only[zMX,List.getElem?_map] at h
 cases hp:ps.toList[k]? with
 | none=>simp[hp] at h
 | some x=>
   simp[hp] at h
   obtain ⟨rfl,rfl⟩:=h;have:ps[k]? = some x:=by simpa using hp
   exact ⟨a.eval x.2,by simp[this],hF.ev x.2⟩
theorem OpRes.val {P:Program} {ρ:Env} {s:ES} {w:World} {a:Act} {o:Oper} {K:EV→ES→Prop} (hR:Rel ρ s w) {m:Sem Value} (he:(execOp a.eval o)=(do pure (.value (← m)))) {k:EV→Prop} (hk:∀ v,k v→K v s)
  (h:∃ v,k v∧∃ v',VR ρ v v'∧m.run P w=.ok v' w):OpRes P ρ s w a o K:=by
 obtain ⟨v,hv,v',h1,h2⟩:=h;exact ⟨v,v',s,ρ,w,.inl (by rw[he];simp[h2]),h1,Go1.refl hR,hk v hv⟩
theorem OpRes.run {P:Program} {ρ:Env} {s:ES} {w:World} {a:Act} {o:Oper} {K:EV→ES→Prop} {m:Sem Value} (he:(execOp a.eval o)=(do pure (.value (← m)))) (h:RunV P ρ s w m K):OpRes P ρ s w a o K:=by
 obtain ⟨v,v',s',ρ',w',h1,h2,h3,h4⟩:=h;exact ⟨v,v',s',ρ',w',.inl (by rw[he];simp[h1]),h2,h3,h4⟩
def yHQ:Op→Bool
 | .call { callee:=.builtin _,.. }=>false
 | .call _=>true
 | _=>false
theorem eop_sound {P:Program} {o:Oper} {fr:Fr} {s:ES} {K Kp:EV→ES→Prop} (h:eop P o.op fr s K Kp) (hc:yHQ o.op=false) {ρ:Env} {w:World} {a:Act} (hR:Rel ρ s w) (hF:FR ρ fr a):OpRes P ρ s w a o K:=by
 obtain ⟨dst,op,type,pos,after,guard⟩:=o;simp only at h hc
 cases op<;>simp only[eop] at h<;>try first|exact h.elim|exact h ρ w a _ rfl hR (hF.args _)
 case move x=>exact ⟨_,_,s,ρ,w,.inl rfl,hF.ev x,Go1.refl hR,h⟩
 case assign x=>exact ⟨_,_,s,ρ,w,.inl rfl,hF.ev x,Go1.refl hR,h⟩
 case pick c x y=>
  split at h
  ·rename_i t hcv
   have hcr:=hF.ev c;rw[hcv,VR] at hcr
   cases t with
   | true=>exact ⟨_,a.eval x,s,ρ,w,.inl (by simp[execOp,hcr,asBool]),hF.ev x,Go1.refl hR,h.1 rfl⟩
   | false=>exact ⟨_,a.eval y,s,ρ,w,.inl (by simp[execOp,hcr,asBool]),hF.ev y,Go1.refl hR,h.2 rfl⟩
  ·exact h.elim
 case alloc t=>
  split at h
  ·rename_i i hi;exact .run rfl (xWM hi h hR)
  ·exact h.elim
 case box t x=>exact .run rfl (eBox_sound h hR (hF.ev x))
 case build t ps=>
  split at h
  ·rename_i i hi
   obtain ⟨p1,p2⟩:=yPY hF ps;exact .val hR rfl (fun v hv=>hv) (xWS hi h p1 p2 w)
  ·exact h.elim
 case buildSlice t n ps=>
  split at h
  ·rename_i i hi
   obtain ⟨p1,p2⟩:=yPY hF ps;exact .run rfl (yVZ hi h hR p1 p2)
  ·exact h.elim
 case load t x=>
  split at h
  ·rename_i i hi
   obtain ⟨v,h1,v',h2,h3,_⟩:=yTX hi h hR (hF.ev x);exact .val hR rfl (fun v hv=>hv) ⟨v,h1,v',h2,h3⟩
  ·exact h.elim
 case store t x v=>
  split at h
  ·rename_i i hi
   obtain ⟨s',w',h1,h2,h3⟩:=xWG hi h hR (hF.ev x) (hF.ev v);exact ⟨zVP,Go.undef,s',ρ,w',.inr ⟨by simp[execOp,h1],rfl⟩,VR.undef,h2,h3⟩
  ·exact h.elim
 case nilCheck x=>
  split at h
  ·rename_i x0 hx
   have hr:=hF.ev x;rw[hx] at hr
   have hr':=hr;rw[VR] at hr'
   obtain ⟨l,hl,he⟩:=hr';exact ⟨_,_,s,ρ,w,.inl (by simp only[execOp,he];rfl),by rw[← he];exact hr,Go1.refl hR,h⟩
  ·exact h.elim
 case binOp op t x y ty=>exact .val hR rfl (fun v hv=>hv) (xKP h (hF.ev x) (hF.ev y) w)
 case unOp op t x=>
  obtain ⟨v,h1,v',h2,h3⟩:=eun_sound (P:=P) h (hF.ev x) w;exact .val hR rfl (fun v hv=>hv) ⟨v,h1,v',h2 ρ,h3⟩
 case convert src dst x=>
  split at h
  ·exact .val hR rfl (fun v hv=>hv) (xKK h (hF.ev x) w)
  ·split at h
   ·exact .run rfl (b2s_sound h hR (hF.ev x))
   ·exact h ρ w a _ rfl hR (VRs.cons (hF.ev x) VRs.nil)
 case slice t x lo hi mx=>
  split at h
  ·rename_i i hi;exact .run rfl (xWB hi h hR (hF.ev x) (hF.opt lo) (hF.opt _) (hF.opt mx))
  ·exact h.elim
 case fieldAddr t x f=>
  split at h
  ·rename_i i hi;exact .run rfl (yJX hi h hR (hF.ev x))
  ·exact h.elim
 case field t x f=>
  split at h
  ·rename_i i hi;exact .val hR rfl (fun v hv=>hv) (xWP hi h (hF.ev x) w)
  ·exact h.elim
 case indexAddr t x ix=>
  split at h
  ·rename_i i hi;exact .run rfl (yJW hi h hR (hF.ev x) (hF.ev ix))
  ·exact h.elim
 case index t x ix=>
  split at h
  ·rename_i i hi;exact .val hR rfl (fun v hv=>hv) (xWY hi h (hF.ev x) (hF.ev ix) w)
  ·exact h.elim
 case makeInterface t x=>
  split at h
  ·rename_i i hi
   obtain ⟨inf,d,z,T⟩:=zQG hi
   split at h
   ·exact h.elim
   ·rename_i hne
    refine ⟨_,.iface t (a.eval x),s,ρ,w,.inl ?_,by rw[VR];exact ⟨_,rfl,hF.ev x⟩,Go1.refl hR,h⟩;have:∀ ms,d ≠ .interface ms:=fun ms e=>hne (by rw[T.u,e];rfl)
    simp only[execOp,Instr.makeInterface,Sem.run_bind,T.run_und w,Result.andThen_ok]
    cases d<;>first|rfl|exact absurd rfl (this _)
  ·exact h.elim
 case makeFunc f first cap=>
  refine ⟨_,.func f (first.map a.eval) (cap.map a.eval),s,ρ,w,.inl rfl,?_,Go1.refl hR,h⟩;rw[VR];exact ⟨_,_,rfl,by simpa using hF.args first.toList,by simpa using hF.args cap.toList⟩
 case extract x n=>exact .val hR rfl (fun v hv=>hv) (ySS h (hF.ev x) w)
 case call c=>
  obtain ⟨callee,args,ts⟩:=c
  cases callee with
  | value f=>simp[yHQ] at hc
  | invoke r m=>simp[yHQ] at hc
  | builtin b=>
    simp only[yTW] at h
    have hargs:=hF.args args.toList;have hm:(args.toList.map a.eval)=(args.map a.eval).toList:=by simp
    cases hown:hereB b with
    | false=>
      simp only[hown] at h
      exact h ρ w a _ rfl hR (by simpa [Op.operands,Call.operands] using hargs)
    | true=>
    simp only[hown] at h
    clear hown;rw[hm] at hargs
    unfold zSK at h
    split at h
    ·rename_i t tr x xr e1 e2
     split at h
     ·rename_i i hi
      have ht:ts[0]? = some t:=by rw[← Array.getElem?_toList,e1];rfl
      rw[e2,VRs] at hargs
      obtain ⟨x',l',hx1,hx2,hx3⟩:=hargs;have hx0:(args.map a.eval)[0]? = some x':=by rw[← Array.getElem?_toList,hx1];rfl
      exact .val hR (m:=Builtin.len_ ts type (args.map a.eval)) rfl (fun v hv=>hv) (elen_sound hi h hR hx2 ts ht type _ hx0)
     ·exact h.elim
    ·rename_i x xr e2
     rw[e2,VRs] at hargs
     obtain ⟨x',l',hx1,hx2,hx3⟩:=hargs;refine .val hR (m:=Builtin.min_ ts type (args.map a.eval)) rfl (fun v hv=>hv) ?_;obtain ⟨v,a1,v',a2,a3⟩:=yHJ (P:=P) h hx2 hx3 w;exact ⟨v,a1,v',a2,by simp only[Builtin.min_,hx1];exact a3⟩
    ·rename_i x xr e2
     rw[e2,VRs] at hargs
     obtain ⟨x',l',hx1,hx2,hx3⟩:=hargs;refine .val hR (m:=Builtin.max_ ts type (args.map a.eval)) rfl (fun v hv=>hv) ?_;obtain ⟨v,a1,v',a2,a3⟩:=yHY (P:=P) h hx2 hx3 w;exact ⟨v,a1,v',a2,by simp only[Builtin.max_,hx1];exact a3⟩
    ·exact h.elim
end
section
mutual
def EV.bel (k:Nat):EV→Prop
 | .ptr (some a)=>a.b<k
 | .slice (some a) _ _=>a.b<k
 | .map (some r)=>r<k
 | .fn _ as bs=>zQX k as∧zQX k bs
 | .iface _ v=>EV.bel k v
 | .agg cs=>zQX k cs
 | .tuple cs=>zQX k cs
 | _=>True
def zQX (k:Nat):List EV→Prop
 | []=>True
 | v::vs=>EV.bel k v∧zQX k vs
end
def zVH (k:Nat):List (EV × EV)→Prop
 | []=>True
 | (x,y)::r=>x.bel k∧y.bel k∧zVH k r
def EO.bel (k:Nat):EO→Prop
 | .cells c _ _ _ _=>zQX k c
 | .map es=>zVH k es
 | .sIter _ _=>True
 | .raw _ _=>True
 | .rng _ tl _ _ _=>zQX k tl
def blBelow (k:Nat):List (Nat × EO)→Prop
 | []=>True
 | (b,o)::r=>b<k∧o.bel k∧blBelow k r
def Env.cut (ρ:Env) (k:Nat):Env:=fun i=>if i<k then ρ i else none
theorem Env.cut_lt {ρ:Env} {k i:Nat} (h:i<k):ρ.cut k i=ρ i:=if_pos h
mutual
theorem VR.cut {ρ:Env} {k:Nat}:∀ (v:EV) (v':Value),VR ρ v v'→v.bel k→VR (ρ.cut k) v v'
 | .unk,_,_,_=>by simp[VR]
 | .bool _,_,x,_=>by simpa [VR] using x
 | .int _ _,_,x,_=>by simpa [VR] using x
 | .str _,_,x,_=>by simpa [VR] using x
 | .ptr none,_,x,_=>by simpa [VR] using x
 | .ptr (some a),_,x,h=>by
   simp only[EV.bel] at h
   simp only[VR] at x ⊢
   rw[Env.cut_lt h];exact x
 | .slice none _ _,_,x,_=>by simpa [VR] using x
 | .slice (some a) _ _,_,x,h=>by
   simp only[EV.bel] at h
   simp only[VR] at x ⊢
   rw[Env.cut_lt h];exact x
 | .map none,_,x,_=>by simpa [VR] using x
 | .map (some r),_,x,h=>by
   simp only[EV.bel] at h
   simp only[VR] at x ⊢
   rw[Env.cut_lt h];exact x
 | .fn _ as bs,_,x,h=>by
   simp only[EV.bel] at h
   simp only[VR] at x ⊢
   obtain ⟨as',bs',a,b,c⟩:=x;exact ⟨as',bs',a,VRs.cut as _ b h.1,VRs.cut bs _ c h.2⟩
 | .nilFn,_,x,_=>by simpa [VR] using x
 | .iface _ y,_,x,h=>by
   simp only[EV.bel] at h
   simp only[VR] at x ⊢
   obtain ⟨z,a,b⟩:=x;exact ⟨z,a,VR.cut y z b h⟩
 | .nilIface,_,x,_=>by simpa [VR] using x
 | .agg cs,_,x,h=>by
   simp only[EV.bel] at h
   simp only[VR] at x ⊢
   obtain ⟨cs',a,b⟩:=x;exact ⟨cs',a,VRs.cut cs _ b h⟩
 | .tuple cs,_,x,h=>by
   simp only[EV.bel] at h
   simp only[VR] at x ⊢
   obtain ⟨cs',a,b⟩:=x;exact ⟨cs',a,VRs.cut cs _ b h⟩
theorem VRs.cut {ρ:Env} {k:Nat}:∀ (v:List EV) (v':List Value),VRs ρ v v'→zQX k v→VRs (ρ.cut k) v v'
 | [],_,x,_=>by simpa [VRs] using x
 | v::vs,_,x,h=>by
   simp only[zQX] at h
   simp only[VRs] at x ⊢
   obtain ⟨v',l',a,b,c⟩:=x;exact ⟨v',l',a,VR.cut v v' b h.1,VRs.cut vs l' c h.2⟩
end
theorem zHK {k:Nat}:∀ {l:List EV} (_:zQX k l) {i:Nat} {v:EV},l[i]? = some v→v.bel k
 | [],_,i,v,h=>by simp at h
 | x::l,ha,i,v,h=>by
   simp only[zQX] at ha
   cases i with
   | zero=>simp at h;subst h;exact ha.1
   | succ i=>exact zHK ha.2 (by simpa using h)
theorem zTZ {k:Nat}:∀ {l:List EV},(∀ v∈l,v.bel k)→zQX k l
 | [],_=>by simp[zQX]
 | x::l,h=>by simp only[zQX];exact ⟨h x (by simp),zTZ fun v hv=>h v (by simp[hv])⟩
theorem zPW {k:Nat}:∀ {l:List (EV × EV)} (_:zVH k l) {i:Nat} {x y:EV},l[i]? = some (x,y)→x.bel k∧y.bel k
 | [],_,i,x,y,h=>by simp at h
 | (a,b)::l,ha,i,x,y,h=>by
   simp only[zVH] at ha
   cases i with
   | zero=>simp at h;obtain ⟨rfl,rfl⟩:=h;exact ⟨ha.1,ha.2.1⟩
   | succ i=>exact zPW ha.2.2 (by simpa using h)
theorem zKW {k:Nat}:∀ {l:List (Nat × EO)} (_:blBelow k l) {b:Nat} {o:EO},lkp l b=some o→b<k∧o.bel k
 | [],_,b,o,h=>by simp[lkp] at h
 | (c,x)::l,ha,b,o,h=>by
   simp only[blBelow] at ha
   simp only[lkp] at h
   split at h
   ·rename_i hc;subst hc;cases h;exact ⟨ha.1,ha.2.1⟩
   ·exact zKW ha.2.2 h
theorem BR.cut {ρ:Env} {w:World} {l:Loc} {o:EO} {k:Nat} (h:BR ρ w l o) (hb:o.bel k):BR (ρ.cut k) w l o:=by
 cases o with
 | cells c t z wr fz=>
   obtain ⟨h1,h2,h3,h4,cs,fr,h5,h6,h7,h8⟩:=h;exact ⟨h1,h2,h3,h4,cs,fr,h5,h6,fun i v hi=>let ⟨v',a,b⟩:=h7 i v hi;⟨v',a,b.cut _ _ (zHK hb hi)⟩,h8⟩
 | map es=>
   obtain ⟨es',cl,h1,h2,h3⟩:=h;exact ⟨es',cl,h1,h2,fun i k v hi=>let ⟨e,a,b,c⟩:=h3 i k v hi;⟨e,a,b.cut _ _ (zPW hb hi).1,c.cut _ _ (zPW hb hi).2⟩⟩
 | sIter s p=>exact h
 | raw id o=>exact h
 | rng id tl st pend cd=>obtain ⟨h1,fn,tm,dfr,h2,h3⟩:=h;exact ⟨h1,fn,tm,dfr,h2,VRs.cut _ _ h3 hb⟩
def Less (s0 s:ES):Prop:=(∀ b o,s0.get b=some o→s.get b=some o)∧blBelow s0.nx s0.bl∧s0.gl=s.gl
def KO (o:Oper) (fr:Fr) (next:Fr→ES→Prop):EV→ES→Prop:=fun v s=>zMY fr.n o.dst∧next (fr.putO o.dst v) s
def KP (Q:X→Fr→ES→Prop) (fr:Fr):EV→ES→Prop:=fun v s=>Q (.pan v) fr s
def zNS (L:List Oper) (j:Nat):Option Tmp:=match L[j]? with | some o=>o.dst | none=>none
def zZQ (P:Program) (o:Oper) (fr:Fr) (s:ES) (next:Fr→ES→Prop) (Q:X→Fr→ES→Prop):Prop:=eop P o.op fr s (KO o fr next) (KP Q fr)
def zJB (o:Oper) (fr:Fr) (s:ES) (next:Fr→ES→Prop):Prop:=zMY fr.n o.dst∧next (fr.putO o.dst zVP) s
def xRP (P:Program) (L:List Oper) (Q:X→Fr→ES→Prop):List Oper→Fr→ES→Prop
 | [],fr,s=>Q .normal fr s
 | o::rest,fr,s=>match o.guard with
   | none=>eop P o.op fr s (KO o fr (xRP P L Q rest)) (KP Q fr)
   | some (j,want)=>match zNS L j with
     | none=>False
     | some t=>match fr.lk t with
       | .bool b=>zFG b want (zZQ P o (fr.put t (.bool want)) s (xRP P L Q rest) Q) (zJB o (fr.put t (.bool !want)) s (xRP P L Q rest))
       | .tuple []=>zMY fr.n o.dst∧xRP P L Q rest (fr.putO o.dst zVP) s
       | _=>False
theorem zGH (r:Option Nat) (f:FuncId):(zPK r).fn f:=trivial
theorem FR.same {ρ:Env} {fr:Fr} {a:Act} (h:FR ρ fr a) (t:Nat) (v:EV) (hv:VR ρ v (a.tmps.getD t undef)):FR ρ (fr.put t v) a:=by
 refine ⟨h.defers,h.size,fun u=>?_⟩;simp only[Fr.put,Fr.lk,lkp]
 by_cases hu:t=u
 ·subst hu;simpa using hv
 ·simp only[hu,if_false];exact h.slot u
theorem xTN {P:Program} {ρ:Env} {s:ES} {w:World} {a:Act} {o:Oper} {K:EV→ES→Prop} (hd:∀ c,o.op ≠ .defer c) (h:OpRes P ρ s w a o K) (r:Option Nat) {next:Act→World→Prop} {Q:Exit→Act→World→Prop}
  (hn:∀ v v' s' ρ' w',VR ρ' v v'→Go1 ρ s w ρ' s' w'→K v s'→next (a.put o.dst v') w'):o.wpIn (zPK r) 0 P a w next Q:=by
 obtain ⟨v,v',s',ρ',w',hrun,h1,h2,h3⟩:=h;refine ⟨fun f _=>zGH r f,?_⟩;rw[Oper.semAt_eq _ _ _ hd]
 rcases hrun with hrun | ⟨hrun,rfl⟩
 ·rw[hrun];exact hn v v' s' ρ' w' h1 h2 h3
 ·rw[hrun];exact hn v _ s' ρ' w' h1 h2 h3
theorem eop_defer {P:Program} {op:Op} {fr:Fr} {s:ES} {K Kp:EV→ES→Prop} (h:eop P op fr s K Kp):∀ c,op ≠ .defer c:=by
 intro c hc;subst hc;simp[eop] at h
theorem yFV {r:Option Nat} {P:Program} {f:FuncId} {args:Array Value} {w:World} {R:Ending→World→Prop} (h:CallsIn (zPK none) 0 P f args w R):CallsIn (zPK r) 0 P f args w R:=by
 cases r with
 | none=>exact h
 | some l=>exact CallsIn.inRound l h
theorem yBX {P:Program} {k:Nat} {ρ0 ρ:Env} {s0 s:ES} {w0 w:World} {a:Act} {fr:Fr} {o:Oper} {Q:X→Fr→ES→Prop} {nextE:Fr→ES→Prop} (h:eop P o.op fr s (KO o fr nextE) (KP Q fr)) (r:Option Nat)
  (hG:GoK k ρ0 s0 w0 ρ s w) (hF:FR ρ fr a) {next:Act→World→Prop}
  (hn:∀ fr' s' ρ' w' a',GoK k ρ0 s0 w0 ρ' s' w'→FR ρ' fr' a'→nextE fr' s'→next a' w'):o.wpIn (zPK r) 0 P a w next (CPost k ρ0 s0 w0 Q):=by
 have hR:=hG.rel;have hd:=eop_defer h
 by_cases hc:yHQ o.op=true
 ·obtain ⟨dst,op,type,pos,after,guard⟩:=o;simp only at h hc hd
  cases op<;>simp[yHQ] at hc
  rename_i c
  obtain ⟨callee,args,ts⟩:=c
  cases callee with
  | builtin b=>simp at hc
  | invoke x m=>simp[eop,yTW] at h
  | value f=>
    simp only[eop,yTW] at h
    split at h
    ·rename_i g first cap hf
     have hfr:=hF.ev f;rw[hf,VR] at hfr
     obtain ⟨first',cap',hfv,h1,h2⟩:=hfr;have hargs:VRs ρ (first++zMJ fr args.toList++cap) ((first' ++ args.map a.eval)++cap').toList:=by
      simp only[Array.toList_append,Array.toList_map];exact (h1.append (hF.args args.toList)).append h2
     have hcall:=h ρ w _ hR hargs;refine ⟨fun f _=>zGH r f,?_⟩;rw[Oper.semAt_eq _ _ _ hd];have hexec:(execOp a.eval { dst:=dst,op:=.call { callee:=.value f,args:=args,argTypes:=ts },type:=type,pos:=pos,after:=after,guard:=guard }).run P w=(callFunc g ((first' ++ args.map a.eval)++cap')).run P w:=by
      simp[execOp,resolve,hfv,Deferred.ofValue,invoke]
     rw[hexec];have hret:∀ (e:Ending) (w2:World),EPost ρ s w (KC (KO { dst:=dst,op:=.call { callee:=.value f,args:=args,argTypes:=ts },type:=type,pos:=pos,after:=after,guard:=guard } fr nextE) (KP Q fr)) e w2 →
       (match e with
        | .returned v=>next (a.put dst v) w2
        | .panicked chain=>CPost k ρ0 s0 w0 Q (.panic chain) a w2
        | .outgrown=>LetsOut (CPost k ρ0 s0 w0 Q)):=by
      rintro e w2 ⟨x,s',ρ',hret,hgo,hK⟩
      cases x with
      | ret v=>
        obtain ⟨v',rfl,hv⟩:=hret;exact hn _ s' ρ' w2 _ (hG.trans (hgo.toK hG.nx)) ((hF.mono hgo.le).put dst v v' hK.1 hv) hK.2
      | pan v=>
        obtain ⟨v',rfl,hv⟩:=hret;exact ⟨.pan v,fr,s',ρ',⟨v',rfl,hv⟩,hF.mono hgo.le,hG.trans (hgo.toK hG.nx),hK⟩
     split at hcall
     ·rename_i f' as' w1 hrun
      rw[hrun];refine ⟨fun h=>by simp[zPK,Fence.wide] at h,?_⟩;refine yFV (CallsIn.mono hcall fun e w2 hp=>?_);have:=hret e w2 hp
      cases e<;>exact this
     ·rename_i v' w1 hrun
      rw[hrun];exact hret (.returned v') w1 hcall
     ·exact hcall.elim
    ·rename_i l first cap hf
     have hfr:=hF.ev f;rw[hf,VR] at hfr
     obtain ⟨first',cap',hfv,h1,h2⟩:=hfr;have hargs:VRs ρ (first++zMJ fr args.toList) (first' ++ args.map a.eval).toList:=by
      simp only[Array.toList_append,Array.toList_map];exact h1.append (hF.args args.toList)
     have hcall:=h ρ w _ hR hargs;refine ⟨fun f _=>zGH r f,?_⟩;rw[Oper.semAt_eq _ _ _ hd];have hexec:(execOp a.eval { dst:=dst,op:=.call { callee:=.value f,args:=args,argTypes:=ts },type:=type,pos:=pos,after:=after,guard:=guard }).run P w=(Instr.yield l (first' ++ args.map a.eval)).run P w:=by
      simp[execOp,resolve,hfv,Deferred.ofValue,invoke]
     rw[hexec]
     split at hcall
     ·rename_i l' f' tm asg body w1 hrun
      rw[hrun];refine ⟨fun h=>by simp[zPK,Fence.wide] at h,?_⟩;have hcall':RoundIn (zPK r) 0 P l' f' tm asg body w1 _:=hcall;refine RoundIn.mono hcall' fun e w2 hp=>?_
      obtain ⟨x,s',ρ',hret,hgo,hK⟩:=hp
      cases x with
      | ret v=>
        obtain ⟨v',rfl,hv⟩:=hret;exact hn _ s' ρ' w2 _ (hG.trans (hgo.toK hG.nx)) ((hF.mono hgo.le).put dst v v' hK.1 hv) hK.2
      | pan v=>
        obtain ⟨v',rfl,hv⟩:=hret;exact ⟨.pan v,fr,s',ρ',⟨v',rfl,hv⟩,hF.mono hgo.le,hG.trans (hgo.toK hG.nx),hK⟩
     ·exact hcall.elim
    ·exact h.elim
 ·have hc':yHQ o.op=false:=by simpa using hc
  exact xTN hd (eop_sound h hc' hR hF) r fun v v' s' ρ' w' h1 h2 h3=>hn _ s' ρ' w' _ (hG.trans (h2.toK hG.nx)) ((hF.mono h2.le).put o.dst v v' h3.1 h1) h3.2
theorem yHV {P:Program} {k:Nat} {L:List Oper} {Q:X→Fr→ES→Prop} {ρ0:Env} {s0:ES} {w0:World} (r:Option Nat):∀ (l:List Oper) (fr:Fr) (s:ES) (ρ:Env) (w:World) (a:Act),xRP P L Q l fr s→GoK k ρ0 s0 w0 ρ s w→FR ρ fr a →
  wpListIn (zPK r) 0 P L.toArray (CPost k ρ0 s0 w0 Q) l a w
 | [],fr,s,ρ,w,a,h,hG,hF=>⟨.normal,fr,s,ρ,rfl,hF,hG,h⟩
 | o::rest,fr,s,ρ,w,a,h,hG,hF=>by
   simp only[xRP] at h
   simp only[wpListIn];have hnext:∀ fr' s' ρ' w' a',GoK k ρ0 s0 w0 ρ' s' w'→FR ρ' fr' a'→xRP P L Q rest fr' s'→wpListIn (zPK r) 0 P L.toArray (CPost k ρ0 s0 w0 Q) rest a' w':=
    fun fr' s' ρ' w' a' h1 h2 h3=>yHV r rest fr' s' ρ' w' a' h3 h1 h2
   cases hg:o.guard with
   | none=>
     simp only[hg] at h
     rw[if_pos (by simp[Region.wanted,hg])];exact yBX h r hG hF hnext
   | some jw=>
     obtain ⟨j,want⟩:=jw;simp only[hg] at h
     cases ht:zNS L j with
     | none=>simp[ht] at h
     | some t=>
       simp only[ht] at h
       have hy:((L.toArray[j]?).bind (·.dst))=some t:=by
        simp only[zNS] at ht
        split at ht
        ·rename_i oj hj;simp[hj,ht]
        ·cases ht
       have hslot:=hF.slot t
       split at h
       ·rename_i b hb
        rw[hb,VR] at hslot
        have hget:a.tmps[t]? = some (.bool b):=by
         rw[Array.getD_eq_getD_getElem?] at hslot
         cases hx:a.tmps[t]? with
         | none=>rw[hx] at hslot;simp[Go.undef] at hslot
         | some v=>rw[hx] at hslot;simpa using hslot
        have hyield:yielded L.toArray a.tmps j=some b:=by
         simp only[yielded,hy,Option.bind_some,hget]
        by_cases hbw:b=want
        ·subst hbw;rw[if_pos (by simp[Region.wanted,hg,hyield])];exact yBX (h.1 rfl) r hG (hF.same t (.bool b) (by rw[VR];exact hslot)) hnext
        ·rw[if_neg (by simp[Region.wanted,hg,hyield,hbw])];refine ⟨fun f _=>zGH r f,?_⟩;have hbn:b = !want:=by cases b<;>cases want<;>simp at hbw ⊢
         obtain ⟨h1,h2⟩:=h.2 hbn;exact hnext _ s ρ w _ hG ((hF.same t (.bool !want) (by rw[VR,hslot,hbn])).put o.dst zVP undef h1 VR.undef) h2
       ·rename_i hb
        rw[hb,VR] at hslot
        obtain ⟨cs',hcs,hnil⟩:=hslot;rw[VRs] at hnil
        have hyield:yielded L.toArray a.tmps j=none:=by
         simp only[yielded,hy,Option.bind_some];rw[Array.getD_eq_getD_getElem?] at hcs
         cases hx:a.tmps[t]? with
         | none=>rfl
         | some v=>rw[hx] at hcs;simp at hcs;subst hcs;rfl
        rw[if_neg (by simp[Region.wanted,hg,hyield])];exact ⟨fun f _=>zGH r f,hnext _ s ρ w _ hG (hF.put o.dst zVP undef h.1 VR.undef) h.2⟩
       ·exact h.elim
def yBQ (next:Fr→ES→Prop) (Q:X→Fr→ES→Prop):X→Fr→ES→Prop
 | .normal,fr,s=>next fr s
 | .exit i,fr,s=>Q (.exit i) fr s
 | .goto i,fr,s=>Q (.goto i) fr s
 | .ret,fr,s=>Q .ret fr s
 | .pan v,fr,s=>Q (.pan v) fr s
def InBlk (id:Nat) (Q:X→Fr→ES→Prop):X→Fr→ES→Prop
 | .exit i,fr,s=>if i=id then Q .normal fr s else Q (.exit i) fr s
 | .normal,fr,s=>Q .normal fr s
 | .goto i,fr,s=>Q (.goto i) fr s
 | .ret,fr,s=>Q .ret fr s
 | .pan v,fr,s=>Q (.pan v) fr s
def xKJ (P:Program) (k:Nat):Code→(X→Fr→ES→Prop)→Fr→ES→Prop
 | .skip,Q,fr,s=>Q .normal fr s
 | .label _,Q,fr,s=>Q .normal fr s
 | .ret,Q,fr,s=>Q .ret fr s
 | .exit i,Q,fr,s=>Q (.exit i) fr s
 | .goto i,Q,fr,s=>Q (.goto i) fr s
 | .region id ops d,Q,fr,s=>match d with
   | false=>xRP P ops.toList Q ops.toList fr s
   | true=>ESem P k (.region id ops true) Q fr s
 | .seq x y,Q,fr,s=>xKJ P k x (yBQ (xKJ P k y Q) Q) fr s
 | .cond c x y,Q,fr,s=>match ev fr c with
   | .bool b=>zFG b true (xKJ P k x Q fr s) (xKJ P k y Q fr s)
   | _=>False
 | .block id x,Q,fr,s=>xKJ P k x (InBlk id Q) fr s
 | .loop x,Q,fr,s=>ESem P k (.loop x) Q fr s
 | .scope x,Q,fr,s=>ESem P k (.scope x) Q fr s
 | .rangeFunc f ps x y,Q,fr,s=>ESem P k (.rangeFunc f ps x y) Q fr s
 | .refuse _,_,_,_=>False
theorem zKS {P:Program} {k:Nat}:∀ (c:Code) (Q:X→Fr→ES→Prop) (fr:Fr) (s:ES),xKJ P k c Q fr s→ESem P k c Q fr s
 | .skip,Q,fr,s,h=>fun hk r hr ρ w a hR hF=>wpIn_skip ⟨.normal,fr,s,ρ,rfl,hF,GoK.refl hR hk,h⟩
 | .label _,Q,fr,s,h=>fun hk r hr ρ w a hR hF=>wpIn_label ⟨.normal,fr,s,ρ,rfl,hF,GoK.refl hR hk,h⟩
 | .ret,Q,fr,s,h=>fun hk r hr ρ w a hR hF=>wpIn_ret ⟨.ret,fr,s,ρ,rfl,hF,GoK.refl hR hk,h⟩
 | .exit i,Q,fr,s,h=>fun hk r hr ρ w a hR hF=>wpIn_exit ⟨.exit i,fr,s,ρ,rfl,hF,GoK.refl hR hk,h⟩
 | .goto i,Q,fr,s,h=>fun hk r hr ρ w a hR hF=>wpIn_goto ⟨.goto i,fr,s,ρ,rfl,hF,GoK.refl hR hk,h⟩
 | .region id ops d,Q,fr,s,h=>by
   cases d with
   | true=>exact h
   | false=>
     intro hk r hr ρ w a hR hF;have:=yHV (P:=P) (L:=ops.toList) (Q:=Q) r ops.toList fr s ρ w a h (GoK.refl hR hk) hF;exact wpIn_region_list (by simpa using this)
 | .seq x y,Q,fr,s,h=>fun hk r hr ρ w a hR hF=>by
   refine wpIn_seq (wpIn_mono (zKS x _ fr s h hk r hr.seq1 ρ w a hR hF) ?_)
   rintro e a' w' ⟨ex,fr',s',ρ',hx,hF',hG,hQ⟩
   cases ex with
   | normal=>
     cases hx
     exact wpIn_mono (zKS y Q fr' s' hQ hG.nx r hr.seq2 ρ' w' a' hG.rel hF') fun e a w h=>CPost.trans hG h
   | exit i=>cases hx;exact ⟨.exit i,fr',s',ρ',rfl,hF',hG,hQ⟩
   | goto i=>cases hx;exact ⟨.goto i,fr',s',ρ',rfl,hF',hG,hQ⟩
   | ret=>cases hx;exact ⟨.ret,fr',s',ρ',rfl,hF',hG,hQ⟩
   | pan v=>obtain ⟨v',rfl,hv⟩:=hx;exact ⟨.pan v,fr',s',ρ',⟨v',rfl,hv⟩,hF',hG,hQ⟩
 | .cond c x y,Q,fr,s,h=>fun hk r hr ρ w a hR hF=>by
   simp only[xKJ] at h
   split at h
   ·rename_i b hb
    have hc:=hF.ev c;rw[hb,VR] at hc
    cases b with
    | true=>exact wpIn_cond_true hc (zKS x Q fr s (h.1 rfl) hk r hr.cond1 ρ w a hR hF)
    | false=>exact wpIn_cond_false hc (zKS y Q fr s (h.2 rfl) hk r hr.cond2 ρ w a hR hF)
   ·exact h.elim
 | .block id x,Q,fr,s,h=>fun hk r hr ρ w a hR hF=>by
   refine wpIn_block (wpIn_mono (zKS x _ fr s h hk r hr.block ρ w a hR hF) ?_)
   rintro e a' w' ⟨ex,fr',s',ρ',hx,hF',hG,hQ⟩
   cases ex with
   | normal=>cases hx;exact ⟨.normal,fr',s',ρ',rfl,hF',hG,hQ⟩
   | exit i=>
     cases hx
     simp only[InBlk] at hQ
     simp only[Exit.inBlock]
     split at hQ
     ·rename_i hi;rw[if_pos hi];exact ⟨.normal,fr',s',ρ',rfl,hF',hG,hQ⟩
     ·rename_i hi;rw[if_neg hi];exact ⟨.exit i,fr',s',ρ',rfl,hF',hG,hQ⟩
   | goto i=>cases hx;exact ⟨.goto i,fr',s',ρ',rfl,hF',hG,hQ⟩
   | ret=>cases hx;exact ⟨.ret,fr',s',ρ',rfl,hF',hG,hQ⟩
   | pan v=>obtain ⟨v',rfl,hv⟩:=hx;exact ⟨.pan v,fr',s',ρ',⟨v',rfl,hv⟩,hF',hG,hQ⟩
 | .loop x,Q,fr,s,h=>h
 | .scope x,Q,fr,s,h=>h
 | .rangeFunc f ps x y,Q,fr,s,h=>h
 | .refuse _,_,_,_,h=>h.elim
theorem least {p:Nat→Prop} (h:∃ n,p n):∃ n,p n∧∀ m,p m→n≤m:=by
 obtain ⟨n,hn⟩:=h
 induction n using Nat.strongRecOn with
 | _ n ih=>
   by_cases hm:∃ m,m<n∧p m
   ·obtain ⟨m,h1,h2⟩:=hm;exact ih m h1 h2
   ·exact ⟨n,hn,fun m hpm=>Nat.le_of_not_lt fun hlt=>hm ⟨m,hlt,hpm⟩⟩
open Classical in
noncomputable def yZM (p:Nat→Prop):Nat:=if h:∃ n,p n then Classical.choose (least h) else 0
theorem zPR {p:Nat→Prop} {n:Nat} (h:p n):p (yZM p)∧yZM p≤n:=by
 have hex:∃ n,p n:=⟨n,h⟩;have:=Classical.choose_spec (least hex);unfold yZM;rw[dif_pos hex];exact ⟨this.1,this.2 n h⟩
def Fr.weak (fr' fr:Fr):Prop:=(fr'.n,fr'.ds)=(fr.n,fr.ds)∧fr'.d=.unk∧∀ t v,lkp fr'.m t=some v→fr.lk t=v
theorem FR.weak {ρ:Env} {fr fr':Fr} {a:Act} (h:FR ρ fr a) (hw:fr'.weak fr):FR ρ fr' a:=by
 refine ⟨by rw[h.defers];exact ((Prod.mk.inj hw.1).2).symm,by rw[h.size];exact ((Prod.mk.inj hw.1).1).symm,fun t=>?_⟩;have ht:=h.slot t;unfold Fr.lk
 cases hl:lkp fr'.m t with
 | none=>simp only[hw.2.1,VR]
 | some v=>rw[hw.2.2 t v hl] at ht;exact ht
def zWP (k:Nat):List (Nat × EV)→Prop
 | []=>True
 | (_,v)::r=>v.bel k∧zWP k r
theorem yWM {k:Nat}:∀ {l:List (Nat × EV)} (_:zWP k l) {t:Nat} {v:EV},lkp l t=some v→v.bel k
 | [],_,t,v,h=>by simp[lkp] at h
 | (c,x)::l,ha,t,v,h=>by
   simp only[zWP] at ha
   simp only[lkp] at h
   split at h
   ·cases h;exact ha.1
   ·exact yWM ha.2 h
theorem FR.cut {ρ:Env} {fr:Fr} {a:Act} {k:Nat} (h:FR ρ fr a) (hb:zWP k fr.m) (hd:fr.d=.unk∨fr.d=zVP):FR (ρ.cut k) fr a:=by
 refine ⟨h.defers,h.size,fun t=>?_⟩;have ht:=h.slot t;unfold Fr.lk at ht ⊢
 cases hl:lkp fr.m t with
 | none=>
   rw[hl] at ht
   rcases hd with hd | hd
   ·simp only[hd,VR]
   ·simp only[hd] at ht ⊢
    exact ht.cut _ _ (by simp[zVP,EV.bel,zQX])
 | some v=>rw[hl] at ht;exact ht.cut _ _ (yWM hb hl)
theorem GoK.less {k:Nat} {ρ ρ':Env} {s s':ES} {w w':World} (h:GoK k ρ s w ρ' s' w') (s0:ES) (hl:Less s0 s') (hnx:k≤s0.nx):GoK k ρ s w (ρ'.cut s0.nx) s0 w':=by
 have hc:∀ b l,ρ'.cut s0.nx b=some l→b<s0.nx∧ρ' b=some l:=by
  intro b l hb;unfold Env.cut at hb
  split at hb
  ·exact ⟨by assumption,hb⟩
  ·cases hb
 refine ⟨⟨?_,?_,?_,fun b o hg=>?_⟩,fun i hi=>?_,hnx,fun b hb hn=>?_,h.step,?_,hl.2.2.trans h.gl,h.was⟩
 ·intro b o l hg hr;exact (h.rel.live b o l (hl.1 b o hg) (hc b l hr).2).cut (zKW hl.2.1 (ES.get_lt hg).2).2
 ·intro i hi;exact if_neg (by omega)
 ·intro b b' o o' l l' hg hg' hr hr' hne hw;exact h.rel.sep b b' o o' l l' (hl.1 b o hg) (hl.1 b' o' hg') (hc b l hr).2 (hc b' l' hr').2 hne hw
 ·obtain ⟨l,hr⟩:=h.rel.dom b o (hl.1 b o hg);exact ⟨l,by rw[Env.cut_lt (ES.get_lt hg).1];exact hr⟩
 ·rw[Env.cut_lt (by omega)];exact h.old i hi
 ·cases hx:s0.get b with
  | none=>rfl
  | some o=>
    have:=h.gone b hb hn;rw[hl.1 b o hx] at this
    cases this
 ·intro b o l hg hr;exact h.src b o l (hl.1 b o hg) (hc b l hr).2
theorem esem_anew {P:Program} {k:Nat} {c:Code} {Q:X→Fr→ES→Prop} {fr fr':Fr} {s s':ES} (h:ESem P k c Q fr' s') (hw:fr'.weak fr) (hb:zWP s'.nx fr'.m) (hl:Less s' s) (hnx:k≤s'.nx):ESem P k c Q fr s:=by
 intro hk r hr ρ w a hR hF;have hG:=(GoK.refl hR hk).less s' hl hnx;exact wpIn_mono (h hnx r hr _ w a hG.rel ((hF.weak hw).cut hb (.inl hw.2.1))) fun e a w h=>CPost.trans hG h
end
section
def yMY (P:Program) (rv:ResultVar) (fr:Fr) (s:ES) (K:EV→Prop):Prop:=
 match rv with
 | .tmp t=>K (fr.lk t)
 | .cell t ty=>match zXZ P ty with
   | some i=>yMP i (fr.lk t) s K
   | none=>False
def zSV (P:Program) (fr:Fr) (s:ES):List ResultVar→(List EV→Prop)→Prop
 | [],K=>K []
 | r::rs,K=>yMY P r fr s fun v=>zSV P fr s rs fun vs=>K (v::vs)
def yNX:List EV→EV
 | [v]=>v
 | vs=>.tuple vs
def yDK (tmps:Array Value):ResultVar→Sem Value
 | .tmp t=>pure (tmps.getD t undef)
 | .cell a t=>do loadVar t (← asAddr (tmps.getD a undef))
theorem zHR {P:Program} {fr:Fr} {s:ES} {ρ:Env} {w:World} {a:Act} (hR:Rel ρ s w) (hF:FR ρ fr a):∀ (rs:List ResultVar) (K:List EV→Prop),zSV P fr s rs K →
  ∃ vs,K vs∧∃ vs',VRs ρ vs vs'∧(rs.mapM (m:=Sem) (yDK a.tmps)).run P w=.ok vs' w
 | [],K,h=>⟨[],h,[],VRs.nil,rfl⟩
 | r::rs,K,h=>by
   simp only[zSV] at h
   obtain ⟨v,h1,v',h2,h3⟩:∃ v,(zSV P fr s rs fun vs=>K (v::vs))∧∃ v',VR ρ v v'∧(yDK a.tmps r).run P w=.ok v' w:=by
    cases r with
    | tmp t=>exact ⟨_,h,_,hF.slot t,rfl⟩
    | cell t ty=>
      simp only[yMY] at h
      split at h
      ·rename_i i hi
       obtain ⟨v,a1,v',a2,a3,x,a4⟩:=yTX hi h hR (hF.slot t);refine ⟨v,a1,v',a2,?_⟩;rw[a4] at a3
       simp only[yDK,a4]
       simpa [Instr.loadAt,Instr.sureAddr,asAddr] using a3
      ·exact h.elim
   obtain ⟨vs,k1,vs',k2,k3⟩:=zHR hR hF rs _ h1;refine ⟨v::vs,k1,v' :: vs',VRs.cons h2 k2,?_⟩;simp only[List.mapM_cons,Sem.run_bind,h3,Result.andThen_ok,k3,Sem.run_pure]
theorem yYB {P:Program} {fn:Func} {tmps:Array Value} {w:World} {vs':List Value} (h:(fn.results.toList.mapM (m:=Sem) (yDK tmps)).run P w=.ok vs' w) :
  (results fn tmps).run P w=.ok (if h:vs'.toArray.size=1 then vs'.toArray[0] else .tuple vs'.toArray) w:=by
 have:(results fn tmps)=(do let vs ← fn.results.mapM (yDK tmps);pure (if h:vs.size=1 then vs[0] else .tuple vs)):=by
  unfold results
  congr 1
 rw[this,Array.mapM_eq_mapM_toList];simp only[Sem.run_bind,Sem.run_map,h,Result.andThen_ok,Sem.run_pure]
theorem yDD {ρ:Env} {vs:List EV} {vs':List Value} (h:VRs ρ vs vs'):VR ρ (yNX vs) (if h:vs'.toArray.size=1 then vs'.toArray[0] else .tuple vs'.toArray):=by
 rcases vs with _ | ⟨v,_ | ⟨u,r⟩⟩
 ·rw[VRs] at h;subst h;simp[yNX,VR,VRs]
 ·rw[VRs] at h
  obtain ⟨v',l',rfl,h1,h2⟩:=h;rw[VRs] at h2;subst h2
  simpa [yNX] using h1
 ·have hl:=h.length;rw[dif_neg (by simp[hl])];simp only[yNX,VR];exact ⟨_,rfl,by simpa using h⟩
def xXM (k:Nat) (Q:ER→ES→Prop) (v:ER) (s:ES):Prop:=∃ s0:ES,Less s0 s∧k≤s0.nx∧(match v with | .ret v=>v.bel s0.nx | .pan v=>v.bel s0.nx)∧Q v s0
def yKZ:List Deferred→ES→(ES→Prop)→Prop
 | [],s,K=>K s
 | d::ds,s,K=>∃ b D,d = { target:=.collected D,args:=#[] }∧s.get b=some (.raw D (.deferred (some [])))∧yKZ ds (s.kill b) K
def xJR (P:Program) (rs:List ResultVar) (k:Nat) (Q:ER→ES→Prop):X→Fr→ES→Prop
 | .normal,fr,s=>yKZ fr.ds s fun s=>zSV P fr s rs fun vs=>xXM k Q (.ret (yNX vs)) s
 | .ret,fr,s=>yKZ fr.ds s fun s=>zSV P fr s rs fun vs=>xXM k Q (.ret (yNX vs)) s
 | .pan v,fr,s=>yKZ fr.ds s fun s=>xXM k Q (.pan v) s
 | .exit _,_,_=>False
 | .goto _,_,_=>False
theorem GoK.spoil {k:Nat} {ρ ρ':Env} {s s':ES} {w w':World} (h:GoK k ρ s w ρ' s' w') {b id:Nat} {o o2:Obj} (hg:s'.get b=some (.raw id o)):GoK k ρ s w ρ' (s'.kill b) (w'.putObj id o2)∧w'.heap[id]? = some o:=by
 obtain ⟨l,hl⟩:=h.rel.dom b _ hg;have hbr:=h.rel.live b _ l hg hl;obtain ⟨rfl,hh⟩:=hbr;have h1:=h.rel.turn0 (w':=w'.putObj l.r o2) b _ (.raw l.r o2) l hg hl rfl rfl rfl rfl World.putObj_size (fun r hr=>World.putObj_heap_other hr) ⟨rfl,World.putObj_heap_same (Array.getElem?_eq_some_iff.1 hh).1⟩;refine ⟨(h.trans (h1.toK h.nx)).trans ((Rel.less (s':=s'.kill b) h1.rel (fun c o hc=>?_) (Nat.le_refl _) rfl).toK h.nx),hh⟩;rw[ES.get_kill] at hc
 rw[ES.get_set]
 split at hc
 ·cases hc
 ·rename_i hne;rw[if_neg hne];exact hc
theorem zTR {P:Program} {F:Fence} {n k:Nat} {fn:Func} {tmps:Array Value} {R:Ending→World→Prop} {ρ ρ':Env} {s:ES} {w:World} {u:FrameMode} (hu:u ≠ .run):∀ (ds:List Deferred) (s':ES) (w':World) (K:ES→Prop),yKZ ds s' K→GoK k ρ s w ρ' s' w' →
  (∀ s2 w2,GoK k ρ s w ρ' s2 w2→K s2→LeavesIn F n P fn tmps R [] u w2)→LeavesInM F n P fn tmps R ds u w'
 | [],s',w',K,h,hG,hK=>hK s' w' hG h
 | d::ds,s',w',K,h,hG,hK=>by
   obtain ⟨b,D,rfl,h2,h3⟩:=h;obtain ⟨g1,g2⟩:=hG.spoil (o2:=.deferred none) h2;exact ⟨hu,.inl ⟨D,_,rfl,run_takeDeferred g2,zTR hu ds _ _ K h3 g1 hK⟩⟩
def yST:Nat→List EV→List (Nat × EV)
 | _,[]=>[]
 | i,v::vs=>(i,v)::yST (i+1) vs
theorem xWJ:∀ (l:List EV) (i t:Nat),lkp (yST i l) t=if i≤t then l[t - i]? else none
 | [],i,t=>by simp[yST,lkp]
 | v::l,i,t=>by
   simp only[yST,lkp,xWJ l (i+1) t]
   by_cases h:i=t
   ·subst h;simp
   ·rw[if_neg h]
    by_cases h2:i+1≤t
    ·rw[if_pos h2,if_pos (by omega),show t - i=(t - (i+1))+1 by omega];simp
    ·rw[if_neg h2,if_neg (by omega)]
theorem FR.enter {ρ:Env} {args:List EV} {args':Array Value} (h:VRs ρ args args'.toList) (n:Nat) (hn:args.length≤n):FR ρ ⟨yST 0 args,zVP,n,[]⟩ { tmps:=args' ++ Array.replicate (n - args'.size) undef,defers:=[] }:=by
 have hl:args'.size=args.length:=by have:=h.length;simpa using this
 refine ⟨rfl,by simp;omega,fun t=>?_⟩;simp only[Fr.lk,xWJ,Nat.zero_le,if_true,Nat.sub_zero];rw[Array.getD_eq_getD_getElem?]
 cases hv:args[t]? with
 | none=>
   have:args.length≤t:=by
    rcases Nat.lt_or_ge t args.length with h1 | h1
    ·simp[h1] at hv
    ·exact h1
   rw[Array.getElem?_append_right (by omega)];have:((Array.replicate (n - args'.size) undef)[t - args'.size]?).getD undef=undef:=by
    simp only[Array.getElem?_replicate];split<;>rfl
   rw[this];exact VR.undef
 | some v=>
   obtain ⟨v',h1,h2⟩:=h.get t v hv;have hlt:t<args'.size:=by
    have:=(List.getElem?_eq_some_iff.1 hv).1;omega
   rw[Array.getElem?_append_left hlt];have:args'[t]? = some v':=by simpa using h1
   rw[this];exact h2
theorem xVF {P:Program} {fn:Func} {ρ ρ':Env} {s s':ES} {w w':World} {Q:ER→ES→Prop} {fr':Fr} {a:Act} {x:X} {e:Exit} (hF:FR ρ' fr' a) (hG:GoK s.nx ρ s w ρ' s' w') (hx:XR ρ' x e) (hQ:xJR P fn.results.toList s.nx Q x fr' s') :
  bodyPostM (zPK none) 0 P fn (EPost ρ s w Q) e a w':=by
 have hR:=hG.was;have hdone:∀ (s':ES) (w':World) v' (vs:EV),GoK s.nx ρ s w ρ' s' w'→VR ρ' vs v'→xXM s.nx Q (.ret vs) s'→EPost ρ s w Q (.returned v') w':=by
  rintro s' w' v' vs hG hv ⟨s0,hl,hk,hb,hq⟩
  exact ⟨.ret vs,s0,_,⟨v',rfl,hv.cut _ _ hb⟩,(hG.less s0 hl hk).to1 hR,hq⟩
 have hres:(yKZ fr'.ds s' fun s'=>zSV P fr' s' fn.results.toList fun vs=>xXM s.nx Q (.ret (yNX vs)) s')→LeavesInM (zPK none) 0 P fn a.tmps (EPost ρ s w Q) a.defers .returning w':=by
  intro hr;rw[hF.defers];refine zTR (by simp) _ _ _ _ hr hG fun s2 w2 g2 hr2=>?_
  obtain ⟨vs,k1,vs',k2,k3⟩:=zHR (a:=a) g2.rel hF _ _ hr2;exact ⟨_,yYB k3,hdone _ _ _ _ g2 (yDD k2) k1⟩
 cases x with
 | normal=>cases hx;exact hres hQ
 | ret=>cases hx;exact hres hQ
 | exit i=>exact hQ.elim
 | goto i=>exact hQ.elim
 | pan v=>
   obtain ⟨v',rfl,hv⟩:=hx;show LeavesInM (zPK none) 0 P fn a.tmps (EPost ρ s w Q) a.defers (.panicking _) w';rw[hF.defers];refine zTR (by simp) _ _ _ _ hQ hG fun s2 w2 g2 hr2=>?_
   obtain ⟨s0,hl,hk,hb,hq⟩:=hr2;exact ⟨.pan v,s0,_,⟨v',rfl,hv.cut _ _ hb⟩,(g2.less s0 hl hk).to1 hR,hq⟩
end
section
mutual
def EV.ren (π:Nat→Nat):EV→EV
 | .unk=>.unk
 | .bool b=>.bool b
 | .int k n=>.int k n
 | .str s=>.str s
 | .ptr none=>.ptr none
 | .ptr (some a)=>.ptr (some ⟨π a.b,a.o⟩)
 | .slice none n c=>.slice none n c
 | .slice (some a) n c=>.slice (some ⟨π a.b,a.o⟩) n c
 | .map none=>.map none
 | .map (some r)=>.map (some (π r))
 | .fn f as bs=>.fn f (zZG π as) (zZG π bs)
 | .nilFn=>.nilFn
 | .iface t v=>.iface t (EV.ren π v)
 | .nilIface=>.nilIface
 | .agg cs=>.agg (zZG π cs)
 | .tuple cs=>.tuple (zZG π cs)
def zZG (π:Nat→Nat):List EV→List EV
 | []=>[]
 | v::vs=>EV.ren π v::zZG π vs
end
def xXF (π:Nat→Nat):List (EV × EV)→List (EV × EV)
 | []=>[]
 | (x,y)::r=>(x.ren π,y.ren π)::xXF π r
def EO.ren (π:Nat→Nat):EO→EO
 | .cells c t z wr fz=>.cells (zZG π c) t z wr fz
 | .map es=>.map (xXF π es)
 | .sIter s p=>.sIter s p
 | .raw id o=>.raw id o
 | .rng id tl st pend cd=>.rng id (zZG π tl) st pend cd
def ER.ren (π:Nat→Nat):ER→ER
 | .ret v=>.ret (v.ren π)
 | .pan v=>.pan (v.ren π)
theorem zDD (π:Nat→Nat):∀ l:List EV,(zZG π l).length=l.length
 | []=>rfl
 | v::l=>by simp[zZG,zDD π l]
theorem yBN (π:Nat→Nat):∀ (l:List EV) (i:Nat),(zZG π l)[i]? = (l[i]?).map (EV.ren π)
 | [],i=>by simp[zZG]
 | v::l,i=>by
   cases i with
   | zero=>simp[zZG]
   | succ i=>simp[zZG,yBN π l i]
theorem zDF (π:Nat→Nat):∀ l:List (EV × EV),(xXF π l).length=l.length
 | []=>rfl
 | (_,_)::l=>by simp[xXF,zDF π l]
theorem yBB (π:Nat→Nat):∀ (l:List (EV × EV)) (i:Nat),(xXF π l)[i]? = (l[i]?).map fun x=>(x.1.ren π,x.2.ren π)
 | [],i=>by simp[xXF]
 | (_,_)::l,i=>by
   cases i with
   | zero=>simp[xXF]
   | succ i=>simp[xXF,yBB π l i]
mutual
theorem VR.renTo {ρ ρ':Env} {π:Nat→Nat} (h:∀ i l,ρ i=some l→ρ' (π i)=some l):∀ (v:EV) (v':Value),VR ρ v v'→VR ρ' (v.ren π) v'
 | .unk,_,_=>by simp[EV.ren,VR]
 | .bool _,_,x=>by simpa [EV.ren,VR] using x
 | .int _ _,_,x=>by simpa [EV.ren,VR] using x
 | .str _,_,x=>by simpa [EV.ren,VR] using x
 | .ptr none,_,x=>by simpa [EV.ren,VR] using x
 | .ptr (some _),_,x=>by
   simp only[EV.ren,VR] at x ⊢
   obtain ⟨l,a,b⟩:=x;exact ⟨l,h _ _ a,b⟩
 | .slice none _ _,_,x=>by simpa [EV.ren,VR] using x
 | .slice (some _) _ _,_,x=>by
   simp only[EV.ren,VR] at x ⊢
   obtain ⟨l,c',o',a,b⟩:=x;exact ⟨l,c',o',h _ _ a,b⟩
 | .map none,_,x=>by simpa [EV.ren,VR] using x
 | .map (some _),_,x=>by
   simp only[EV.ren,VR] at x ⊢
   obtain ⟨l,a,b⟩:=x;exact ⟨l,h _ _ a,b⟩
 | .fn _ as bs,_,x=>by
   simp only[EV.ren,VR] at x ⊢
   obtain ⟨as',bs',a,b,c⟩:=x;exact ⟨as',bs',a,VRs.renTo h as _ b,VRs.renTo h bs _ c⟩
 | .nilFn,_,x=>by simpa [EV.ren,VR] using x
 | .iface _ y,_,x=>by
   simp only[EV.ren,VR] at x ⊢
   obtain ⟨z,a,b⟩:=x;exact ⟨z,a,VR.renTo h y z b⟩
 | .nilIface,_,x=>by simpa [EV.ren,VR] using x
 | .agg cs,_,x=>by
   simp only[EV.ren,VR] at x ⊢
   obtain ⟨cs',a,b⟩:=x;exact ⟨cs',a,VRs.renTo h cs _ b⟩
 | .tuple cs,_,x=>by
   simp only[EV.ren,VR] at x ⊢
   obtain ⟨cs',a,b⟩:=x;exact ⟨cs',a,VRs.renTo h cs _ b⟩
theorem VRs.renTo {ρ ρ':Env} {π:Nat→Nat} (h:∀ i l,ρ i=some l→ρ' (π i)=some l):∀ (v:List EV) (v':List Value),VRs ρ v v'→VRs ρ' (zZG π v) v'
 | [],_,x=>by simpa [zZG,VRs] using x
 | v::vs,_,x=>by
   simp only[zZG,VRs] at x ⊢
   obtain ⟨v',l',a,b,c⟩:=x;exact ⟨v',l',a,VR.renTo h v v' b,VRs.renTo h vs l' c⟩
end
mutual
theorem VR.renFrom {ρ ρ':Env} {π:Nat→Nat} {k:Nat} (h:∀ i,i<k→ρ i=ρ' (π i)):∀ (v:EV) (v':Value),VR ρ' (v.ren π) v'→v.bel k→VR ρ v v'
 | .unk,_,_,_=>by simp[VR]
 | .bool _,_,x,_=>by simpa [EV.ren,VR] using x
 | .int _ _,_,x,_=>by simpa [EV.ren,VR] using x
 | .str _,_,x,_=>by simpa [EV.ren,VR] using x
 | .ptr none,_,x,_=>by simpa [EV.ren,VR] using x
 | .ptr (some a),_,x,hb=>by
   simp only[EV.ren,VR,EV.bel] at x hb ⊢
   rw[h _ hb];exact x
 | .slice none _ _,_,x,_=>by simpa [EV.ren,VR] using x
 | .slice (some a) _ _,_,x,hb=>by
   simp only[EV.ren,VR,EV.bel] at x hb ⊢
   rw[h _ hb];exact x
 | .map none,_,x,_=>by simpa [EV.ren,VR] using x
 | .map (some _),_,x,hb=>by
   simp only[EV.ren,VR,EV.bel] at x hb ⊢
   rw[h _ hb];exact x
 | .fn _ as bs,_,x,hb=>by
   simp only[EV.ren,VR,EV.bel] at x hb ⊢
   obtain ⟨as',bs',a,b,c⟩:=x;exact ⟨as',bs',a,VRs.renFrom h as _ b hb.1,VRs.renFrom h bs _ c hb.2⟩
 | .nilFn,_,x,_=>by simpa [EV.ren,VR] using x
 | .iface _ y,_,x,hb=>by
   simp only[EV.ren,VR,EV.bel] at x hb ⊢
   obtain ⟨z,a,b⟩:=x;exact ⟨z,a,VR.renFrom h y z b hb⟩
 | .nilIface,_,x,_=>by simpa [EV.ren,VR] using x
 | .agg cs,_,x,hb=>by
   simp only[EV.ren,VR,EV.bel] at x hb ⊢
   obtain ⟨cs',a,b⟩:=x;exact ⟨cs',a,VRs.renFrom h cs _ b hb⟩
 | .tuple cs,_,x,hb=>by
   simp only[EV.ren,VR,EV.bel] at x hb ⊢
   obtain ⟨cs',a,b⟩:=x;exact ⟨cs',a,VRs.renFrom h cs _ b hb⟩
theorem VRs.renFrom {ρ ρ':Env} {π:Nat→Nat} {k:Nat} (h:∀ i,i<k→ρ i=ρ' (π i)):∀ (v:List EV) (v':List Value),VRs ρ' (zZG π v) v'→zQX k v→VRs ρ v v'
 | [],_,x,_=>by simpa [zZG,VRs] using x
 | v::vs,_,x,hb=>by
   simp only[zZG,VRs,zQX] at x hb ⊢
   obtain ⟨v',l',a,b,c⟩:=x;exact ⟨v',l',a,VR.renFrom h v v' b hb.1,VRs.renFrom h vs l' c hb.2⟩
end
theorem BR.renTo {ρ ρ':Env} {π:Nat→Nat} (h:∀ i l,ρ i=some l→ρ' (π i)=some l) {w:World} {l:Loc} {o:EO} (hb:BR ρ w l o):BR ρ' w l (o.ren π):=by
 cases o with
 | cells c t z wr fz=>
   obtain ⟨h1,h2,h3,h4,cs,fr,h5,h6,h7,h8⟩:=hb;refine ⟨by rw[zDD];exact h1,h2,h3,h4,cs,fr,h5,h6,fun i v hi=>?_,h8⟩;rw[yBN] at hi
   cases hc:c[i]? with
   | none=>simp[hc] at hi
   | some u=>
     simp[hc] at hi;subst hi
     obtain ⟨v',a,b⟩:=h7 i u hc;exact ⟨v',a,b.renTo h _ _⟩
 | map es=>
   obtain ⟨es',cl,h1,h2,h3⟩:=hb;refine ⟨es',cl,h1,by rw[zDF];exact h2,fun i k v hi=>?_⟩;rw[yBB] at hi
   cases hc:es[i]? with
   | none=>simp[hc] at hi
   | some u=>
     simp[hc] at hi
     obtain ⟨e,a,b,c⟩:=h3 i u.1 u.2 hc;rw[← hi.1,← hi.2];exact ⟨e,a,b.renTo h _ _,c.renTo h _ _⟩
 | sIter s p=>exact hb
 | raw id o=>exact hb
 | rng id tl st pend cd=>obtain ⟨h1,fn,tm,dfr,h2,h3⟩:=hb;exact ⟨h1,fn,tm,dfr,h2,VRs.renTo h _ _ h3⟩
theorem BR.renFrom {ρ ρ':Env} {π:Nat→Nat} {k:Nat} (h:∀ i,i<k→ρ i=ρ' (π i)) {w:World} {l:Loc} {o:EO} (hb:BR ρ' w l (o.ren π)) (hk:o.bel k):BR ρ w l o:=by
 cases o with
 | cells c t z wr fz=>
   obtain ⟨h1,h2,h3,h4,cs,fr,h5,h6,h7,h8⟩:=hb;refine ⟨by rw[zDD] at h1;exact h1,h2,h3,h4,cs,fr,h5,h6,fun i v hi=>?_,h8⟩;obtain ⟨v',a,b⟩:=h7 i (v.ren π) (by rw[yBN,hi];rfl);exact ⟨v',a,b.renFrom h _ _ (zHK hk hi)⟩
 | map es=>
   obtain ⟨es',cl,h1,h2,h3⟩:=hb;refine ⟨es',cl,h1,by rw[zDF] at h2;exact h2,fun i x y hi=>?_⟩;obtain ⟨e,a,b,c⟩:=h3 i (x.ren π) (y.ren π) (by rw[yBB,hi];rfl);exact ⟨e,a,b.renFrom h _ _ (zPW hk hi).1,c.renFrom h _ _ (zPW hk hi).2⟩
 | sIter s p=>exact hb
 | raw id o=>exact hb
 | rng id tl st pend cd=>obtain ⟨h1,fn,tm,dfr,h2,h3⟩:=hb;exact ⟨h1,fn,tm,dfr,h2,VRs.renFrom h _ _ h3 hk⟩
def Merged (π:Nat→Nat) (s s' S S':ES):Prop:=
 s.nx≤s'.nx∧S'.gl=S.gl∧S'.nx=S.nx+(s'.nx - s.nx)∧∀ j O,S'.get j=some O→(∃ i o,s'.get i=some o∧π i=j∧O=o.ren π)∨(S.get j=some O∧∀ i o,s.get i=some o→π i ≠ j)
theorem ECalls.frame {P:Program} {g:FuncId} {args args2:List EV} {s S:ES} {Q Q2:ER→ES→Prop} (h:ECalls P g args s Q) (π:Nat→Nat) (hargs:args2=zZG π args) (hab:zQX s.nx args)
  (hinj:∀ i j,i<s.nx→j<s.nx→π i=π j→i=j) (hlt:∀ i,i<s.nx→π i<S.nx) (hnew:∀ i,π (s.nx+i)=S.nx+i) (hbl:blBelow s.nx s.bl)
  (hget:∀ i o,s.get i=some o→S.get (π i)=some (o.ren π)) (hgl:∀ x∈s.gl,x∈S.gl)
  (hQ:∀ x s',Q x s'→∃ S',Merged π s s' S S'∧Q2 (x.ren π) S'):ECalls P g args2 S Q2:=by
 subst hargs;intro ρ w args' hR hA
 let ρg:Env:=fun i=>if i<s.nx then ρ (π i) else none
 have hgi:∀ i,i<s.nx→ρg i=ρ (π i):=fun i hi=>if_pos hi
 have hsb:∀ i o,s.get i=some o→i<s.nx∧o.bel s.nx:=fun i o hi=>zKW hbl (ES.get_lt hi).2
 have hRg0:Rel0 ρg s w:=by
  refine ⟨fun b o l hg hr=>?_,fun i hi=>if_neg (by omega),fun b b' o o' l l' hg hg' hr hr' hne hw=>?_,fun b o hg=>?_⟩
  ·have hb:=hsb b o hg;rw[hgi b hb.1] at hr
   exact (hR.live _ _ _ (hget b o hg) hr).renFrom hgi hb.2
  ·have hb:=hsb b o hg;have hb':=hsb b' o' hg';rw[hgi b hb.1] at hr
   rw[hgi b' hb'.1] at hr'
   exact hR.sep _ _ _ _ _ _ (hget b o hg) (hget b' o' hg') hr hr' (fun e=>hne (hinj b b' hb.1 hb'.1 e)) (by cases o<;>exact hw)
  ·obtain ⟨l,hl⟩:=hR.dom _ _ (hget b o hg);exact ⟨l,by rw[hgi b (hsb b o hg).1];exact hl⟩
 have hown:∀ r,ySF ρg s r→∃ b o l,s.get b=some o∧ρ (π b)=some l∧l.r=r∧o.wr=true:=by
  rintro r ⟨b,o,l,hg,hr,hw,e⟩
  rw[hgi b (hsb b o hg).1] at hr
  exact ⟨b,o,l,hg,hr,e,hw⟩
 have hwr:∀ o:EO,(o.ren π).wr=o.wr:=fun o=>by cases o<;>rfl
 have hRg:Rel ρg s w:=⟨hRg0,fun x hx=>by
  obtain ⟨q1,q2⟩:=hR.glob x (hgl x hx);refine ⟨q1,fun ho=>q2 ?_⟩;obtain ⟨b,o,l,a1,a2,a3,a4⟩:=hown _ ho;exact ⟨π b,_,l,hget b o a1,a2,by rw[hwr];exact a4,a3⟩⟩
 have hcall:=h ρg w args' hRg (VRs.renFrom hgi args _ hA hab);have main:∀ e w',EPost ρg s w Q e w'→EPost ρ S w Q2 e w':=by
  rintro e w' ⟨x,s',ρg',hret,hG,hq⟩
  obtain ⟨S',⟨hle,hSgl,hnx,hm0⟩,hq2⟩:=hQ x s' hq;have hm:∀ j O,S'.get j=some O→(∃ i o,s'.get i=some o∧i<s'.nx∧π i=j∧O=o.ren π)∨(j<S.nx∧S.get j=some O∧∀ i o,s.get i=some o→π i ≠ j):=by
   intro j O hj
   rcases hm0 j O hj with ⟨i,o,a1,a2,a3⟩ | ⟨a1,a2⟩
   ·exact .inl ⟨i,o,a1,(ES.get_lt a1).1,a2,a3⟩
   ·exact .inr ⟨(ES.get_lt a1).1,a1,a2⟩
  let ρ':Env:=fun j=>if j<S.nx then ρ j else ρg' (s.nx+(j - S.nx))
  have hπ:∀ i l,ρg' i=some l→ρ' (π i)=some l:=by
   intro i l hi
   by_cases hlt':i<s.nx
   ·rw[hG.old i hlt',hgi i hlt'] at hi
    show (if π i<S.nx then ρ (π i) else _)=_;rw[if_pos (hlt i hlt')];exact hi
   ·have:π i=S.nx+(i - s.nx):=by rw[← hnew (i - s.nx)];congr 1;omega
    show (if π i<S.nx then ρ (π i) else _)=_;rw[if_neg (by omega),this,show s.nx+(S.nx+(i - s.nx) - S.nx)=i by omega];exact hi
  have hπ':∀ i,i<s'.nx→ρ' (π i)=ρg' i:=by
   intro i hi
   by_cases hlt':i<s.nx
   ·show (if π i<S.nx then ρ (π i) else _)=_;rw[if_pos (hlt i hlt'),hG.old i hlt',hgi i hlt']
   ·have:π i=S.nx+(i - s.nx):=by rw[← hnew (i - s.nx)];congr 1;omega
    show (if π i<S.nx then ρ (π i) else _)=_;rw[if_neg (by omega),this,show s.nx+(S.nx+(i - s.nx) - S.nx)=i by omega]
  have hπinj:∀ i j,π i=π j→i=j:=by
   intro i j hij
   by_cases h1:i<s.nx<;>by_cases h2:j<s.nx
   ·exact hinj i j h1 h2 hij
   ·have a1:=hlt i h1;have:π j=S.nx+(j - s.nx):=by rw[← hnew (j - s.nx)];congr 1;omega
    omega
   ·have a1:=hlt j h2;have:π i=S.nx+(i - s.nx):=by rw[← hnew (i - s.nx)];congr 1;omega
    omega
   ·have a1:π j=S.nx+(j - s.nx):=by rw[← hnew (j - s.nx)];congr 1;omega
    have a2:π i=S.nx+(i - s.nx):=by rw[← hnew (i - s.nx)];congr 1;omega
    omega
  have hold:∀ j,j<S.nx→ρ' j=ρ j:=fun j hj=>if_pos hj
  have hlei:ρ.le ρ':=fun j l hj=>by
   rcases Nat.lt_or_ge j S.nx with h1 | h1
   ·rw[hold j h1];exact hj
   ·rw[hR.fresh j h1] at hj;cases hj
  -- a block of the frame lies as it lay
  have hframe:∀ j O l,S.get j=some O→ρ j=some l→(∀ i o,s.get i=some o→π i ≠ j)→w'.heap[l.r]? = w.heap[l.r]?:=by
   intro j O l hg hr hne;have hb:=hR.live j O l hg hr;refine hG.step.block l.r hb.lt ?_;intro ho;obtain ⟨b,o,l2,c1,c2,c3,c4⟩:=hown _ ho;exact hR.sep (π b) j _ _ l2 l (hget b o c1) hg c2 hr (hne b o c1) (by rw[hwr];exact c4) c3
  refine ⟨x.ren π,S',ρ',?_,?_,hq2⟩
  ·cases x with
   | ret v=>obtain ⟨v',e1,e2⟩:=hret;exact ⟨v',e1,e2.renTo hπ _ _⟩
   | pan v=>obtain ⟨v',e1,e2⟩:=hret;exact ⟨v',e1,e2.renTo hπ _ _⟩
  ·refine ⟨⟨fun j O l hg hr=>?_,fun j hj=>?_,fun j j' O O' l l' hg hg' hr hr' hne hw=>?_,fun j O hg=>?_⟩,hold,by omega,hR,fun j hj hn=>?_,?_,fun j O l hg hr=>?_,hSgl⟩
   ·rcases hm j O hg with ⟨i,o,a1,a2,a3,a4⟩ | ⟨a1,a2,a3⟩
    ·subst a3;subst a4;rw[hπ' i a2] at hr
     exact (hG.rel.live i o l a1 hr).renTo hπ
    ·rw[hold j a1] at hr
     exact (hR.live j O l a2 hr).mono hlei (hframe j O l a2 hr a3)
   ·show (if j<S.nx then ρ j else _)=_;rw[if_neg (by omega)];exact hG.rel.fresh _ (by omega)
   ·rcases hm j O hg with ⟨i,o,a1,a2,a3,a4⟩ | ⟨a1,a2,a3⟩
    ·subst a3;subst a4;rw[hπ' i a2] at hr
     rw[hwr] at hw
     rcases hm j' O' hg' with ⟨i',o',b1,b2,b3,b4⟩ | ⟨b1,b2,b3⟩
     ·subst b3;subst b4;rw[hπ' i' b2] at hr'
      exact hG.rel.sep i i' o o' l l' a1 b1 hr hr' (fun e=>hne (by rw[e])) hw
     ·rw[hold j' b1] at hr'
      have hlt':=(hR.live j' O' l' b2 hr').lt
      rcases hG.src i o l a1 hr with ⟨b0,o0,l0,c1,c2,c3,c4⟩ | c1
      ·rw[hgi b0 (hsb b0 o0 c1).1] at c2
       have:=hR.sep (π b0) j' _ _ l0 l' (hget b0 o0 c1) b2 c2 hr' (b3 b0 o0 c1) (by rw[hwr];exact c4 hw)
       rwa [c3] at this
      ·omega
    ·rw[hold j a1] at hr
     have hlt':=(hR.live j O l a2 hr).lt
     rcases hm j' O' hg' with ⟨i',o',b1,b2,b3,b4⟩ | ⟨b1,b2,b3⟩
     ·subst b3;subst b4;rw[hπ' i' b2] at hr'
      rcases hG.src i' o' l' b1 hr' with ⟨b0,o0,l0,c1,c2,c3,c4⟩ | c1
      ·rw[hgi b0 (hsb b0 o0 c1).1] at c2
       have:=hR.sep j (π b0) _ _ l l0 a2 (hget b0 o0 c1) hr c2 (fun e=>a3 b0 o0 c1 e.symm) hw
       rwa [c3] at this
      ·omega
     ·rw[hold j' b1] at hr'
      exact hR.sep j j' O O' l l' a2 b2 hr hr' hne hw
   ·rcases hm j O hg with ⟨i,o,a1,a2,a3,a4⟩ | ⟨a1,a2,a3⟩
    ·obtain ⟨l,hl⟩:=hG.rel.dom i o a1;exact ⟨l,by rw[← a3,hπ' i a2];exact hl⟩
    ·obtain ⟨l,hl⟩:=hR.dom j O a2;exact ⟨l,by rw[hold j a1];exact hl⟩
   ·cases hx:S'.get j with
    | none=>rfl
    | some O=>
      rcases hm j O hx with ⟨i,o,a1,a2,a3,a4⟩ | ⟨a1,a2,a3⟩
      ·by_cases hi:i<s.nx
       ·cases hy:s.get i with
        | none=>rw[hG.gone i hi hy] at a1;cases a1
        | some o2=>have:=hget i o2 hy;rw[a3,hn] at this;cases this
       ·have:π i=S.nx+(i - s.nx):=by rw[← hnew (i - s.nx)];congr 1;omega
        omega
      ·rw[hn] at a2;cases a2
   ·refine ⟨hG.step.os,hG.step.tape,hG.step.output,hG.step.size,fun r hr ho=>hG.step.block r hr fun ho2=>ho ?_⟩;obtain ⟨b,o,l2,c1,c2,c3,c4⟩:=hown _ ho2;exact ⟨π b,_,l2,hget b o c1,c2,by rw[hwr];exact c4,c3⟩
   ·rcases hm j O hg with ⟨i,o,a1,a2,a3,a4⟩ | ⟨a1,a2,a3⟩
    ·subst a3;subst a4;rw[hπ' i a2] at hr
     rcases hG.src i o l a1 hr with ⟨b0,o0,l0,c1,c2,c3,c4⟩ | c1
     ·rw[hgi b0 (hsb b0 o0 c1).1] at c2
      exact .inl ⟨π b0,_,l0,hget b0 o0 c1,c2,c3,by rw[hwr,hwr];exact c4⟩
     ·exact .inr c1
    ·rw[hold j a1] at hr
     exact .inl ⟨j,O,l,a2,hr,rfl,id⟩
 revert hcall
 split
 ·exact fun hc=>CallsIn.mono hc main
 ·exact fun hc=>main _ _ hc
 ·exact id
end
section
mutual
theorem EV.ren_bel {π:Nat→Nat}:∀ (v:EV),v.bel 0→v.ren π=v
 | .unk,_=>by simp[EV.ren]
 | .bool _,_=>by simp[EV.ren]
 | .int _ _,_=>by simp[EV.ren]
 | .str _,_=>by simp[EV.ren]
 | .ptr none,_=>by simp[EV.ren]
 | .ptr (some a),h=>by simp[EV.bel] at h
 | .slice none _ _,_=>by simp[EV.ren]
 | .slice (some a) _ _,h=>by simp[EV.bel] at h
 | .map none,_=>by simp[EV.ren]
 | .map (some _),h=>by simp[EV.bel] at h
 | .fn _ as bs,h=>by
   simp only[EV.bel] at h
   simp[EV.ren,zFY as h.1,zFY bs h.2]
 | .nilFn,_=>by simp[EV.ren]
 | .iface _ y,h=>by
   simp only[EV.bel] at h
   simp[EV.ren,EV.ren_bel y h]
 | .nilIface,_=>by simp[EV.ren]
 | .agg cs,h=>by
   simp only[EV.bel] at h
   simp[EV.ren,zFY cs h]
 | .tuple cs,h=>by
   simp only[EV.bel] at h
   simp[EV.ren,zFY cs h]
theorem zFY {π:Nat→Nat}:∀ (v:List EV),zQX 0 v→zZG π v=v
 | [],_=>by simp[zZG]
 | v::vs,h=>by
   simp only[zQX] at h
   simp[zZG,EV.ren_bel v h.1,zFY vs h.2]
end
def ES.zero (G:List Gl):ES:=⟨[],0,G⟩
def Pure (G:List Gl) (P:Program) (g:FuncId) (args:List EV) (v:EV):Prop:=ECalls P g args (ES.zero G) fun x s=>x=.ret v∧s=ES.zero G
theorem Pure.at {G:List Gl} {P:Program} {g:FuncId} {args:List EV} {v:EV} (h:Pure G P g args v) (ha:zQX 0 args) (hv:v.bel 0) {S:ES} (hG:S.gl=G) {K Kp:EV→ES→Prop} (hK:K v S):ECalls P g args S (KC K Kp):=by
 refine ECalls.frame h (fun i=>S.nx+i) (zFY args ha).symm ha (fun i j h=>by simp[ES.zero] at h) (fun i h=>by simp[ES.zero] at h) (fun i=>by simp[ES.zero]) trivial (fun i o h=>by simp[ES.zero,ES.get] at h) (fun x hx=>by rw[hG];exact hx) ?_
 rintro x s' ⟨rfl,rfl⟩
 refine ⟨S,⟨Nat.le_refl _,rfl,by simp[ES.zero],fun j O hj=>.inr ⟨hj,fun i o h=>by simp[ES.zero,ES.get] at h⟩⟩,?_⟩;simp only[ER.ren,EV.ren_bel v hv];exact hK
theorem zQK {x:Int} (h1:-9223372036854775808≤x) (h2:x≤9223372036854775807):IntKind.i64.wrap x=x:=by
 rw[IntKind.wrap_i64];omega
theorem zDQ {a b:Int} (h:0≤a):a.tdiv b=a / b:=Int.tdiv_eq_ediv_of_nonneg h
theorem zFD {a b:Int} (h:0≤a):a.tmod b=a % b:=Int.tmod_eq_emod_of_nonneg h
end
section
def ES.add (s:ES) (b:Nat) (o:EO):ES:=⟨(b,o)::s.bl,s.nx,s.gl⟩
structure Ext (b:Nat) (oo:Option EO) (s s2:ES):Prop where
 nx:s2.nx=s.nx
 gl:s2.gl=s.gl
 get:∀ c,s2.get c=match oo with
  | some o=>if b=c then some o else s.get c
  | none=>s.get c
def yJY (b:Nat) (oo:Option EO) (s:ES):Prop:=oo.isSome=true→s.get b=none∧b<s.nx∧(∀ o,oo=some o→o.wr=true)
theorem Ext.refl (b:Nat) (s:ES):Ext b none s s:=⟨rfl,rfl,fun _=>rfl⟩
theorem Ext.some {b:Nat} {oo:Option EO} {s s2:ES} (h:Ext b oo s s2) (hf:yJY b oo s) {c:Nat} {o:EO} (hg:s.get c=some o):s2.get c=some o:=by
 rw[h.get]
 cases oo with
 | none=>exact hg
 | some x=>
   by_cases hbc:b=c
   ·subst hbc;rw[(hf rfl).1] at hg;cases hg
   ·simp only[hbc,if_false];exact hg
theorem ES.get_add {s:ES} {b:Nat} {o:EO} (hb:b<s.nx) (c:Nat):(s.add b o).get c=if b=c then Option.some o else s.get c:=by
 simp only[ES.get,ES.add,lkp]
 by_cases h:b=c
 ·subst h;simp[hb]
 ·simp only[h,if_false]
theorem Ext.add {s:ES} {b:Nat} {o:EO} (hb:b<s.nx):Ext b (Option.some o) s (s.add b o):=⟨rfl,rfl,fun c=>ES.get_add hb c⟩
theorem Ext.new {b:Nat} {oo:Option EO} {s s2:ES} (h:Ext b oo s s2) (hf:yJY b oo s) (o:EO):Ext b oo (s.new o) (s2.new o)∧yJY b oo (s.new o):=by
 refine ⟨⟨by simp[ES.new,h.nx],h.gl,fun c=>?_⟩,fun hs=>?_⟩
 ·rw[ES.get_new,ES.get_new,h.nx,h.get]
  cases oo with
  | none=>rfl
  | some x=>
    have hb:=(hf rfl).2.1
    by_cases h1:s.nx=c
    ·subst h1;simp only[if_true];rw[if_neg (by omega)]
    ·simp only[h1,if_false]
 ·obtain ⟨h1,h2,h3⟩:=hf hs;exact ⟨by rw[ES.get_new,if_neg (by omega)];exact h1,by simp[ES.new];omega,h3⟩
theorem Ext.set {b:Nat} {oo:Option EO} {s s2:ES} (h:Ext b oo s s2) (hf:yJY b oo s) {a:Nat} {o0:EO} (ha:s.get a=Option.some o0) (o:EO):Ext b oo (s.set a o) (s2.set a o)∧yJY b oo (s.set a o):=by
 refine ⟨⟨by simp[ES.set,h.nx],h.gl,fun c=>?_⟩,fun hs=>?_⟩
 ·rw[ES.get_set,ES.get_set,h.get,h.get]
  cases oo with
  | none=>rfl
  | some x=>
    have hne:b ≠ a:=fun e=>by subst e;rw[(hf rfl).1] at ha;cases ha
    by_cases h1:a=c
    ·subst h1;simp only[if_true,if_neg hne]
    ·simp only[h1,if_false]
 ·obtain ⟨h1,h2,h3⟩:=hf hs;have hne:a ≠ b:=fun e=>by subst e;rw[h1] at ha;cases ha
  exact ⟨by rw[ES.get_set,if_neg hne];exact h1,h2,h3⟩
theorem EPost.ext {s s2:ES} {ρ:Env} {w:World} {Q Q2:ER→ES→Prop} {b:Nat} {oo:Option EO} (hx:Ext b oo s s2) (hf:yJY b oo s) (hR:Rel ρ s2 w)
  (hQ:∀ x t t2,Ext b oo t t2→yJY b oo t→Q x t→Q2 x t2):∀ e w',EPost ρ s w Q e w'→EPost ρ s2 w Q2 e w':=by
 rintro e w' ⟨x,t,ρ',hret,hG,hq⟩
 let t2:ES:=match oo with
  | Option.some o=>t.add b o
  | none=>t
 have hft:yJY b oo t:=fun hs=>by
  obtain ⟨h1,h2,h3⟩:=hf hs;exact ⟨hG.gone b h2 h1,Nat.lt_of_lt_of_le h2 hG.nx,h3⟩
 have hxt:Ext b oo t t2:=by
  cases oo with
  | none=>exact Ext.refl b t
  | some o=>exact Ext.add (hft rfl).2.1
 refine ⟨x,t2,ρ',hret,?_,hQ x t t2 hxt hft hq⟩;have hown:∀ r,ySF ρ s r→ySF ρ s2 r:=fun r ⟨c,o,l,a1,a2,a3,a4⟩=>⟨c,o,l,hx.some hf a1,a2,a3,a4⟩
 cases hoo:oo with
 | none=>
   subst hoo;refine ⟨hG.rel0,fun i hi=>hG.old i (by rw[← hx.nx];exact hi),by rw[hx.nx];exact hG.nx,hR,fun c hcl hn=>?_,⟨hG.step.os,hG.step.tape,hG.step.output,hG.step.size,fun r hr ho=>hG.step.block r hr fun o=>ho (hown r o)⟩,fun c o l hg hl=>?_,hxt.gl.trans (hG.gl.trans hx.gl.symm)⟩
   ·have hn':=hx.get c;simp only at hn'
    exact hG.gone c (by rw[← hx.nx];exact hcl) (by rw[← hn'];exact hn)
   ·rcases hG.src c o l hg hl with ⟨c0,o0,l0,a1,a2,a3,a4⟩ | h1
    ·exact .inl ⟨c0,o0,l0,hx.some hf a1,a2,a3,a4⟩
    ·exact .inr h1
 | some o0=>
   subst hoo;obtain ⟨f1,f2,f3⟩:=hf rfl;have hwr:o0.wr=true:=f3 o0 rfl;have hb2:s2.get b=Option.some o0:=by rw[hx.get];simp
   have ht2:∀ c,t2.get c=if b=c then Option.some o0 else t.get c:=fun c=>hxt.get c
   have hkeep:∀ l,ρ b=Option.some l→w'.heap[l.r]? = w.heap[l.r]?:=by
    intro l hl;have hbr:=hR.live b o0 l hb2 hl;refine hG.step.block l.r hbr.lt ?_
    rintro ⟨c,o,l2,a1,a2,a3,a4⟩
    have hne:b ≠ c:=fun e=>by subst e;rw[f1] at a1;cases a1
    exact hR.sep b c o0 o l l2 hb2 (hx.some hf a1) hl a2 hne hwr a4.symm
   have hρ:ρ' b=ρ b:=hG.old b f2;have hother:∀ c o l l0,b ≠ c→t.get c=Option.some o→ρ' c=Option.some l→ρ b=Option.some l0→l0.r ≠ l.r:=by
    intro c o l l0 hne hg hl hl0;have hbr:=(hR.live b o0 l0 hb2 hl0).lt
    rcases hG.src c o l hg hl with ⟨c0,o1,l1,a1,a2,a3,a4⟩ | h1
    ·have hne0:b ≠ c0:=fun e=>by subst e;rw[f1] at a1;cases a1
     rw[← a3];exact hR.sep b c0 o0 o1 l0 l1 hb2 (hx.some hf a1) hl0 a2 hne0 hwr
    ·omega
   refine ⟨⟨fun c o l hg hl=>?_,fun i hi=>hG.rel.fresh i (by rw[hxt.nx] at hi;exact hi),fun c c' o o' l l' hg hg' hl hl' hne hw=>?_,fun c o hg=>?_⟩,fun i hi=>hG.old i (by rw[← hx.nx];exact hi),by rw[hx.nx,hxt.nx];exact hG.nx,hR,fun c hcl hn=>?_,
    ⟨hG.step.os,hG.step.tape,hG.step.output,hG.step.size,fun r hr ho=>hG.step.block r hr fun o=>ho (hown r o)⟩,fun c o l hg hl=>?_,hxt.gl.trans (hG.gl.trans hx.gl.symm)⟩
   ·rw[ht2] at hg
    by_cases hbc:b=c
    ·subst hbc;simp only[if_true,Option.some.injEq] at hg
     subst hg;rw[hρ] at hl
     exact (hR.live b o0 l hb2 hl).mono hG.le (hkeep l hl)
    ·simp only[hbc,if_false] at hg
     exact hG.rel.live c o l hg hl
   ·rw[ht2] at hg hg'
    by_cases hbc:b=c
    ·subst hbc;simp only[hne,if_false] at hg'
     rw[hρ] at hl
     exact hother c' o' l' l hne hg' hl' hl
    ·simp only[hbc,if_false] at hg
     by_cases hbc':b=c'
     ·subst hbc';rw[hρ] at hl'
      exact fun e=>hother c o l l' hbc hg hl hl' e.symm
     ·simp only[hbc',if_false] at hg'
      exact hG.rel.sep c c' o o' l l' hg hg' hl hl' hne hw
   ·rw[ht2] at hg
    by_cases hbc:b=c
    ·subst hbc;obtain ⟨l,hl⟩:=hR.dom b o0 hb2;exact ⟨l,by rw[hρ];exact hl⟩
    ·simp only[hbc,if_false] at hg
     exact hG.rel.dom c o hg
   ·rw[hx.get] at hn
    rw[ht2]
    by_cases hbc:b=c
    ·simp[hbc] at hn
    ·simp only[hbc,if_false] at hn ⊢
     exact hG.gone c (by rw[← hx.nx];exact hcl) hn
   ·rw[ht2] at hg
    by_cases hbc:b=c
    ·subst hbc;simp only[if_true,Option.some.injEq] at hg
     subst hg;rw[hρ] at hl
     exact .inl ⟨b,o0,l,hb2,hl,rfl,id⟩
    ·simp only[hbc,if_false] at hg
     rcases hG.src c o l hg hl with ⟨c0,o1,l1,a1,a2,a3,a4⟩ | h1
     ·exact .inl ⟨c0,o1,l1,hx.some hf a1,a2,a3,a4⟩
     ·exact .inr h1
theorem ECalls.ext {P:Program} {g:FuncId} {args:List EV} {s s2:ES} {Q Q2:ER→ES→Prop} {b:Nat} {oo:Option EO} (h:ECalls P g args s Q) (hx:Ext b oo s s2) (hf:yJY b oo s)
  (hQ:∀ x t t2,Ext b oo t t2→yJY b oo t→Q x t→Q2 x t2):ECalls P g args s2 Q2:=by
 intro ρ w args' hR hA;have hR1:Rel ρ s w:=(hR.less (s':=s) (fun c o hg=>hx.some hf hg) (by rw[hx.nx];exact Nat.le_refl _) hx.gl.symm).rel;have hc:=h ρ w args' hR1 hA;have main:=EPost.ext (Q:=Q) (Q2:=Q2) hx hf hR hQ
 revert hc
 split
 ·exact fun hc=>CallsIn.mono hc main
 ·exact fun hc=>main _ _ hc
 ·exact id
theorem EYields.ext {P:Program} {g:Nat} {args:List EV} {s s2:ES} {Q Q2:ER→ES→Prop} {b:Nat} {oo:Option EO} (h:EYields P g args s Q) (hx:Ext b oo s s2) (hf:yJY b oo s)
  (hQ:∀ x t t2,Ext b oo t t2→yJY b oo t→Q x t→Q2 x t2):EYields P g args s2 Q2:=by
 intro ρ w args' hR hA;have hR1:Rel ρ s w:=(hR.less (s':=s) (fun c o hg=>hx.some hf hg) (by rw[hx.nx];exact Nat.le_refl _) hx.gl.symm).rel;have hc:=h ρ w args' hR1 hA;have main:=EPost.ext (Q:=Q) (Q2:=Q2) hx hf hR hQ
 revert hc
 split
 ·exact fun hc=>RoundIn.mono hc main
 ·exact id
theorem EOp.ext {P:Program} {op:Op} {vals:List EV} {s s2:ES} {K K2:EV→ES→Prop} {b:Nat} {oo:Option EO} (h:EOp P op vals s K) (hx:Ext b oo s s2) (hf:yJY b oo s)
  (hK:∀ v t t2,Ext b oo t t2→yJY b oo t→K v t→K2 v t2):EOp P op vals s2 K2:=by
 intro ρ w a o ho hR hv;have hR1:Rel ρ s w:=(hR.less (s':=s) (fun c o hg=>hx.some hf hg) (by rw[hx.nx];exact Nat.le_refl _) hx.gl.symm).rel;obtain ⟨v,v',s',ρ',w',h1,h2,h3,h4⟩:=h ρ w a o ho hR1 hv;obtain ⟨x,t,ρ2,hr,g2,g3⟩:=EPost.ext (Q:=KC K fun _ _=>False) (Q2:=KC K2 fun _ _=>False) hx hf hR (fun x t t2 e1 e2 q=>by cases x with | ret v=>exact hK v t t2 e1 e2 q | pan v=>exact q) (.returned v') w' ⟨.ret v,s',ρ',⟨v',rfl,h2⟩,h3,h4⟩
 cases x with
 | ret v2=>obtain ⟨v2',e,hv2⟩:=hr;cases e;exact ⟨v2,v',t,ρ2,w',h1,hv2,g2,g3⟩
 | pan v2=>exact g3.elim
def xZD:Op→List Tmp:=fun op=>op.operands.toList.filterMap fun | .tmp t=>Option.some t | _=>none
def Agree (ts:List Tmp) (fr fr2:Fr):Prop:=fr2.n=fr.n∧∀ t∈ts,fr2.lk t=fr.lk t
theorem Agree.ev {op:Op} {fr fr2:Fr} (h:Agree (xZD op) fr fr2):∀ x∈op.operands.toList,ev fr2 x=ev fr x:=by
 intro x hx
 cases x with
 | tmp t=>exact h.2 t (by simp only[xZD,List.mem_filterMap];exact ⟨.tmp t,hx,rfl⟩)
 | const v=>rfl
 | func f=>rfl
 | global g=>rfl
theorem zBM {fr fr2:Fr} {l:List Operand} (h:∀ x∈l,ev fr2 x=ev fr x):zMJ fr2 l=zMJ fr l:=List.map_congr_left h
theorem zMW {fr fr2:Fr} {l:List (Nat × Operand)} (h:∀ x∈l.map (·.2),ev fr2 x=ev fr x):zMX fr2 l=zMX fr l:=by
 refine List.map_congr_left fun x hx=>?_
 rw[h x.2 (List.mem_map_of_mem hx)]
theorem yQK {fr fr2:Fr} {o:Option Operand} (h:∀ x,o=Option.some x→ev fr2 x=ev fr x):xQQ fr2 o=xQQ fr o:=by
 cases o with
 | none=>rfl
 | some x=>simp only[xQQ,h x rfl]
theorem xWK {P:Program} {op:Op} {fr fr2:Fr} {s:ES} {K Kp:EV→ES→Prop} (h:∀ x∈op.operands.toList,ev fr2 x=ev fr x):eop P op fr2 s K Kp=eop P op fr s K Kp:=by
 have hO:zMJ fr2 op.operands.toList=zMJ fr op.operands.toList:=zBM h
 cases op<;>simp only[eop]<;>(try (rw[hO];done))<;>(try simp only[Op.operands,List.mem_cons,List.not_mem_nil,or_false,forall_eq_or_imp,forall_eq] at h)
 case move=>rw[h]
 case assign=>rw[h]
 case pick=>rw[h.1,h.2.1,h.2.2]
 case box=>rw[h]
 case build t ps=>rw[zMW (by simpa using h)]
 case buildSlice t n ps=>rw[zMW (by simpa using h)]
 case load=>rw[h]
 case store=>rw[h.1,h.2]
 case nilCheck=>rw[h]
 case binOp=>rw[h.1,h.2]
 case unOp=>rw[h]
 case convert=>rw[h]
 case slice t x lo hi mx=>
  rw[h x (by simp),yQK (o:=lo) (fun y hy=>h y (by subst hy;simp)),yQK (o:=hi) (fun y hy=>h y (by subst hy;simp)),yQK (o:=mx) (fun y hy=>h y (by subst hy;simp))]
 case fieldAddr=>rw[h]
 case field=>rw[h]
 case indexAddr=>rw[h.1,h.2]
 case index=>rw[h.1,h.2]
 case makeInterface=>rw[h]
 case makeFunc f first cap=>
  rw[zBM (l:=first.toList) (fun x hx=>h x (by simp[hx])),zBM (l:=cap.toList) (fun x hx=>h x (by simp[hx]))]
 case extract=>rw[h]
 case call c=>
  obtain ⟨callee,args,ts⟩:=c;have hargs:zMJ fr2 args.toList=zMJ fr args.toList:=zBM fun x hx=>h x (by simp[Call.operands,hx])
  cases callee with
  | builtin b=>simp only[yTW,hargs]
  | invoke x m=>rfl
  | value f=>simp only[yTW,hargs,h f (by simp[Call.operands])]
def Det (f:(EV→Prop)→Prop):Prop:=∀ K,f K→∃ v,∀ K':EV→Prop,f K'↔K' v
theorem Det.mono {f:(EV→Prop)→Prop} (h:Det f) {K K':EV→Prop} (hK:∀ v,K v→K' v) (hf:f K):f K':=by
 obtain ⟨v,h1⟩:=h K hf;exact (h1 K').2 (hK v ((h1 K).1 hf))
theorem zHV (v:EV):∃ u,∀ K':EV→Prop,K' v↔K' u:=⟨v,fun _=>Iff.rfl⟩
theorem zPJ {p:Prop} (hp:p) (v:EV):∃ u,∀ K':EV→Prop,(p∧K' v)↔K' u:=⟨v,fun _=>⟨fun q=>q.2,fun q=>⟨hp,q⟩⟩⟩
theorem yTK {p:Prop} (hp:p) {f:(EV→Prop)→Prop} (h:∃ u,∀ K':EV→Prop,f K'↔K' u):∃ u,∀ K':EV→Prop,(p∧f K')↔K' u:=
 let ⟨u,hu⟩:=h
 ⟨u,fun K'=>⟨fun q=>(hu K').1 q.2,fun q=>⟨hp,(hu K').2 q⟩⟩⟩
theorem det_ebinI (op:BinOp) (k:IntKind) (a:Int) (k':IntKind) (b:Int):Det (ebinI op k a k' b):=by
 intro K h
 cases op<;>exact zPJ h.1 _
theorem det_ebinS (op:BinOp) (x y:List UInt8):Det (ebinS op x y):=by
 intro K h
 cases op<;>first|exact zPJ h.1 _|exact zHV _|exact h.elim
theorem zNV (op:BinOp) (x y:EV):Det (ebin op x y):=by
 intro K h;unfold ebin at h
 split at h
 ·exact det_ebinI _ _ _ _ _ K h
 ·exact det_ebinS _ _ _ K h
 all_goals first|(split at h<;>first|exact zHV _|exact h.elim)|exact h.elim
theorem xXW (P:Program) (op:BinOp) (t:TypeId) (x y:EV):Det (ebinX P op t x y):=by
 intro K h;unfold ebinX at h ⊢
 cases op<;>first|exact h.elim|exact zPJ h.1 _
theorem yTY (P:Program) (op:BinOp) (t:TypeId) (x y:EV) (c:Bool):Det (xKR P op t x y c):=by
 intro K h
 cases hi:zXZ P t with
 | none=>
   unfold xKR at h ⊢
   simp only[hi] at h ⊢
   split at h<;>first|exact h.elim|exact h.2.elim|exact zNV _ _ _ K h|exact xXW P op t _ _ K h
 | some i=>
   obtain ⟨u,sz,by_,z⟩:=i;unfold xKR at h ⊢
   rw[hi] at h
   simp only[hi] at h ⊢
   split at h
   ·cases u<;>first|exact h.elim|exact zNV _ _ _ K h
   ·obtain ⟨hc,h⟩:=h
    cases u<;>first|exact h.elim|skip
    cases op<;>first|exact h.elim|exact zPJ hc _
   ·cases u<;>first|exact h.elim|exact zNV _ _ _ K h
   ·cases u<;>first|exact h.elim|exact zNV _ _ _ K h
   ·cases u<;>first|exact h.elim|exact zNV _ _ _ K h
   ·exact zNV _ _ _ K h
   ·exact zNV _ _ _ K h
   ·exact xXW P op t _ _ K h
theorem xKM (op:UnOp) (x:EV):Det (eun op x):=by
 intro K h;unfold eun at h
 split at h<;>first|exact zHV _|exact h.elim
theorem yTJ (P:Program) (src dst:TypeId) (x:EV):Det (econv P src dst x):=by
 intro K h;unfold econv at h ⊢
 cases h1:zXZ P src with
 | none=>simp only[h1] at h
 | some i=>
   cases h2:zXZ P dst with
   | none=>simp only[h1,h2] at h
   | some j=>
     obtain ⟨u,sz,by_,z⟩:=j;simp only[h1,h2] at h ⊢
     cases x<;>first|exact h.elim|skip
     all_goals cases u<;>first|exact h.elim|exact zHV _
theorem xXQ (j:TI) (cs:List EV) (off:Nat):Det (xKZ j cs off):=by
 intro K h;unfold xKZ at h ⊢
 split at h
 ·rename_i ha
  simp only[if_pos ha];exact zPJ h.1 _
 ·rename_i ha
  simp only[if_neg ha]
  split at h
  ·exact zHV _
  ·exact h.elim
theorem xKF (s:List UInt8) (n:Int):Det (yMS s n):=fun _ h=>zPJ h.1 _
theorem yVP (P:Program) (i:TI) (x ix:EV):Det (yRM P i x ix):=by
 intro K h;obtain ⟨u,sz,by_,z⟩:=i;unfold yRM at h
 split at h
 ·rename_i hu
  simp only at hu;subst hu
  exact xKF _ _ K h
 ·rename_i e cs k n hu
  simp only at hu;subst hu
  split at h
  ·rename_i j hj
   simp only[yRM,hj];exact yTK h.1 (xXQ _ _ _ K h.2)
  ·exact h.elim
 ·exact h.elim
theorem yVR (P:Program) (i:TI) (x:EV) (f:Nat):Det (yRF P i x f):=by
 intro K h;obtain ⟨u,sz,by_,z⟩:=i;unfold yRF at h
 split at h
 ·rename_i fs cs hu
  simp only at hu;subst hu
  split at h
  ·rename_i off ft hf
   split at h
   ·rename_i j hj
    simp only[yRF,hf,hj];exact xXQ _ _ _ K h
   ·exact h.elim
  ·exact h.elim
 ·exact h.elim
theorem zMB (x:EV) (n:Nat):Det (zNZ x n):=by
 intro K h;unfold zNZ at h
 split at h
 ·split at h
  ·rename_i v hv
   simp only[zNZ,hv];exact zHV _
  ·exact h.elim
 ·exact h.elim
theorem yHG (P:Program) (i:TI) (ps:List (Nat × EV)):Det (yXV P i ps):=by
 intro K h;obtain ⟨u,sz,by_,z⟩:=i;unfold yXV at h
 split at h
 ·rename_i fs hu
  simp only at hu;subst hu
  obtain ⟨ha,h⟩:=h
  split at h
  ·rename_i c hc
   simp only[yXV,hc];exact zPJ ha _
  ·exact h.elim
 ·rename_i n e hu
  simp only at hu;subst hu
  split at h
  ·rename_i j hj
   split at h
   ·rename_i c hc
    simp only[yXV,hj,hc];exact zHV _
   ·exact h.elim
  ·exact h.elim
 ·exact h.elim
theorem zTW (f:Int→Int→Int):∀ (r:List EV) (x:EV),Det (zHT f x r)
 | [],x,_,_=>zHV x
 | y::r,x,K,h=>by
   cases x<;>cases y<;>first|exact (h:False).elim|skip
   simp only[zHT] at h ⊢
   exact yTK h.1 (zTW f r _ K h.2)
theorem det_eLoad (i:TI) (x:EV) (s:ES):Det (yMP i x s):=by
 intro K h;unfold yMP at h
 split at h
 ·split at h
  ·rename_i c t z wr fz hg
   simp only[yMP,hg]
   split at h
   ·rename_i ha;simp only[if_pos ha];exact zPJ h.1 _
   ·rename_i ha;simp only[if_neg ha]
    split at h
    ·exact zHV _
    ·exact h.elim
  ·exact h.elim
 ·exact h.elim
theorem det_elen (i:TI) (x:EV) (s:ES):Det (xZQ i x s):=by
 intro K h;obtain ⟨u,sz,by_,z⟩:=i;unfold xZQ at h
 split at h
 ·rename_i hu;simp only at hu;subst hu;exact zHV _
 ·rename_i hu;simp only at hu;subst hu;exact zHV _
 ·rename_i hu;simp only at hu;subst hu;exact zHV _
 ·rename_i hu;simp only at hu;subst hu;exact zHV _
 ·rename_i hu;simp only at hu;subst hu
  split at h
  ·rename_i hg
   simp only[xZQ,hg];exact zHV _
  ·exact h.elim
 ·exact h.elim
theorem det_eSlice (P:Program) (i:TI) (x:EV) (lo hi mx:Option EV) (s:ES):Det fun K=>zHX P i x lo hi mx s fun v _=>K v:=by
 intro K h;obtain ⟨u,sz,by_,z⟩:=i;unfold zHX at h
 split at h
 ·rename_i hu;simp only at hu;subst hu
  obtain ⟨hm,h⟩:=h;unfold yVV at h
  split at h
  ·rename_i e1 e2
   simp only[zHX,yVV,e1,e2];exact yTK hm (zPJ h.1 _)
  ·exact h.elim
 ·rename_i hu;simp only at hu;subst hu
  split at h
  ·rename_i e1 e2 e3 e4
   split at h
   ·rename_i hg
    simp only[zHX,e1,e2,e3,e4,hg];exact zPJ h.1 _
   ·exact h.elim
  ·exact h.elim
 ·rename_i hu;simp only at hu;subst hu
  split at h
  ·rename_i e1 e2 e3 e4
   simp only[zHX,e1,e2,e3,e4];exact zPJ h.1 _
  ·exact h.elim
 ·rename_i hu;simp only at hu;subst hu
  split at h
  ·rename_i e1 e2 e3 e4
   split at h
   ·rename_i hg
    simp only[zHX,e1,e2,e3,e4,hg];exact zPJ h.1 _
   ·exact h.elim
  ·exact h.elim
 ·exact h.elim
theorem ySH (P:Program) (i:TI) (x:EV) (f:Nat) (s:ES):Det fun K=>zKK P i x f s fun v _=>K v:=by
 intro K h;obtain ⟨u,sz,by_,z⟩:=i;unfold zKK at h
 split at h
 ·rename_i hu;simp only at hu;subst hu
  split at h
  ·rename_i hf
   split at h
   ·rename_i hj
    simp only[zKK,hf,hj];exact zPJ h.1 _
   ·exact h.elim
  ·exact h.elim
 ·exact h.elim
theorem ySG (P:Program) (i:TI) (x ix:EV) (s:ES):Det fun K=>zVN P i x ix s fun v _=>K v:=by
 intro K h;obtain ⟨u,sz,by_,z⟩:=i;unfold zVN at h
 split at h
 ·split at h
  ·rename_i hu;simp only at hu;subst hu
   split at h
   ·rename_i hj
    simp only[zVN,hj];exact zPJ h.1 _
   ·exact h.elim
  ·rename_i hu;simp only at hu;subst hu
   split at h
   ·rename_i hj
    simp only[zVN,hj];exact zPJ h.1 _
   ·exact h.elim
  ·exact h.elim
 ·exact h.elim
theorem eop_ext {P:Program} {op:Op} {fr:Fr} {s s2:ES} {K Kp K2 Kp2:EV→ES→Prop} {b:Nat} {oo:Option EO} (h:eop P op fr s K Kp) (hx:Ext b oo s s2) (hf:yJY b oo s)
  (hK:∀ v t t2,Ext b oo t t2→yJY b oo t→K v t→K2 v t2) (hKp:∀ v t t2,Ext b oo t t2→yJY b oo t→Kp v t→Kp2 v t2):eop P op fr s2 K2 Kp2:=by
 have h0:∀ v,K v s→K2 v s2:=fun v=>hK v s s2 hx hf
 cases op<;>simp only[eop] at h ⊢ <;> try first|exact h.elim|exact EOp.ext h hx hf hK
 case move=>exact h0 _ h
 case assign=>exact h0 _ h
 case pick=>split at h<;>first|exact ⟨fun e=>h0 _ (h.1 e),fun e=>h0 _ (h.2 e)⟩|exact h.elim
 case alloc=>
  split at h
  ·unfold eNew at h ⊢
   obtain ⟨h1,h2⟩:=hx.new hf (.cells _ _ 0 true 0);rw[hx.nx];exact hK _ _ _ h1 h2 h
  ·exact h.elim
 case box=>
  unfold eBox eNew at h ⊢
  obtain ⟨h1,h2⟩:=hx.new hf (.cells _ _ 0 true 0);rw[hx.nx];exact ⟨h.1,hK _ _ _ h1 h2 h.2⟩
 case build=>
  split at h
  ·unfold yXV at h ⊢
   split at h
   ·refine ⟨h.1,?_⟩;have h':=h.2
    split at h'
    ·exact h0 _ h'
    ·exact h'.elim
   ·split at h
    ·split at h
     ·exact h0 _ h
     ·exact h.elim
    ·exact h.elim
   ·exact h.elim
  ·exact h.elim
 case buildSlice=>
  split at h
  ·unfold zGP at h ⊢
   split at h
   ·split at h
    ·refine ⟨h.1,?_⟩;have h':=h.2
     split at h'
     ·obtain ⟨h1,h2⟩:=hx.new hf (.cells _ _ 0 true 0);rw[hx.nx];exact hK _ _ _ h1 h2 h'
     ·exact h'.elim
    ·exact h.elim
   ·exact h.elim
  ·exact h.elim
 case load=>
  split at h
  ·unfold yMP at h ⊢
   split at h
   ·split at h
    ·rename_i hg
     rw[hx.some hf hg];simp only
     split at h
     ·rename_i ha;rw[if_pos ha];exact ⟨h.1,h0 _ h.2⟩
     ·rename_i ha;rw[if_neg ha]
      split at h
      ·exact h0 _ h
      ·exact h.elim
    ·exact h.elim
   ·exact h.elim
  ·exact h.elim
 case store=>
  split at h
  ·unfold xWH at h ⊢
   split at h
   ·split at h
    ·rename_i hg
     rw[hx.some hf hg];simp only;obtain ⟨h1,h2⟩:=hx.set hf hg (.cells _ _ _ true _);exact ⟨h.1,hK _ _ _ h1 h2 h.2⟩
    ·exact h.elim
   ·exact h.elim
  ·exact h.elim
 case nilCheck=>
  split at h
  ·exact h0 _ h
  ·exact h.elim
 case binOp=>exact (yTY _ _ _ _ _ _).mono h0 h
 case unOp=>exact (xKM _ _).mono h0 h
 case convert=>
  split at h
  ·exact (yTJ _ _ _ _).mono h0 h
  ·split at h
   ·unfold eB2S at h ⊢
    split at h
    ·split at h
     ·split at h
      ·split at h
       ·split at h
        ·exact h0 _ h
        ·split at h
         ·rename_i hg
          rw[hx.some hf hg];exact ⟨h.1,h0 _ h.2⟩
         ·exact h.elim
        ·exact h.elim
       ·exact h.elim
      ·exact h.elim
     ·exact h.elim
    ·exact h.elim
   ·exact h.ext hx hf hK
 case slice=>
  split at h
  ·unfold zHX at h ⊢
   split at h
   ·refine ⟨h.1,?_⟩;have h':=h.2;unfold yVV at h' ⊢
    split at h'
    ·exact ⟨h'.1,h0 _ h'.2⟩
    ·exact h'.elim
   ·split at h
    ·split at h
     ·rename_i hg
      rw[hx.some hf hg];exact ⟨h.1,h0 _ h.2⟩
     ·exact h.elim
    ·exact h.elim
   ·split at h
    ·exact ⟨h.1,h0 _ h.2⟩
    ·exact h.elim
   ·split at h
    ·split at h
     ·rename_i hg
      rw[hx.some hf hg];exact ⟨h.1,h0 _ h.2⟩
     ·exact h.elim
    ·exact h.elim
   ·exact h.elim
  ·exact h.elim
 case fieldAddr=>
  split at h
  ·unfold zKK at h ⊢
   split at h
   ·split at h
    ·split at h
     ·exact ⟨h.1,h0 _ h.2⟩
     ·exact h.elim
    ·exact h.elim
   ·exact h.elim
  ·exact h.elim
 case field=>
  split at h
  ·exact (yVR _ _ _ _).mono h0 h
  ·exact h.elim
 case indexAddr=>
  split at h
  ·unfold zVN at h ⊢
   split at h
   ·split at h
    ·split at h
     ·exact ⟨h.1,h0 _ h.2⟩
     ·exact h.elim
    ·split at h
     ·exact ⟨h.1,h0 _ h.2⟩
     ·exact h.elim
    ·exact h.elim
   ·exact h.elim
  ·exact h.elim
 case index=>
  split at h
  ·exact (yVP _ _ _ _).mono h0 h
  ·exact h.elim
 case makeInterface=>
  split at h
  ·split at h
   ·exact h.elim
   ·exact h0 _ h
  ·exact h.elim
 case makeFunc=>exact h0 _ h
 case extract=>exact (zMB _ _).mono h0 h
 case call c=>
  obtain ⟨callee,args,ts⟩:=c
  cases callee with
  | invoke x m=>exact h.elim
  | value f=>
    simp only[yTW] at h ⊢
    split at h
    ·refine ECalls.ext h hx hf ?_;intro x t t2 h1 h2 h3
     cases x with
     | ret v=>exact hK v t t2 h1 h2 h3
     | pan v=>exact hKp v t t2 h1 h2 h3
    ·refine EYields.ext h hx hf ?_;intro x t t2 h1 h2 h3
     cases x with
     | ret v=>exact hK v t t2 h1 h2 h3
     | pan v=>exact hKp v t t2 h1 h2 h3
    ·exact h.elim
  | builtin b=>
    simp only[yTW] at h ⊢
    cases hown:hereB b with
    | false=>
      simp only[hown] at h ⊢
      exact h.ext hx hf hK
    | true=>
    simp only[hown] at h ⊢
    clear hown;unfold zSK at h ⊢
    split at h
    ·split at h
     ·unfold xZQ at h ⊢
      split at h<;>first|exact h0 _ h|exact h.elim|skip
      split at h
      ·rename_i hg
       rw[hx.some hf hg];exact h0 _ h
      ·exact h.elim
     ·exact h.elim
    ·exact (zTW _ _ _).mono h0 h
    ·exact (zTW _ _ _).mono h0 h
    ·exact h.elim
end
end Go.E
