/-
  Own work: a part of the proof that the last text closes.
-/
import Derived.WalkKit
import Derived.CallsIn
import Derived.TacticsIn
import Derived.OrdersIn
import Derived.RangeFuncLeaves
import Derived.Laws.Cells
import Derived.Laws.Entries
import Derived.ChangeKeysEq
import Derived.Laws.Strings
import Derived.Laws.Unary
import Derived.Lib.Strings
import Derived.Laws.Append
import Derived.Lib.ConvBytes
import Derived.Laws.BytesArg
import Derived.Laws.BytesString
namespace Go.E
set_option linter.all false
section
structure EA where
 b:Nat
 o:Nat
 deriving DecidableEq
inductive EV where
 | unk
 | bool (b:Bool)
 | int (k:IntKind) (n:Int)
 | str (s:List UInt8)
 | ptr (a:Option EA)
 | slice (a:Option EA) (len cap:Nat)
 | map (r:Option Nat)
 | fn (f:Fn) (first captured:List EV)
 | nilFn
 | iface (t:TypeId) (v:EV)
 | nilIface
 | agg (cs:List EV)
 | tuple (vs:List EV)
def EV.cells:EV→List EV
 | .agg cs=>cs
 | v=>[v]
def EV.one:EV→Bool
 | .unk | .agg _ | .tuple _=>false
 | _=>true
def EV.known:EV→Bool
 | .unk | .tuple _=>false
 | .agg cs=>cs.all EV.one
 | _=>true
def zVP:EV:=.tuple []
structure Loc where
 r:Nat
 d:Nat
 n:Nat
 e:Nat
 z:Nat
abbrev Env:=Nat→Option Loc
def Env.le (ρ ρ':Env):Prop:=∀ b l,ρ b=some l→ρ' b=some l
theorem Env.le_refl (ρ:Env):ρ.le ρ:=fun _ _ h=>h
def CapOK (l:Loc) (o c c':Nat):Prop:=c'=c∨(l.z ≠ 0∧o+c*l.z=l.n∧c≤c'∧o+c' * l.z≤l.e)
mutual
def VR (ρ:Env):EV→Value→Prop
 | .unk,_=>True
 | .bool b,v=>v=.bool b
 | .int k n,v=>v=.int k n
 | .str s,v=>v=.string ⟨s.toArray⟩
 | .ptr none,v=>v=.pointer none
 | .ptr (some a),v=>∃ l,ρ a.b=some l∧v=.pointer (some ⟨l.r,a.o+l.d,none⟩)
 | .slice none n c,v=>n=0∧c=0∧v=.slice none 0 0
 | .slice (some a) n c,v=>∃ l c' o',ρ a.b=some l∧CapOK l a.o c c'∧n≤c∧(o'=a.o+l.d∨c'=0)∧v=.slice (some ⟨l.r,o',none⟩) n c'
 | .map none,v=>v=.map none
 | .map (some r),v=>∃ l,ρ r=some l∧v=.map (some l.r)
 | .fn f as bs,v=>∃ as' bs',v=.func f as' bs'∧VRs ρ as as'.toList∧VRs ρ bs bs'.toList
 | .nilFn,v=>v=.nilFunc
 | .iface t x,v=>∃ y,v=.iface t y∧VR ρ x y
 | .nilIface,v=>v=.nilIface
 | .agg cs,v=>∃ cs',v=.agg cs'∧VRs ρ cs cs'.toList
 | .tuple cs,v=>∃ cs',v=.tuple cs'∧VRs ρ cs cs'.toList
def VRs (ρ:Env):List EV→List Value→Prop
 | [],l=>l=[]
 | v::vs,l=>∃ v' l',l=v' :: l'∧VR ρ v v'∧VRs ρ vs l'
end
mutual
theorem VR.mono {ρ ρ':Env} (h:ρ.le ρ'):∀ (v:EV) (v':Value),VR ρ v v'→VR ρ' v v'
 | .unk,_,_=>trivial
 | .bool _,_,x=>x
 | .int _ _,_,x=>x
 | .str _,_,x=>x
 | .ptr none,_,x=>x
 | .ptr (some _),_,x=>let ⟨l,a,b⟩:=x;⟨l,h _ _ a,b⟩
 | .slice none _ _,_,x=>x
 | .slice (some _) _ _,_,x=>let ⟨l,c',o',a,b⟩:=x;⟨l,c',o',h _ _ a,b⟩
 | .map none,_,x=>x
 | .map (some _),_,x=>let ⟨l,a,b⟩:=x;⟨l,h _ _ a,b⟩
 | .fn _ as bs,_,x=>let ⟨as',bs',a,b,c⟩:=x;⟨as',bs',a,VRs.mono h as _ b,VRs.mono h bs _ c⟩
 | .nilFn,_,x=>x
 | .iface _ y,_,x=>let ⟨z,a,b⟩:=x;⟨z,a,VR.mono h y z b⟩
 | .nilIface,_,x=>x
 | .agg cs,_,x=>let ⟨cs',a,b⟩:=x;⟨cs',a,VRs.mono h cs _ b⟩
 | .tuple cs,_,x=>let ⟨cs',a,b⟩:=x;⟨cs',a,VRs.mono h cs _ b⟩
theorem VRs.mono {ρ ρ':Env} (h:ρ.le ρ'):∀ (v:List EV) (v':List Value),VRs ρ v v'→VRs ρ' v v'
 | [],_,x=>x
 | v::vs,_,x=>let ⟨v',l',a,b,c⟩:=x;⟨v',l',a,VR.mono h v v' b,VRs.mono h vs l' c⟩
end
theorem VRs.length {ρ:Env}:∀ {vs:List EV} {vs':List Value},VRs ρ vs vs'→vs'.length=vs.length
 | [],_,h=>by rw[VRs] at h;subst h;rfl
 | _::_,_,h=>by rw[VRs] at h;obtain ⟨v',l',rfl,_,b⟩:=h;simp[VRs.length b]
theorem VRs.nil {ρ:Env}:VRs ρ [] []:=by simp[VRs]
theorem VRs.cons {ρ:Env} {v:EV} {v':Value} {vs:List EV} {vs':List Value} (h:VR ρ v v') (t:VRs ρ vs vs'):VRs ρ (v::vs) (v' :: vs'):=by
 rw[VRs];exact ⟨_,_,rfl,h,t⟩
theorem VRs.get {ρ:Env}:∀ {vs:List EV} {vs':List Value} (_:VRs ρ vs vs') (i:Nat) (v:EV),vs[i]? = some v→∃ v',vs'[i]? = some v'∧VR ρ v v'
 | [],_,_,i,v,hi=>by simp at hi
 | _::_,_,h,i,v,hi=>by
   rw[VRs] at h;obtain ⟨v',l',rfl,a,b⟩:=h
   cases i with
   | zero=>simp at hi;subst hi;exact ⟨v',by simp,a⟩
   | succ i=>simp at hi ⊢;exact VRs.get b i v hi
theorem VRs.of_get {ρ:Env}:∀ {vs:List EV} {vs':List Value},vs'.length=vs.length→(∀ (i:Nat) (v:EV),vs[i]? = some v→∃ v',vs'[i]? = some v'∧VR ρ v v')→VRs ρ vs vs'
 | [],vs',hl,_=>by simp at hl;subst hl;exact VRs.nil
 | v::vs,vs',hl,h=>by
   cases vs' with
   | nil=>simp at hl
   | cons v' l'=>
     obtain ⟨x,hx,hr⟩:=h 0 v (by simp);simp at hx;subst hx
     exact VRs.cons hr (VRs.of_get (by simpa using hl) fun i w hw=>by
      obtain ⟨y,hy,hr⟩:=h (i+1) w (by simpa using hw);exact ⟨y,by simpa using hy,hr⟩)
theorem VRs.append {ρ:Env}:∀ {vs:List EV} {vs':List Value} {us:List EV} {us':List Value},VRs ρ vs vs'→VRs ρ us us'→VRs ρ (vs++us) (vs' ++ us')
 | [],_,_,_,h,k=>by rw[VRs] at h;subst h;simpa using k
 | _::_,_,_,_,h,k=>by
   rw[VRs] at h;obtain ⟨v',l',rfl,a,b⟩:=h
   simpa using VRs.cons a (VRs.append b k)
theorem VRs.take {ρ:Env} {vs:List EV} {vs':List Value} (h:VRs ρ vs vs') (n:Nat):VRs ρ (vs.take n) (vs'.take n):=by
 refine VRs.of_get (by simp[h.length]) fun i v hi=>?_
 simp only[List.getElem?_take] at hi ⊢
 by_cases hn:i<n
 ·simp only[hn,if_true] at hi ⊢;exact h.get i v hi
 ·simp[hn] at hi
theorem VRs.drop {ρ:Env} {vs:List EV} {vs':List Value} (h:VRs ρ vs vs') (n:Nat):VRs ρ (vs.drop n) (vs'.drop n):=by
 refine VRs.of_get (by simp[h.length]) fun i v hi=>?_
 simp only[List.getElem?_drop] at hi ⊢
 exact h.get _ v hi
theorem VR.one {ρ:Env} {v:EV} {v':Value} (h:VR ρ v v') (ho:v.one=true):v'.oneCell'=true:=by
 cases v<;>simp[EV.one] at ho<;>try (rw[VR] at h;subst h;rfl)
 case ptr a=>cases a<;>rw[VR] at h;(subst h;rfl);(obtain ⟨l,_,rfl⟩:=h;rfl)
 case slice a n c=>cases a<;>rw[VR] at h;(obtain ⟨_,_,rfl⟩:=h;rfl);(obtain ⟨l,c',o',_,_,_,_,rfl⟩:=h;rfl)
 case map r=>cases r<;>rw[VR] at h;(subst h;rfl);(obtain ⟨l,_,rfl⟩:=h;rfl)
 case fn=>rw[VR] at h;obtain ⟨_,_,rfl,_⟩:=h;rfl
 case iface=>rw[VR] at h;obtain ⟨_,rfl,_⟩:=h;rfl
theorem VR.cells_of_one {ρ:Env} {v:EV} {v':Value} (h:VR ρ v v') (ho:v.one=true):v'.cells = #[v']:=by
 have h1:=h.one ho
 cases v' <;> simp[Value.oneCell'] at h1<;>rfl
theorem VR.cells {ρ:Env} {v:EV} {v':Value} (h:VR ρ v v') (hk:v.known=true):VRs ρ v.cells v'.cells.toList∧∀ x∈v'.cells.toList,x.oneCell'=true:=by
 by_cases ho:v.one=true
 ·have hc:=h.cells_of_one ho;have hv:v.cells=[v]:=by cases v<;>simp[EV.one] at ho<;>rfl
  rw[hc,hv];exact ⟨VRs.cons h VRs.nil,by simp[h.one ho]⟩
 ·cases v<;>simp[EV.one,EV.known] at ho hk
  case agg cs=>
   rw[VR] at h
   obtain ⟨cs',rfl,hr⟩:=h;refine ⟨hr,fun x hx=>?_⟩;obtain ⟨i,hi⟩:=List.getElem?_of_mem hx;have hlt:i<cs.length:=by
    have:=(List.getElem?_eq_some_iff.1 hi).1;have hl:=hr.length;simp only[Value.cells] at *
    omega
   obtain ⟨y,hy,hxy⟩:=hr.get i cs[i] (by simp[hlt]);rw[Value.cells] at hi
   rw[hi] at hy
   obtain rfl:=Option.some.inj hy;exact hxy.one (hk _ (List.getElem_mem hlt))
inductive EO where
 | cells (c:List EV) (t:TypeId) (z:Nat) (wr:Bool) (fz:Nat)
 | map (es:List (EV × EV))
 | sIter (s:List UInt8) (pos:Nat)
 | raw (id:Nat) (o:Obj)
 | rng (id:Nat) (tl:List EV) (st:LoopState) (pend:Option Code) (cd:Code)
def EO.wr:EO→Bool
 | .cells _ _ _ wr _=>wr
 | _=>true
def lkp {α:Type}:List (Nat × α)→Nat→Option α
 | [],_=>none
 | (k,v)::r,n=>if k=n then some v else lkp r n
def setL {α:Type}:List (Nat × α)→Nat→α→List (Nat × α)
 | [],_,_=>[]
 | (k,v)::r,n,x=>if k=n then (k,x)::r else (k,v)::setL r n x
def dropL {α:Type}:List (Nat × α)→Nat→List (Nat × α)
 | [],_=>[]
 | (k,v)::r,n=>if k=n then dropL r n else (k,v)::dropL r n
structure Gl where
 g:Nat
 c:List Value
 t:TypeId
structure ES where
 bl:List (Nat × EO)
 nx:Nat
 gl:List Gl:=[]
def ES.get (s:ES) (b:Nat):Option EO:=if b<s.nx then lkp s.bl b else none
def ES.set (s:ES) (b:Nat) (o:EO):ES:=⟨setL s.bl b o,s.nx,s.gl⟩
def ES.new (s:ES) (o:EO):ES:=⟨(s.nx,o)::s.bl,s.nx+1,s.gl⟩
def ES.kill (s:ES) (b:Nat):ES:=⟨dropL s.bl b,s.nx,s.gl⟩
theorem zWF {α:Type} (l:List (Nat × α)) (n:Nat) (x:α) (m:Nat):lkp (setL l n x) m=if n=m then (lkp l n).map (fun _=>x) else lkp l m:=by
 induction l with
 | nil=>simp[lkp,setL]
 | cons kv r ih=>
   obtain ⟨k,v⟩:=kv;simp only[setL,lkp]
   by_cases h:k=n
   ·subst h
    by_cases h2:k=m
    ·simp[lkp,h2]
    ·simp[lkp,h2]
   ·simp only[h,if_false,lkp,ih]
    by_cases h2:k=m
    ·subst h2;simp[show ¬ n=k from fun e=>h e.symm]
    ·simp[h2]
theorem zPZ {α:Type} (l:List (Nat × α)) (n m:Nat):lkp (dropL l n) m=if n=m then none else lkp l m:=by
 induction l with
 | nil=>simp[lkp,dropL]
 | cons kv r ih=>
   obtain ⟨k,v⟩:=kv;simp only[dropL,lkp]
   by_cases h:k=n
   ·subst h;simp only[if_true,ih]
    by_cases h2:k=m<;>simp[h2]
   ·simp only[h,if_false,lkp,ih]
    by_cases h2:k=m
    ·subst h2;simp[show ¬ n=k from fun e=>h e.symm]
    ·simp[h2]
theorem ES.get_set (s:ES) (b:Nat) (o:EO) (c:Nat):(s.set b o).get c=if b=c then (s.get b).map (fun _=>o) else s.get c:=by
 simp only[ES.get,ES.set,zWF]
 by_cases h:b=c
 ·subst h;simp only[if_true];split<;>rfl
 ·simp only[h,if_false]
theorem ES.get_new (s:ES) (o:EO) (c:Nat):(s.new o).get c=if s.nx=c then some o else s.get c:=by
 simp only[ES.get,ES.new,lkp]
 by_cases h:s.nx=c
 ·subst h;simp
 ·simp only[h,if_false]
  by_cases h2:c<s.nx
  ·rw[if_pos (by omega),if_pos h2]
  ·rw[if_neg (by omega),if_neg h2]
theorem ES.get_kill (s:ES) (b c:Nat):(s.kill b).get c=if b=c then none else s.get c:=by
 simp only[ES.get,ES.kill,zPZ]
 by_cases h:b=c
 ·subst h;simp
 ·simp only[h,if_false]
theorem ES.get_lt {s:ES} {b:Nat} {o:EO} (h:s.get b=some o):b<s.nx∧lkp s.bl b=some o:=by
 unfold ES.get at h
 split at h
 ·exact ⟨by assumption,h⟩
 ·cases h
def free (fr:Nat × Nat) (i:Nat):Prop:=¬ (fr.1≤i∧i<fr.2)
def rfP:Code→Array Tmp
 | .rangeFunc _ ps _ _=>ps
 | _=>#[]
def rfA:Code→Code
 | .rangeFunc _ _ a _=>a
 | _=>.skip
def rfB:Code→Code
 | .rangeFunc _ _ _ b=>b
 | _=>.skip
def BR (ρ:Env) (w:World) (l:Loc):EO→Prop
 | .cells c t z wr fz=>l.n=c.length∧l.z=z∧(z=0→l.e=l.n)∧l.n≤l.e∧∃ cs fr,w.heap[l.r]? = some (.cells cs t fr)∧(l.d+l.e≤cs.size∧(wr=true→z=0→l.d=0∧cs.size=l.n)) ∧
   (∀ (i:Nat) (v:EV),c[i]? = some v→∃ v',cs[l.d+i]? = some v'∧VR ρ v v')∧(wr=true→∀ i,fz≤i→(i<l.e∨(z=0∧i=l.e))→free fr (l.d+i))
 | .map es=>∃ (es':Array MapEntry) (clock:Nat),w.heap[l.r]? = some (.map es' clock)∧(es'.size=es.length∧(∀ x∈es'.toList,x.born<clock)∧(es'.toList.map (·.born)).Nodup)∧∀ (i:Nat) (k v:EV),es[i]? = some (k,v)→∃ e,es'[i]? = some e∧VR ρ k e.key∧VR ρ v e.val
 | .sIter s pos=>l.d=0∧w.heap[l.r]? = some (.stringIter ⟨s.toArray⟩ pos)
 | .raw id o=>l.r=id∧w.heap[l.r]? = some o
 | .rng id tl st pend cd=>l.r=id∧∃ fn tm dfr,w.heap[l.r]? = some (.loop { state:=st,pending:=pend,fn:=fn,tmps:=tm,params:=rfP cd,assign:=rfA cd,body:=rfB cd,defers:=dfr })∧VRs ρ tl tm.toList
structure Rel0 (ρ:Env) (s:ES) (w:World):Prop where
 live:∀ b o l,s.get b=some o→ρ b=some l→BR ρ w l o
 fresh:∀ i,s.nx≤i→ρ i=none
 sep:∀ b b' o o' l l',s.get b=some o→s.get b'=some o'→ρ b=some l→ρ b'=some l'→b ≠ b'→o.wr=true→l.r ≠ l'.r
 dom:∀ b o,s.get b=some o→∃ l,ρ b=some l
def ySF (ρ:Env) (s:ES) (r:Nat):Prop:=∃ b o l,s.get b=some o∧ρ b=some l∧o.wr=true∧l.r=r
def GlOK (w:World) (x:Gl):Prop:=∃ fr,w.heap[x.g]? = some (.cells x.c.toArray x.t fr)
structure Rel (ρ:Env) (s:ES) (w:World):Prop extends Rel0 ρ s w where
 glob:∀ x∈s.gl,GlOK w x∧¬ ySF ρ s x.g
structure StepW (own:Nat→Prop) (w w':World):Prop where
 os:w'.os=w.os
 tape:w'.tape=w.tape
 output:w'.output=w.output
 size:w.heap.size≤w'.heap.size
 block:∀ r,r<w.heap.size→¬ own r→w'.heap[r]? = w.heap[r]?
structure Go1 (ρ:Env) (s:ES) (w:World) (ρ':Env) (s':ES) (w':World):Prop where
 rel0:Rel0 ρ' s' w'
 old:∀ i,i<s.nx→ρ' i=ρ i
 nx:s.nx≤s'.nx
 was:Rel ρ s w
 gone:∀ b,b<s.nx→s.get b=none→s'.get b=none
 step:StepW (ySF ρ s) w w'
 src:∀ b o l,s'.get b=some o→ρ' b=some l→(∃ b0 o0 l0,s.get b0=some o0∧ρ b0=some l0∧l0.r=l.r∧(o.wr=true→o0.wr=true))∨w.heap.size≤l.r
 gl:s'.gl=s.gl
theorem Go1.le {ρ ρ1:Env} {s s1:ES} {w w1:World} (h:Go1 ρ s w ρ1 s1 w1):ρ.le ρ1:=fun b l hb=>by
 rw[h.old b (by
  rcases Nat.lt_or_ge b s.nx with h1 | h1
  ·exact h1
  ·rw[h.was.fresh b h1] at hb;cases hb)]
 exact hb
theorem Go1.own {ρ ρ1:Env} {s s1:ES} {w w1:World} (h:Go1 ρ s w ρ1 s1 w1) (r:Nat) (hr:ySF ρ1 s1 r):ySF ρ s r∨w.heap.size≤r:=by
 obtain ⟨b,o,l,hg,hl,hw,rfl⟩:=hr
 rcases h.src b o l hg hl with ⟨b0,o0,l0,a1,a2,a3,a4⟩ | h1
 ·exact .inl ⟨b0,o0,l0,a1,a2,a4 hw,a3⟩
 ·exact .inr h1
theorem Go1.rel {ρ ρ1:Env} {s s1:ES} {w w1:World} (h:Go1 ρ s w ρ1 s1 w1):Rel ρ1 s1 w1:=⟨h.rel0,fun x hx=>by
 rw[h.gl] at hx
 obtain ⟨⟨fr,h1⟩,h2⟩:=h.was.glob x hx;have hlt:x.g<w.heap.size:=(Array.getElem?_eq_some_iff.1 h1).1;refine ⟨⟨fr,by rw[h.step.block x.g hlt h2];exact h1⟩,fun ho=>?_⟩
 rcases h.own x.g ho with h3 | h3
 ·exact h2 h3
 ·omega⟩
theorem StepW.refl (own:Nat→Prop) (w:World):StepW own w w:=⟨rfl,rfl,rfl,Nat.le_refl _,fun _ _ _=>rfl⟩
theorem Go1.refl {ρ:Env} {s:ES} {w:World} (h:Rel ρ s w)   : Go1 ρ s w ρ s w:=⟨h.toRel0,fun _ _=>rfl,Nat.le_refl _,h,fun _ _ h=>h,StepW.refl _ _,fun b o l hg hl=>.inl ⟨b,o,l,hg,hl,rfl,id⟩,rfl⟩
theorem Go1.trans {ρ ρ1 ρ2:Env} {s s1 s2:ES} {w w1 w2:World} (h:Go1 ρ s w ρ1 s1 w1) (k:Go1 ρ1 s1 w1 ρ2 s2 w2):Go1 ρ s w ρ2 s2 w2 where
 rel0:=k.rel0
 gl:=k.gl.trans h.gl
 old:=fun i hi=>(k.old i (Nat.lt_of_lt_of_le hi h.nx)).trans (h.old i hi)
 nx:=Nat.le_trans h.nx k.nx
 was:=h.was
 gone:=fun b hb hn=>k.gone b (Nat.lt_of_lt_of_le hb h.nx) (h.gone b hb hn)
 step:=⟨k.step.os.trans h.step.os,k.step.tape.trans h.step.tape,k.step.output.trans h.step.output,Nat.le_trans h.step.size k.step.size,fun r hr ho=>by
  rw[k.step.block r (Nat.lt_of_lt_of_le hr h.step.size) (fun o=>by
   rcases h.own r o with h1 | h1
   ·exact ho h1
   ·omega),h.step.block r hr ho]⟩
 src:=fun b o l hg hl=>by
  rcases k.src b o l hg hl with ⟨b1,o1,l1,a1,a2,a3,a4⟩ | h1
  ·rcases h.src b1 o1 l1 a1 a2 with ⟨b0,o0,l0,c1,c2,c3,c4⟩ | h2
   ·exact .inl ⟨b0,o0,l0,c1,c2,c3.trans a3,fun e=>c4 (a4 e)⟩
   ·exact .inr (a3 ▸ h2)
  ·exact .inr (Nat.le_trans h.step.size h1)
structure GoK (k:Nat) (ρ:Env) (s:ES) (w:World) (ρ':Env) (s':ES) (w':World):Prop where
 rel0:Rel0 ρ' s' w'
 old:∀ i,i<k→ρ' i=ρ i
 nx:k≤s'.nx
 gone:∀ b,b<k→s.get b=none→s'.get b=none
 step:StepW (ySF ρ s) w w'
 src:∀ b o l,s'.get b=some o→ρ' b=some l→(∃ b0 o0 l0,s.get b0=some o0∧ρ b0=some l0∧l0.r=l.r∧(o.wr=true→o0.wr=true))∨w.heap.size≤l.r
 gl:s'.gl=s.gl
 was:Rel ρ s w
theorem GoK.own {k:Nat} {ρ ρ1:Env} {s s1:ES} {w w1:World} (h:GoK k ρ s w ρ1 s1 w1) (r:Nat) (hr:ySF ρ1 s1 r):ySF ρ s r∨w.heap.size≤r:=by
 obtain ⟨b,o,l,hg,hl,hw,rfl⟩:=hr
 rcases h.src b o l hg hl with ⟨b0,o0,l0,a1,a2,a3,a4⟩ | h1
 ·exact .inl ⟨b0,o0,l0,a1,a2,a4 hw,a3⟩
 ·exact .inr h1
theorem GoK.rel {k:Nat} {ρ ρ1:Env} {s s1:ES} {w w1:World} (h:GoK k ρ s w ρ1 s1 w1):Rel ρ1 s1 w1:=⟨h.rel0,fun x hx=>by
 rw[h.gl] at hx
 obtain ⟨⟨fr,h1⟩,h2⟩:=h.was.glob x hx;have hlt:x.g<w.heap.size:=(Array.getElem?_eq_some_iff.1 h1).1;refine ⟨⟨fr,by rw[h.step.block x.g hlt h2];exact h1⟩,fun ho=>?_⟩
 rcases h.own x.g ho with h3 | h3
 ·exact h2 h3
 ·omega⟩
theorem Go1.toK {ρ ρ1:Env} {s s1:ES} {w w1:World} (h:Go1 ρ s w ρ1 s1 w1) {k:Nat} (hk:k≤s.nx):GoK k ρ s w ρ1 s1 w1:=⟨h.rel0,fun i hi=>h.old i (by omega),Nat.le_trans hk h.nx,fun b hb hn=>h.gone b (by omega) hn,h.step,h.src,h.gl,h.was⟩
theorem GoK.refl {k:Nat} {ρ:Env} {s:ES} {w:World} (h:Rel ρ s w) (hk:k≤s.nx):GoK k ρ s w ρ s w:=(Go1.refl h).toK hk
theorem GoK.trans {k:Nat} {ρ ρ1 ρ2:Env} {s s1 s2:ES} {w w1 w2:World} (h:GoK k ρ s w ρ1 s1 w1) (g:GoK k ρ1 s1 w1 ρ2 s2 w2):GoK k ρ s w ρ2 s2 w2 where
 rel0:=g.rel0
 gl:=g.gl.trans h.gl
 was:=h.was
 old:=fun i hi=>(g.old i hi).trans (h.old i hi)
 nx:=g.nx
 gone:=fun b hb hn=>g.gone b hb (h.gone b hb hn)
 step:=⟨g.step.os.trans h.step.os,g.step.tape.trans h.step.tape,g.step.output.trans h.step.output,Nat.le_trans h.step.size g.step.size,fun r hr ho=>by
  rw[g.step.block r (Nat.lt_of_lt_of_le hr h.step.size) (fun o=>by
   rcases h.own r o with h1 | h1
   ·exact ho h1
   ·omega),h.step.block r hr ho]⟩
 src:=fun b o l hg hl=>by
  rcases g.src b o l hg hl with ⟨b1,o1,l1,a1,a2,a3,a4⟩ | h1
  ·rcases h.src b1 o1 l1 a1 a2 with ⟨b0,o0,l0,c1,c2,c3,c4⟩ | h2
   ·exact .inl ⟨b0,o0,l0,c1,c2,c3.trans a3,fun e=>c4 (a4 e)⟩
   ·exact .inr (a3 ▸ h2)
  ·exact .inr (Nat.le_trans h.step.size h1)
theorem GoK.to1 {ρ ρ1:Env} {s s1:ES} {w w1:World} (h:GoK s.nx ρ s w ρ1 s1 w1) (hR:Rel ρ s w):Go1 ρ s w ρ1 s1 w1:=⟨h.rel0,h.old,h.nx,hR,h.gone,h.step,h.src,h.gl⟩
theorem BR.lt {ρ:Env} {w:World} {l:Loc} {o:EO} (h:BR ρ w l o):l.r<w.heap.size:=by
 cases o with
 | cells c t z wr fz=>obtain ⟨_,_,_,_,cs,fr,hh,_⟩:=h;exact (Array.getElem?_eq_some_iff.1 hh).1
 | map es=>obtain ⟨es',cl,hh,_⟩:=h;exact (Array.getElem?_eq_some_iff.1 hh).1
 | sIter s p=>exact (Array.getElem?_eq_some_iff.1 h.2).1
 | raw id o=>exact (Array.getElem?_eq_some_iff.1 h.2).1
 | rng id tl st pend cd=>obtain ⟨_,fn,tm,dfr,hh,_⟩:=h;exact (Array.getElem?_eq_some_iff.1 hh).1
theorem BR.mono {ρ ρ':Env} {w w':World} {l:Loc} {o:EO} (h:BR ρ w l o) (hle:ρ.le ρ') (hb:w'.heap[l.r]? = w.heap[l.r]?):BR ρ' w' l o:=by
 cases o with
 | cells c t z wr fz=>
   obtain ⟨h1,h2,h3,h4,cs,fr,h5,h6,h7,h8⟩:=h;exact ⟨h1,h2,h3,h4,cs,fr,hb ▸ h5,h6,fun i v hi=>let ⟨v',a,b⟩:=h7 i v hi;⟨v',a,b.mono hle⟩,h8⟩
 | map es=>
   obtain ⟨es',cl,h1,h2,h3⟩:=h;exact ⟨es',cl,hb ▸ h1,h2,fun i k v hi=>let ⟨e,a,b,c⟩:=h3 i k v hi;⟨e,a,b.mono hle,c.mono hle⟩⟩
 | sIter s p=>exact ⟨h.1,hb.trans h.2⟩
 | raw id o=>exact ⟨h.1,hb.trans h.2⟩
 | rng id tl st pend cd=>obtain ⟨h1,fn,tm,dfr,h2,h3⟩:=h;exact ⟨h1,fn,tm,dfr,hb.trans h2,VRs.mono hle _ _ h3⟩
theorem Rel.new {ρ:Env} {s:ES} {w:World} (h:Rel ρ s w) (o:EO) (ob:Obj) (l:Loc) (hl:l.r=w.heap.size)
  (hbr:BR (fun i=>if i=s.nx then some l else ρ i) (w.alloc ob) l o) :
  Go1 ρ s w (fun i=>if i=s.nx then some l else ρ i) (s.new o) (w.alloc ob):=by
 have hle:ρ.le (fun i=>if i=s.nx then some l else ρ i):=fun b l' hb=>by
  by_cases hx:b=s.nx
  ·rw[h.fresh b (by omega)] at hb;cases hb
  ·simp[hx,hb]
 have hold:∀ r,r<w.heap.size→(w.alloc ob).heap[r]? = w.heap[r]?:=fun r hr=>by
  simp only[World.alloc,Array.getElem?_push,Nat.ne_of_lt hr,if_false]
 refine ⟨⟨?_,?_,?_,?_⟩,fun i hi=>by simp[show ¬ i=s.nx by omega],by simp[ES.new],h,fun b hb hn=>by rw[ES.get_new,if_neg (by omega)];exact hn,⟨rfl,rfl,rfl,by simp,fun r hr _=>hold r hr⟩,?_,rfl⟩
 ·intro b o' l' hg hr;rw[ES.get_new] at hg
  by_cases hx:s.nx=b
  ·subst hx;simp at hg hr;subst hg;subst hr;exact hbr
  ·simp only[hx,if_false] at hg
   simp only[show ¬ b=s.nx from fun e=>hx e.symm,if_false] at hr
   have:=h.live b o' l' hg hr;exact this.mono hle (hold _ this.lt)
 ·intro i hi;have:¬ i=s.nx:=by simp only[ES.new] at hi;omega
  simp only[this,if_false];exact h.fresh i (by simp only[ES.new] at hi;omega)
 ·intro b b' o1 o2 l1 l2 hg hg' hr hr' hne hw;rw[ES.get_new] at hg hg'
  by_cases hx:s.nx=b
  ·subst hx;simp at hg hr;subst hg;subst hr
   simp only[hne,if_false] at hg'
   simp only[show ¬ b'=s.nx from fun e=>hne e.symm,if_false] at hr'
   have:=(h.live b' o2 l2 hg' hr').lt;omega
  ·simp only[hx,if_false] at hg
   simp only[show ¬ b=s.nx from fun e=>hx e.symm,if_false] at hr
   have h1:=(h.live b o1 l1 hg hr).lt
   by_cases hy:s.nx=b'
   ·subst hy;simp at hg' hr';subst hg';subst hr'
    omega
   ·simp only[hy,if_false] at hg'
    simp only[show ¬ b'=s.nx from fun e=>hy e.symm,if_false] at hr'
    exact h.sep b b' o1 o2 l1 l2 hg hg' hr hr' hne hw
 ·intro b o' hg;rw[ES.get_new] at hg
  by_cases hx:s.nx=b
  ·exact ⟨l,if_pos hx.symm⟩
  ·rw[if_neg hx] at hg
   obtain ⟨l',hl'⟩:=h.dom b o' hg;exact ⟨l',hle _ _ hl'⟩
 ·intro b o' l' hg hr;rw[ES.get_new] at hg
  by_cases hx:s.nx=b
  ·subst hx;simp at hr;subst hr
   exact .inr (by omega)
  ·simp only[hx,if_false] at hg
   simp only[show ¬ b=s.nx from fun e=>hx e.symm,if_false] at hr
   exact .inl ⟨b,o',l',hg,hr,rfl,id⟩
theorem Rel.turn0 {ρ:Env} {s:ES} {w w':World} (h:Rel ρ s w) (b:Nat) (o o':EO) (l:Loc) (hg:s.get b=some o) (hr:ρ b=some l) (hw:o.wr=true)
  (hos:w'.os=w.os) (htape:w'.tape=w.tape) (hout:w'.output=w.output) (hsize:w'.heap.size=w.heap.size) (hold:∀ r,r ≠ l.r→w'.heap[r]? = w.heap[r]?)
  (hbr:BR ρ w' l o'):Go1 ρ s w ρ (s.set b o') w':=by
 have hget:∀ c x,(s.set b o').get c=some x→(b=c∧x=o')∨(b ≠ c∧s.get c=some x):=by
  intro c x hx;rw[ES.get_set] at hx
  by_cases hbc:b=c
  ·subst hbc;simp[hg] at hx;exact .inl ⟨rfl,hx.symm⟩
  ·simp only[hbc,if_false] at hx;exact .inr ⟨hbc,hx⟩
 refine ⟨⟨?_,h.fresh,?_,?_⟩,fun _ _=>rfl,Nat.le_refl _,h,fun c _ hn=>by (rw[ES.get_set];split;(rename_i hbc;subst hbc;rw[hg] at hn;cases hn);exact hn),⟨hos,htape,hout,by omega,fun r _ ho=>hold r (fun e=>ho ⟨b,o,l,hg,hr,hw,e.symm⟩)⟩,?_,rfl⟩
 ·intro c x l' hx hl'
  rcases hget c x hx with ⟨rfl,rfl⟩ | ⟨hne,hx'⟩
  ·rw[hr] at hl';cases hl';exact hbr
  ·exact (h.live c x l' hx' hl').mono (Env.le_refl _) (hold _ (fun e=>h.sep b c o x l l' hg hx' hr hl' hne hw e.symm))
 ·intro c c' x x' l1 l2 hx hx' hl1 hl2 hne hwx
  rcases hget c x hx with ⟨rfl,rfl⟩ | ⟨hn1,hx1⟩
  ·rcases hget c' x' hx' with ⟨rfl,rfl⟩ | ⟨hn2,hx2⟩
   ·exact absurd rfl hne
   ·exact h.sep b c' o x' l1 l2 hg hx2 hl1 hl2 hne hw
  ·rcases hget c' x' hx' with ⟨rfl,rfl⟩ | ⟨hn2,hx2⟩
   ·exact h.sep c b x o l1 l2 hx1 hg hl1 hl2 hne hwx
   ·exact h.sep c c' x x' l1 l2 hx1 hx2 hl1 hl2 hne hwx
 ·intro c x hx
  rcases hget c x hx with ⟨rfl,rfl⟩ | ⟨hne,hx'⟩
  ·exact ⟨l,hr⟩
  ·exact h.dom c x hx'
 ·intro c x l' hx hl'
  rcases hget c x hx with ⟨rfl,rfl⟩ | ⟨hne,hx'⟩
  ·exact .inl ⟨b,o,l',hg,hl',rfl,fun _=>hw⟩
  ·exact .inl ⟨c,x,l',hx',hl',rfl,id⟩
theorem Rel.turn {ρ:Env} {s:ES} {w w':World} (h:Rel ρ s w) (b:Nat) (o o':EO) (l:Loc) (hg:s.get b=some o) (hr:ρ b=some l) (hw:o.wr=true)
  (hos:w'.os=w.os) (htape:w'.tape=w.tape) (hout:w'.output=w.output) (hsize:w'.heap.size=w.heap.size) (hold:∀ r,r ≠ l.r→w'.heap[r]? = w.heap[r]?)
  (hbr:BR ρ w' l o') (_:o'.wr=true):Go1 ρ s w ρ (s.set b o') w':=h.turn0 b o o' l hg hr hw hos htape hout hsize hold hbr
theorem Rel.less {ρ:Env} {s s':ES} {w:World} (h:Rel ρ s w) (hget:∀ b o,s'.get b=some o→s.get b=some o) (hnx:s.nx≤s'.nx) (hgl:s'.gl=s.gl):Go1 ρ s w ρ s' w where
 gl:=hgl
 rel0:=⟨fun b o l hg hr=>h.live b o l (hget b o hg) hr,fun i hi=>h.fresh i (by omega),fun b b' o o' l l' hg hg' hr hr' hne hw=>h.sep b b' o o' l l' (hget b o hg) (hget b' o' hg') hr hr' hne hw,fun b o hg=>h.dom b o (hget b o hg)⟩
 old:=fun _ _=>rfl
 nx:=hnx
 was:=h
 gone:=fun b _ hn=>by
  cases hx:s'.get b with
  | none=>rfl
  | some o=>rw[hget b o hx] at hn;cases hn
 step:=StepW.refl _ _
 src:=fun b o l hg hr=>.inl ⟨b,o,l,hget b o hg,hr,rfl,id⟩
structure Fr where
 m:List (Nat × EV)
 d:EV
 n:Nat
 ds:List Deferred:=[]
def Fr.lk (fr:Fr) (t:Nat):EV:=match lkp fr.m t with | some v=>v | none=>fr.d
def Fr.put (fr:Fr) (t:Nat) (v:EV):Fr:=⟨(t,v)::fr.m,fr.d,fr.n,fr.ds⟩
def Fr.putO (fr:Fr) (t:Option Nat) (v:EV):Fr:=match t with | some t=>fr.put t v | none=>fr
def zMY (n:Nat) (t:Option Nat):Prop:=match t with | some t=>t<n | none=>True
structure FR (ρ:Env) (fr:Fr) (a:Act):Prop where
 defers:a.defers=fr.ds
 size:a.tmps.size=fr.n
 slot:∀ t,VR ρ (fr.lk t) (a.tmps.getD t undef)
theorem FR.mono {ρ ρ':Env} {fr:Fr} {a:Act} (h:FR ρ fr a) (hle:ρ.le ρ'):FR ρ' fr a:=⟨h.defers,h.size,fun t=>(h.slot t).mono hle⟩
theorem VR.undef {ρ:Env}:VR ρ zVP Go.undef:=by rw[zVP,VR];exact ⟨#[],rfl,VRs.nil⟩
theorem FR.put {ρ:Env} {fr:Fr} {a:Act} (h:FR ρ fr a) (t:Option Nat) (v:EV) (v':Value) (ht:zMY fr.n t) (hv:VR ρ v v'):FR ρ (fr.putO t v) (a.put t v'):=by
 cases t with
 | none=>exact h
 | some t=>
   refine ⟨h.defers,by simp[Act.put,Fr.putO,Fr.put,h.size],fun u=>?_⟩;simp only[Fr.putO,Fr.put,Fr.lk,lkp,Act.put];have ht':t<a.tmps.size:=by rw[h.size];exact ht
   by_cases hu:t=u
   ·subst hu;simp only[if_true,Array.getD_eq_getD_getElem?,Array.getElem?_setIfInBounds_self,ht',Option.getD_some];exact hv
   ·have:=h.slot u;simp only[Fr.lk] at this
    simp only[hu,if_false,Array.getD_eq_getD_getElem?,Array.getElem?_setIfInBounds_ne hu];rw[Array.getD_eq_getD_getElem?] at this
    exact this
def ofV:Value→EV
 | .bool b=>.bool b
 | .int k n=>.int k n
 | .string s=>.str s.data.toList
 | .pointer none=>.ptr none
 | .slice none 0 0=>.slice none 0 0
 | .map none=>.map none
 | .nilFunc=>.nilFn
 | .nilIface=>.nilIface
 | _=>.unk
theorem VR.ofV {ρ:Env} (v:Value):VR ρ (ofV v) v:=by
 unfold E.ofV
 split<;>first|(rw[VR];done)|(rw[VR];simp)|skip
 all_goals first|trivial|(simp[VR];done)
def ev (fr:Fr):Operand→EV
 | .tmp t=>fr.lk t
 | .const v=>ofV v
 | .func f=>.fn (.func f) [] []
 | .global _=>.unk
theorem FR.ev {ρ:Env} {fr:Fr} {a:Act} (h:FR ρ fr a) (x:Operand):VR ρ (E.ev fr x) (a.eval x):=by
 cases x with
 | tmp t=>exact h.slot t
 | const v=>exact VR.ofV v
 | func f=>simp only[E.ev,Act.eval,VR];exact ⟨#[],#[],rfl,VRs.nil,VRs.nil⟩
 | global g=>simp only[E.ev,VR]
end
section
inductive UT where
 | bool | int (k:IntKind) | str
 | ptr (e:Nat)
 | slice (e:Nat)
 | arr (n e:Nat)
 | struct (fs:List (Nat × Nat))
 | map (k v:Nat)
 | iface | func | tuple | other
def zRY:TypeDesc→UT
 | .bool=>.bool
 | .int k=>.int k
 | .string=>.str
 | .pointer e=>.ptr e
 | .slice e=>.slice e
 | .array n e=>.arr n e
 | .struct fs=>.struct (fs.toList.map fun f=>(f.offset,f.type))
 | .map k v=>.map k v
 | .interface _=>.iface
 | .func _ _ _=>.func
 | .tuple _=>.tuple
 | _=>.other
def UT.agg:UT→Bool
 | .struct _ | .arr _ _=>true
 | _=>false
structure TI where
 u:UT
 size:Nat
 bytes:Nat
 zero:List EV
def zXZ (P:Program) (t:TypeId):Option TI:=
 match P.info? t,P.underlying t with
 | some i,some d=>match i.zero with
   | some z=>some ⟨zRY d,i.size,i.bytes,z.cells.toList.map ofV⟩
   | none=>none
 | _,_=>none
structure TIs (P:Program) (t:TypeId) (i:TI) (inf:TypeInfo) (d:TypeDesc) (z:Value):Prop where
 info:P.info? t=some inf
 und:P.underlying t=some d
 zero:inf.zero=some z
 u:i.u=zRY d
 size:i.size=inf.size
 bytes:i.bytes=inf.bytes
 cells:i.zero=z.cells.toList.map ofV
theorem zQG {P:Program} {t:TypeId} {i:TI} (h:zXZ P t=some i):∃ inf d z,TIs P t i inf d z:=by
 unfold zXZ at h
 split at h
 ·rename_i inf d h1 h2
  split at h
  ·rename_i z hz
   cases h
   exact ⟨inf,d,z,h1,h2,hz,rfl,rfl,rfl,rfl⟩
  ·cases h
 ·cases h
theorem VRs.ofV {ρ:Env} (l:List Value):VRs ρ (l.map E.ofV) l:=by
 induction l with
 | nil=>exact VRs.nil
 | cons v l ih=>exact VRs.cons (VR.ofV v) ih
section runs
variable {P:Program} {t:TypeId} {i:TI} {inf:TypeInfo} {d:TypeDesc} {z:Value} (h:TIs P t i inf d z) (w:World)
include h
theorem TIs.run_und:(underlying t).run P w=.ok d w:=run_underlying h.und w
theorem TIs.run_info:(typeInfo t).run P w=.ok inf w:=by simp[typeInfo,h.info]
theorem TIs.run_size:(sizeOf t).run P w=.ok i.size w:=by simp[sizeOf,h.run_info w,h.size]
theorem TIs.run_zero:(zeroValue t).run P w=.ok z w:=by simp[zeroValue,h.run_info w,h.zero]
theorem TIs.run_agg:(isAgg t).run P w=.ok i.u.agg w:=by
 simp only[isAgg,Sem.run_bind,h.run_und w,Result.andThen_ok,h.u]
 cases d<;>simp[zRY,UT.agg]
end runs
theorem zVR (r x n:Nat):(⟨r,x,none⟩:Addr).add n=⟨r,x+n,none⟩:=by
 unfold Addr.add;split<;>simp_all
theorem BR.cell {ρ:Env} {w:World} {l:Loc} {c:List EV} {t:TypeId} {z fz:Nat} {wr:Bool} (h:BR ρ w l (.cells c t z wr fz)) {i:Nat} {v:EV} (hi:c[i]? = some v) :
  ∃ v',w.cell? ⟨l.r,i+l.d,none⟩=some v'∧VR ρ v v':=by
 obtain ⟨_,_,_,_,cs,fr,hh,_,h7,_⟩:=h;obtain ⟨v',a,b⟩:=h7 i v hi;exact ⟨v',by simp[World.cell?,hh,Nat.add_comm i,a],b⟩
def RunV (P:Program) (ρ:Env) (s:ES) (w:World) (m:Sem Value) (K:EV→ES→Prop):Prop:=
 ∃ v v' s' ρ' w',m.run P w=.ok v' w'∧VR ρ' v v'∧Go1 ρ s w ρ' s' w'∧K v s'
theorem RunV.pure {P:Program} {ρ:Env} {s:ES} {w:World} {m:Sem Value} {K:EV→ES→Prop} {v:EV} {v':Value} (hR:Rel ρ s w) (h:m.run P w=.ok v' w) (hv:VR ρ v v') (hK:K v s):RunV P ρ s w m K:=
 ⟨v,v',s,ρ,w,h,hv,Go1.refl hR,hK⟩
def yMP (i:TI) (x:EV) (s:ES) (K:EV→Prop):Prop:=
 match x with
 | .ptr (some a)=>match s.get a.b with
   | some (.cells c _ _ _ _)=>if i.u.agg=true then a.o+i.size≤c.length∧K (.agg ((c.drop a.o).take i.size)) else match c[a.o]? with
     | some v=>K v
     | none=>False
   | _=>False
 | _=>False
theorem yTX {P:Program} {t:TypeId} {i:TI} (hi:zXZ P t=some i) {x:EV} {x':Value} {s:ES} {K:EV→Prop} (h:yMP i x s K) {ρ:Env} {w:World} (hR:Rel ρ s w) (hx:VR ρ x x') :
  ∃ v,K v∧∃ v',VR ρ v v'∧(Instr.loadAt t x').run P w=.ok v' w∧∃ a,x'=.pointer (some a):=by
 obtain ⟨inf,d,z,T⟩:=zQG hi;unfold yMP at h
 split at h
 ·rename_i a
  rw[VR] at hx
  obtain ⟨l,hl,rfl⟩:=hx
  split at h
  ·rename_i c t' z' wr fz hg
   have hb:=hR.live _ _ _ hg hl
   by_cases ha:i.u.agg=true
   ·rw[if_pos ha] at h
    obtain ⟨hle,hK⟩:=h;have hb':=hb;obtain ⟨_,_,_,_,cs,fr,hh,hsz,h7,_⟩:=hb';have hcs:VRs ρ ((c.drop a.o).take i.size) ((cs.toList.drop (a.o+l.d)).take i.size):=by
     refine VRs.of_get ?_ fun j v hj=>?_
     ·simp;omega
     ·simp only[List.getElem?_take,List.getElem?_drop] at hj ⊢
      split at hj
      ·obtain ⟨v',hv',hr⟩:=h7 _ v hj
       rename_i hlt
       refine ⟨v',?_,hr⟩;rw[if_pos hlt];rw[show a.o+l.d+j=l.d+(a.o+j) by omega]
       simpa using hv'
      ·cases hj
    refine ⟨.agg ((c.drop a.o).take i.size),hK,.agg ((cs.toList.drop (a.o+l.d)).take i.size).toArray,?_,?_,_,rfl⟩
    rotate_left
    ·simp only[Instr.loadAt,Instr.sureAddr,loadVar,Sem.run_bind,Sem.run_pure,Result.andThen_ok,T.run_agg w,ha,if_true,T.run_size w];have hlen:((cs.toList.drop (a.o+l.d)).take i.size).length=i.size:=by
      rw[hcs.length];simp;omega
     have:=run_loadCells_list (P:=P) w ⟨l.r,a.o+l.d,none⟩ ((cs.toList.drop (a.o+l.d)).take i.size) (fun j v hj=>by
      rw[zVR];simp only[List.getElem?_take,List.getElem?_drop] at hj
      split at hj
      ·simp only[World.cell?,hh];simpa using hj
      ·cases hj)
     rw[hlen] at this
     rw[this];rfl
    ·rw[VR];exact ⟨_,rfl,by simpa using hcs⟩
   ·rw[if_neg ha] at h
    split at h
    ·rename_i v hv
     obtain ⟨v',hc,hr⟩:=hb.cell hv;refine ⟨v,h,v',hr,?_,_,rfl⟩;simp only[Instr.loadAt,Instr.sureAddr,loadVar,Sem.run_bind,Sem.run_pure,Result.andThen_ok,T.run_agg w,ha,if_false,Bool.false_eq_true];simp[hc]
    ·exact h.elim
  ·exact h.elim
 ·exact h.elim
def yDS (c:List EV) (o:Nat) (vs:List EV):List EV:=
 match vs with
 | [v]=>c.set o v
 | vs=>c.take o++(vs++c.drop (o+vs.length))
def zZH (c:List EV) (o:Nat) (vs:List EV):List EV:=c.take o++(vs++c.drop (o+vs.length))
theorem yBD (c:List EV) (o:Nat) (vs:List EV) (h:o+vs.length≤c.length) (i:Nat):(zZH c o vs)[i]? = if o≤i∧i<o+vs.length then vs[i - o]? else c[i]?:=by
 unfold zZH;simp only[List.getElem?_append,List.length_take,List.getElem?_take,List.getElem?_drop];rw[Nat.min_eq_left (by omega)]
 by_cases h1:i<o
 ·rw[if_pos h1,if_pos h1,if_neg (by omega)]
 ·rw[if_neg h1]
  by_cases h2:i<o+vs.length
  ·rw[if_pos (by omega),if_pos (by omega)]
  ·rw[if_neg (by omega),if_neg (by omega)]
   congr 1;omega
theorem xPW (c:List EV) (o:Nat) (vs:List EV) (h:o+vs.length≤c.length) (i:Nat):(yDS c o vs)[i]? = if o≤i∧i<o+vs.length then vs[i - o]? else c[i]?:=by
 rcases vs with _ | ⟨v,_ | ⟨u,r⟩⟩
 ·exact yBD c o [] h i
 ·simp only[yDS,List.length_cons,List.length_nil] at *
  rw[List.getElem?_set]
  by_cases hi:o=i
  ·subst hi;simp;try omega
  ·rw[if_neg hi,if_neg (by omega)]
 ·exact yBD c o (v::u::r) h i
theorem yPX (c:List EV) (o:Nat) (vs:List EV) (h:o+vs.length≤c.length):(yDS c o vs).length=c.length:=by
 rcases vs with _ | ⟨v,_ | ⟨u,r⟩⟩
 ·simp[yDS] at *;try omega
 ·simp[yDS]
 ·simp[yDS] at *;omega
def xWH (i:TI) (x v:EV) (s:ES) (K:EV→ES→Prop):Prop:=
 match x with
 | .ptr (some a)=>match s.get a.b with
   | some (.cells c t z true fz)=>(v.known=true∧v.cells.length=i.size∧fz≤a.o∧a.o+i.size≤c.length)∧K zVP (s.set a.b (.cells (yDS c a.o v.cells) t z true fz))
   | _=>False
 | _=>False
theorem zSW {P:Program} {r:Nat} {t:TypeId} {fr:Nat × Nat} {o0:Nat}:∀ (vs:List Value) (i:Nat) (cur:Array Value) (w:World),w.heap[r]? = some (.cells cur t fr)→o0+i+vs.length≤cur.size →
  (∀ j,j<vs.length→free fr (o0+i+j))→(∀ v∈vs,v.oneCell'=true) →
  ∃ w' cs,(storeCells ⟨r,o0,none⟩ vs i).run P w=.ok () w'∧w'.heap[r]? = some (.cells cs t fr)∧cs.size=cur.size∧(∀ k,cs[k]? = if o0+i≤k∧k<o0+i+vs.length then vs[k - (o0+i)]? else cur[k]?) ∧
   w'.os=w.os∧w'.tape=w.tape∧w'.output=w.output∧w'.heap.size=w.heap.size∧∀ q,q ≠ r→w'.heap[q]? = w.heap[q]?
 | [],i,cur,w,hh,_,_,_=>⟨w,cur,rfl,hh,rfl,fun k=>by rw[if_neg (by simp)],rfl,rfl,rfl,rfl,fun _ _=>rfl⟩
 | v::vs,i,cur,w,hh,hsz,hfr,hone=>by
   have hlt:o0+i<cur.size:=by simp at hsz;omega
   have h1:=hone v (by simp);have hf:w.frozen? ⟨r,o0+i,none⟩=false:=by
    have:=hfr 0 (by simp);simp only[free,Nat.add_zero] at this
    simp only[World.frozen?,hh]
    simpa [Bool.and_eq_false_iff,Decidable.not_and_iff_not_or_not] using this
   have hc:w.cell? ⟨r,o0+i,none⟩=some cur[o0+i]:=by simp[World.cell?,hh,hlt]
   have hset:(w.setCell ⟨r,o0+i,none⟩ v).heap[r]? = some (.cells (cur.setIfInBounds (o0+i) v) t fr):=by
    simp[World.setCell,Array.getElem?_modify,hh]
   have hrun:(store ((⟨r,o0,none⟩:Addr).add i) v).run P w=.ok () (w.setCell ⟨r,o0+i,none⟩ v):=by
    rw[zVR]
    cases v<;>simp[Value.oneCell'] at h1<;>simp[store,Sem.run,hc,hf]
   obtain ⟨w',cs,e1,e2,e3,e4,e5,e6,e7,e8,e9⟩:=zSW (P:=P) (o0:=o0) vs (i+1) _ _ hset (by simp at hsz ⊢;omega) (fun j hj=>by have:=hfr (j+1) (by simpa using hj);rwa [show o0+i+(j+1)=o0+(i+1)+j by omega] at this) (fun x hx=>hone x (by simp[hx]));refine ⟨w',cs,?_,e2,by simpa using e3,fun k=>?_,by rw[e5];rfl,by rw[e6];rfl,by rw[e7];rfl,by rw[e8];simp,fun q hq=>?_⟩
   ·rw[storeCells,Sem.run_bind,hrun,Result.andThen_ok];exact e1
   ·rw[e4]
    by_cases h2:k=o0+i
    ·subst h2;rw[if_neg (by omega),if_pos (by simp)];simp[hlt]
    ·by_cases h3:o0+(i+1)≤k∧k<o0+(i+1)+vs.length
     ·rw[if_pos h3,if_pos (by simp;omega)];rw[show k - (o0+i)=(k - (o0+(i+1)))+1 by omega];simp
     ·rw[if_neg h3,if_neg (by simp;omega),Array.getElem?_setIfInBounds_ne (by omega)]
   ·rw[e9 q hq,RowKit.Below.heap_setCell _ _ _ _ hq]
theorem xWG {P:Program} {t:TypeId} {i:TI} (hi:zXZ P t=some i) {x v:EV} {x' v':Value} {s:ES} {K:EV→ES→Prop} (h:xWH i x v s K) {ρ:Env} {w:World} (hR:Rel ρ s w) (hx:VR ρ x x') (hv:VR ρ v v') :
  ∃ s' w',(Instr.storeAt t x' v').run P w=.ok () w'∧Go1 ρ s w ρ s' w'∧K zVP s':=by
 obtain ⟨inf,d,z,T⟩:=zQG hi;unfold xWH at h
 split at h
 ·rename_i a
  rw[VR] at hx
  obtain ⟨l,hl,rfl⟩:=hx
  split at h
  ·rename_i c t' z' fz hg
   obtain ⟨⟨hk,hlen,hfz,hle⟩,hK⟩:=h;obtain ⟨hvs,hone⟩:=hv.cells hk;have hvl:v'.cells.size=i.size:=by have:=hvs.length;simpa [hlen] using this
   have hb:=hR.live _ _ _ hg hl;obtain ⟨h1,h2,h3,h4,cs,fr,hh,hsz,h7,h8⟩:=hb;have hcl:l.n=c.length:=h1;obtain ⟨w',cs',e1,e2,e3,e4,e5,e6,e7,e8,e9⟩:=zSW (P:=P) (r:=l.r) (t:=t') (fr:=fr) (o0:=a.o+l.d) v'.cells.toList 0 cs w hh (by simp[hvl];omega)
    (fun j hj=>by have hj':j<i.size:=by simpa [hvl] using hj
                  have:=h8 rfl (a.o+j) (by omega) (by omega);rwa [show a.o+l.d+0+j=l.d+(a.o+j) by omega]) hone
   have hlenv:v.cells.length=i.size:=hlen;have hbr:BR ρ w' l (.cells (yDS c a.o v.cells) t' z' true fz):=by
    refine ⟨by rw[yPX _ _ _ (by omega)];exact h1,h2,h3,h4,cs',fr,e2,⟨by omega,fun q1 q2=>by have:=hsz.2 q1 q2;exact ⟨this.1,by omega⟩⟩,fun j u hj=>?_,h8⟩;rw[xPW _ _ _ (by omega)] at hj
    rw[e4]
    by_cases hin:a.o≤j∧j<a.o+v.cells.length
    ·rw[if_pos hin] at hj
     obtain ⟨u',hu',hr⟩:=hvs.get _ u hj;refine ⟨u',?_,hr⟩;rw[if_pos (by simp[hvl];omega),← hu']
     congr 1;omega
    ·rw[if_neg hin] at hj
     obtain ⟨u',hu',hr⟩:=h7 j u hj;refine ⟨u',?_,hr⟩;rw[if_neg (by simp[hvl];omega)];exact hu'
   refine ⟨_,w',?_,hR.turn a.b _ _ l hg hl rfl e5 e6 e7 e8 e9 hbr rfl,hK⟩;simp only[Instr.storeAt,Instr.sureAddr,storeVar,Sem.run_bind,Sem.run_pure,Result.andThen_ok,T.run_size w,hvl,ne_eq,not_true_eq_false,if_false];exact e1
  ·exact h.elim
 ·exact h.elim
def eNew (c:List EV) (t:TypeId) (s:ES) (K:EV→ES→Prop):Prop:=K (.ptr (some ⟨s.nx,0⟩)) (s.new (.cells c t 0 true 0))
theorem Rel.newCells {ρ:Env} {s:ES} {w:World} (hR:Rel ρ s w) (c:List EV) (cs:Array Value) (t:TypeId) (hc:VRs ρ c cs.toList) :
  Go1 ρ s w (fun i=>if i=s.nx then some ⟨w.heap.size,0,c.length,c.length,0⟩ else ρ i) (s.new (.cells c t 0 true 0)) (w.alloc (.cells cs t)):=by
 refine hR.new _ _ ⟨w.heap.size,0,c.length,c.length,0⟩ rfl ?_;have hle:ρ.le (fun i=>if i=s.nx then some ⟨w.heap.size,0,c.length,c.length,0⟩ else ρ i):=fun b l' hb=>by
  by_cases hx:b=s.nx
  ·rw[hR.fresh b (by omega)] at hb;cases hb
  ·simp[hx,hb]
 refine ⟨rfl,rfl,fun _=>rfl,Nat.le_refl _,cs,(0,0),?_,?_,fun i v hi=>?_,fun _ i _ _=>by simp[free]⟩
 ·simp only[World.alloc,Array.getElem?_push,if_true]
 ·have:=hc.length;simp at this;exact ⟨by simp;omega,fun _ _=>⟨rfl,by simp;omega⟩⟩
 ·obtain ⟨v',a,b⟩:=hc.get i v hi;exact ⟨v',by simpa using a,b.mono hle⟩
theorem yHR {P:Program} {c:List EV} {cs:Array Value} {t:TypeId} {s:ES} {K:EV→ES→Prop} (h:eNew c t s K) {ρ:Env} {w:World} (hR:Rel ρ s w) (hc:VRs ρ c cs.toList) (m:Sem Value)
  (hm:m.run P w=.ok (.pointer (some ⟨w.heap.size,0,none⟩)) (w.alloc (.cells cs t))):RunV P ρ s w m K:=by
 refine ⟨_,_,_,_,_,hm,?_,hR.newCells c cs t hc,h⟩;rw[VR];exact ⟨_,if_pos rfl,by simp⟩
theorem xWM {P:Program} {t:TypeId} {i:TI} (hi:zXZ P t=some i) {s:ES} {K:EV→ES→Prop} (h:eNew i.zero t s K) {ρ:Env} {w:World} (hR:Rel ρ s w) :
  RunV P ρ s w (Instr.alloc t true (.tuple #[])) K:=by
 obtain ⟨inf,d,z,T⟩:=zQG hi;refine yHR (cs:=z.cells) h hR (by rw[T.cells];exact VRs.ofV _) _ ?_;simp only[Instr.alloc,Sem.run_bind,T.run_zero w,Result.andThen_ok];simp[newVar,newRow,newObj,Sem.run]
def eBox (t:TypeId) (v:EV) (s:ES) (K:EV→ES→Prop):Prop:=v.known=true∧eNew v.cells t s K
theorem eBox_sound {P:Program} {t:TypeId} {v:EV} {v':Value} {s:ES} {K:EV→ES→Prop} (h:eBox t v s K) {ρ:Env} {w:World} (hR:Rel ρ s w) (hv:VR ρ v v') :
  RunV P ρ s w (Instr.box t v') K:=by
 refine yHR (cs:=v'.cells) h.2 hR (hv.cells h.1).1 _ ?_;simp[Instr.box,newVar,newRow,newObj,Sem.run]
def zKK (P:Program) (i:TI) (x:EV) (f:Nat) (s:ES) (K:EV→ES→Prop):Prop:=
 match i.u,x with
 | .struct fs,.ptr (some a)=>match fs[f]? with
   | some (off,ft)=>match zXZ P ft with
     | some j=>0<j.size∧K (.ptr (some ⟨a.b,a.o+off⟩)) s
     | none=>False
   | none=>False
 | _,_=>False
theorem yJX {P:Program} {t:TypeId} {i:TI} (hi:zXZ P t=some i) {x:EV} {x':Value} {f:Nat} {s:ES} {K:EV→ES→Prop} (h:zKK P i x f s K) {ρ:Env} {w:World} (hR:Rel ρ s w) (hx:VR ρ x x') :
  RunV P ρ s w (Instr.fieldAt t x' f) K:=by
 obtain ⟨inf,d,z,T⟩:=zQG hi;unfold zKK at h
 split at h
 ·rename_i fs a hu
  rw[VR] at hx
  obtain ⟨l,hl,rfl⟩:=hx
  split at h
  ·rename_i off ft hf
   split at h
   ·rename_i j hj
    obtain ⟨inf2,d2,z2,T2⟩:=zQG hj;obtain ⟨hs,hK⟩:=h;rw[T.u] at hu
    cases d<;>simp[zRY] at hu
    rename_i fields
    subst hu;simp only[List.getElem?_map] at hf
    cases hfd:fields.toList[f]? with
    | none=>simp[hfd] at hf
    | some fd=>
      simp[hfd] at hf
      obtain ⟨rfl,rfl⟩:=hf;have hfd':fields[f]? = some fd:=by simpa using hfd
      refine RunV.pure (v:=.ptr (some ⟨a.b,a.o+fd.offset⟩)) (v':=.pointer (some ⟨l.r,a.o+l.d+fd.offset,none⟩)) hR ?_ ?_ hK
      ·simp only[Instr.fieldAt,Sem.run_bind,T.run_und w,Result.andThen_ok,hfd',Instr.sureAddr,Sem.run_pure,fieldPlace,T2.run_size w];rw[if_neg (by omega)];simp[zVR]
      ·rw[VR];exact ⟨l,hl,by simp only[Value.pointer.injEq,Option.some.injEq,Addr.mk.injEq,true_and,and_true];omega⟩
   ·exact h.elim
  ·exact h.elim
 ·exact h.elim
def zVN (P:Program) (i:TI) (x ix:EV) (s:ES) (K:EV→ES→Prop):Prop:=
 match ix with
 | .int _ n=>match i.u,x with
   | .arr len e,.ptr (some a)=>match zXZ P e with
     | some j=>(0≤n∧n<len)∧K (.ptr (some ⟨a.b,a.o+n.toNat*j.size⟩)) s
     | none=>False
   | .slice e,.slice (some a) len _=>match zXZ P e with
     | some j=>(0≤n∧n<len)∧K (.ptr (some ⟨a.b,a.o+n.toNat*j.size⟩)) s
     | none=>False
   | _,_=>False
 | _=>False
theorem CapOK.pos {l:Loc} {o c c':Nat} (h:CapOK l o c c') (hc:0<c):0<c':=by
 rcases h with rfl | ⟨_,_,h,_⟩<;>omega
theorem yJW {P:Program} {t:TypeId} {i:TI} (hi:zXZ P t=some i) {x ix:EV} {x' ix':Value} {s:ES} {K:EV→ES→Prop} (h:zVN P i x ix s K) {ρ:Env} {w:World} (hR:Rel ρ s w) (hx:VR ρ x x') (hix:VR ρ ix ix') :
  RunV P ρ s w (Instr.indexAt t x' ix') K:=by
 obtain ⟨inf,d,z,T⟩:=zQG hi;unfold zVN at h
 split at h
 ·rename_i k n
  rw[VR] at hix;subst hix
  split at h
  ·rename_i len e a hu
   rw[VR] at hx
   obtain ⟨l,hl,rfl⟩:=hx
   split at h
   ·rename_i j hj
    obtain ⟨inf2,d2,z2,T2⟩:=zQG hj;obtain ⟨hb,hK⟩:=h;have hd:d=.array len e:=by rw[T.u] at hu;cases d<;>simp[zRY] at hu;obtain ⟨rfl,rfl⟩:=hu;rfl
    subst hd;refine RunV.pure (v:=.ptr (some ⟨a.b,a.o+n.toNat*j.size⟩)) (v':=.pointer (some ⟨l.r,a.o+l.d+n.toNat*j.size,none⟩)) hR ?_ ?_ hK
    ·simp only[Instr.indexAt,Sem.run_bind,asIntOf,Sem.run_pure,T.run_und w,Result.andThen_ok,Instr.sureAddr,hb,and_self,if_true,T2.run_size w,zVR]
    ·rw[VR];exact ⟨l,hl,by simp only[Value.pointer.injEq,Option.some.injEq,Addr.mk.injEq,true_and,and_true];omega⟩
   ·exact h.elim
  ·rename_i e a len cap hu
   rw[VR] at hx
   obtain ⟨l,c',o',hl,hcap,hlc,ho',rfl⟩:=hx
   split at h
   ·rename_i j hj
    obtain ⟨inf2,d2,z2,T2⟩:=zQG hj;obtain ⟨hb,hK⟩:=h;have hd:d=.slice e:=by rw[T.u] at hu;cases d<;>simp[zRY] at hu;subst hu;rfl
    subst hd;have ho:o'=a.o+l.d:=by
     rcases ho' with h1 | h1
     ·exact h1
     ·have:=hcap.pos (by omega);omega
    subst ho;refine RunV.pure (v:=.ptr (some ⟨a.b,a.o+n.toNat*j.size⟩)) (v':=.pointer (some ⟨l.r,a.o+l.d+n.toNat*j.size,none⟩)) hR ?_ ?_ hK
    ·simp only[Instr.indexAt,Sem.run_bind,asIntOf,Sem.run_pure,T.run_und w,Result.andThen_ok,hb,and_self,if_true,T2.run_size w,zVR]
    ·rw[VR];exact ⟨l,hl,by simp only[Value.pointer.injEq,Option.some.injEq,Addr.mk.injEq,true_and,and_true];omega⟩
   ·exact h.elim
  ·exact h.elim
 ·exact h.elim
end
section
def andI (k:IntKind) (a b:Int):Int:=k.wrap ((BitVec.ofInt k.bits a &&& BitVec.ofInt k.bits b).toNat)
def orI (k:IntKind) (a b:Int):Int:=k.wrap ((BitVec.ofInt k.bits a ||| BitVec.ofInt k.bits b).toNat)
def xorI (k:IntKind) (a b:Int):Int:=k.wrap ((BitVec.ofInt k.bits a ^^^ BitVec.ofInt k.bits b).toNat)
def andNotI (k:IntKind) (a b:Int):Int:=k.wrap ((BitVec.ofInt k.bits a &&& ~~~ BitVec.ofInt k.bits b).toNat)
def shlI (k:IntKind) (a b:Int):Int:=k.wrap (a*2 ^ (min b.toNat k.bits))
def shrI (k:IntKind) (a b:Int):Int:=a.fdiv (2 ^ (min b.toNat k.bits))
def ebinI (op:BinOp) (k:IntKind) (a:Int) (k':IntKind) (b:Int) (K:EV→Prop):Prop:=
 match op with
 | .add=>k=k'∧K (.int k (k.wrap (a+b)))
 | .sub=>k=k'∧K (.int k (k.wrap (a - b)))
 | .mul=>k=k'∧K (.int k (k.wrap (a*b)))
 | .quo=>(k=k'∧b ≠ 0)∧K (.int k (k.wrap (a.tdiv b)))
 | .rem=>(k=k'∧b ≠ 0)∧K (.int k (a.tmod b))
 | .and=>k=k'∧K (.int k (andI k a b))
 | .or=>k=k'∧K (.int k (orI k a b))
 | .xor=>k=k'∧K (.int k (xorI k a b))
 | .andNot=>k=k'∧K (.int k (andNotI k a b))
 | .shl=>0≤b∧K (.int k (shlI k a b))
 | .shr=>0≤b∧K (.int k (shrI k a b))
 | .eql=>k=k'∧K (.bool (decide (a=b)))
 | .neq=>k=k'∧K (.bool (decide (a ≠ b)))
 | .lss=>k=k'∧K (.bool (decide (a<b)))
 | .leq=>k=k'∧K (.bool (decide (a≤b)))
 | .gtr=>k=k'∧K (.bool (decide (b<a)))
 | .geq=>k=k'∧K (.bool (decide (b≤a)))
theorem xKS {P:Program} {op:BinOp} {t:TypeId} {k k':IntKind} {a b:Int} {K:EV→Prop} (h:ebinI op k a k' b K) (w:World) :
  ∃ v,K v∧∃ v',(∀ ρ,VR ρ v v')∧(binOp op t (.int k a) (.int k' b)).run P w=.ok v' w:=by
 cases op<;>simp only[ebinI] at h
 case shl=>refine ⟨_,h.2,_,fun _=>by rw[VR],?_⟩;simp[binOp,Op.shift,show ¬ b<0 by omega,shlI]
 case shr=>refine ⟨_,h.2,_,fun _=>by rw[VR],?_⟩;simp[binOp,Op.shift,show ¬ b<0 by omega,shrI]
 case quo=>obtain ⟨⟨rfl,hb⟩,hK⟩:=h;refine ⟨_,hK,_,fun _=>by rw[VR],?_⟩;simp[binOp,Op.intDiv,hb]
 case rem=>obtain ⟨⟨rfl,hb⟩,hK⟩:=h;refine ⟨_,hK,_,fun _=>by rw[VR],?_⟩;simp[binOp,Op.intDiv,hb]
 case eql=>obtain ⟨rfl,hK⟩:=h;refine ⟨_,hK,_,fun _=>by rw[VR],?_⟩;simp only[binOp,Op.intCmp,ne_eq,not_true_eq_false,if_false,Sem.run_pure];rfl
 case neq=>obtain ⟨rfl,hK⟩:=h;refine ⟨_,hK,_,fun _=>by rw[VR],?_⟩;simp only[binOp,Op.intCmp,ne_eq,not_true_eq_false,if_false,Sem.run_pure];simp[bne,Bool.beq_eq_decide_eq]
 all_goals
  obtain ⟨rfl,hK⟩:=h;refine ⟨_,hK,_,fun _=>by rw[VR],?_⟩;simp[binOp,Op.intArith,Op.intCmp,Op.intBits,andI,orI,xorI,andNotI]
def ebinS (op:BinOp) (x y:List UInt8) (K:EV→Prop):Prop:=
 match op with
 | .add=>x.length+y.length≤9223372036854775807∧K (.str (x++y))
 | .eql=>K (.bool (decide (x=y)))
 | .neq=>K (.bool (decide (x ≠ y)))
 | .lss=>K (.bool (Op.bytesLess x y))
 | _=>False
theorem zPM (l:List UInt8):(ByteArray.mk l.toArray).size=l.length:=by simp[ByteArray.size]
theorem append_mk (x y:List UInt8):(ByteArray.mk x.toArray)++(ByteArray.mk y.toArray)=ByteArray.mk (x++y).toArray:=by
 apply ByteArray.ext
 simp[ByteArray.data_append]
theorem xKT {P:Program} {op:BinOp} {t:TypeId} {x y:List UInt8} {K:EV→Prop} (h:ebinS op x y K) (w:World) :
  ∃ v,K v∧∃ v',(∀ ρ,VR ρ v v')∧(binOp op t (.string ⟨x.toArray⟩) (.string ⟨y.toArray⟩)).run P w=.ok v' w:=by
 cases op<;>simp only[ebinS] at h
 case add=>
  refine ⟨_,h.2,_,fun _=>by rw[VR],?_⟩;have hm:IntKind.i64.max=9223372036854775807:=by decide
  simp only[binOp,Op.stringOp,zPM,hm];rw[if_neg (by have:=h.1;omega),append_mk];rfl
 case eql=>refine ⟨_,h,_,fun _=>by rw[VR],?_⟩;simp[binOp,Op.stringOp,Bool.beq_eq_decide_eq]
 case neq=>refine ⟨_,h,_,fun _=>by rw[VR],?_⟩;simp[binOp,Op.stringOp,Bool.beq_eq_decide_eq]
 case lss=>refine ⟨_,h,_,fun _=>by rw[VR],?_⟩;simp[binOp,Op.stringOp]
 all_goals exact h.elim
def eun (op:UnOp) (x:EV) (K:EV→Prop):Prop:=
 match op,x with
 | .not,.bool b=>K (.bool (!b))
 | .neg,.int k n=>K (.int k (k.wrap (0 - n)))
 | _,_=>False
theorem eun_sound {P:Program} {op:UnOp} {x:EV} {x':Value} {K:EV→Prop} (h:eun op x K) {ρ:Env} (hx:VR ρ x x') (w:World) :
  ∃ v,K v∧∃ v',(∀ ρ,VR ρ v v')∧(Op.unary op x').run P w=.ok v' w:=by
 unfold eun at h
 split at h
 ·rw[VR] at hx;subst hx;exact ⟨_,h,_,fun _=>by rw[VR],by simp[Op.unary]⟩
 ·rw[VR] at hx;subst hx;exact ⟨_,h,_,fun _=>by rw[VR],by simp[Op.unary,Op.intArith]⟩
 ·exact h.elim
def yMS (s:List UInt8) (n:Int) (K:EV→Prop):Prop:=(0≤n∧n<s.length)∧K (.int .u8 (s.getD n.toNat 0).toNat)
theorem yMT {P:Program} {t:TypeId} {i:TI} (hi:zXZ P t=some i) (hu:i.u=.str) {s:List UInt8} {k:IntKind} {n:Int} {K:EV→Prop} (h:yMS s n K) (w:World) :
  ∃ v,K v∧∃ v',(∀ ρ,VR ρ v v')∧(Instr.index t (.string ⟨s.toArray⟩) (.int k n)).run P w=.ok v' w:=by
 obtain ⟨inf,d,z,T⟩:=zQG hi;have hd:d=.string:=by rw[T.u] at hu;cases d<;>simp[zRY] at hu;rfl
 subst hd;obtain ⟨⟨h1,h2⟩,hK⟩:=h;refine ⟨_,hK,_,fun _=>by rw[VR],?_⟩;have hlt:n.toNat<s.length:=by omega
 have hg:(ByteArray.mk s.toArray)[n.toNat]? = some (s.getD n.toNat 0):=by
  rw[getElem?_pos (ByteArray.mk s.toArray) n.toNat (by rw[zPM];exact hlt)];simp[List.getD,hlt,ByteArray.getElem_eq_getElem_data]
 simp only[Instr.index,Sem.run_bind,asIntOf,Sem.run_pure,Result.andThen_ok,T.run_und w,h1,if_true,hg]
def zPX:Option EV→Int→Option Int
 | some (.int _ n),_=>some n
 | none,d=>some d
 | _,_=>none
def yVV (s:List UInt8) (lo hi:Option EV) (K:EV→Prop):Prop:=
 match zPX lo 0,zPX hi s.length with
 | some l,some h=>(0≤l∧l≤h∧h≤s.length)∧K (.str ((s.drop l.toNat).take (h.toNat - l.toNat)))
 | _,_=>False
def zHD (ρ:Env):Option EV→Option Value→Prop
 | none,none=>True
 | some x,some y=>VR ρ x y
 | _,_=>False
theorem zRF {ρ:Env} {o:Option EV} {o':Option Value} {d n:Int} (h:zPX o d=some n) (hr:zHD ρ o o'):(o=none∧o'=none∧n=d)∨(∃ k,o'=some (.int k n)):=by
 cases o with
 | none=>cases o' with
   | none=>simp[zPX] at h;exact .inl ⟨rfl,rfl,h.symm⟩
   | some y=>simp[zHD] at hr
 | some x=>
   cases x<;>simp[zPX] at h
   subst h
   cases o' with
   | none=>simp[zHD] at hr
   | some y=>simp only[zHD,VR] at hr;subst hr;exact .inr ⟨_,rfl⟩
theorem zVK {P:Program} {k:IntKind} {n:Int} {y:Nat} {c:BoundsCode} (h0:0≤n) (h1:n≤y) (w:World):(Instr.sliceBound (.int k n) y c).run P w=.ok n.toNat w:=by
 simp[Instr.sliceBound,asIntOf,h0,h1]
theorem zPF {P:Program} {ρ:Env} {isS:Bool} {len cap:Nat} {lo hi mx:Option EV} {lo' hi' mx':Option Value} {l h m:Int} (hl:zPX lo 0=some l) (hh:zPX hi len=some h) (hm:zPX mx cap=some m)
  (rl:zHD ρ lo lo') (rh:zHD ρ hi hi') (rm:zHD ρ mx mx') (h0:0≤l) (h1:l≤h) (h2:h≤m) (h3:m≤cap) (hmx:mx'.isSome=true→hi'.isSome=true) (w:World) :
  (Instr.sliceBounds isS len cap lo' hi' mx').run P w=.ok (l.toNat,h.toNat,m.toNat) w:=by
 unfold Instr.sliceBounds
 rcases zRF hm rm with ⟨_,rfl,rfl⟩ | ⟨km,rfl⟩
 ·rcases zRF hh rh with ⟨_,rfl,rfl⟩ | ⟨kh,rfl⟩
  ·rcases zRF hl rl with ⟨_,rfl,rfl⟩ | ⟨kl,rfl⟩
   ·simp
   ·simp[zVK h0 h1]
  ·rcases zRF hl rl with ⟨_,rfl,rfl⟩ | ⟨kl,rfl⟩
   ·simp[zVK (P:=P) (k:=kh) (n:=h) (y:=cap) (by omega) h2]
   ·have:l≤(h.toNat:Nat):=by omega
    simp[zVK (P:=P) (k:=kh) (n:=h) (y:=cap) (by omega) h2,zVK (P:=P) (k:=kl) (n:=l) (y:=h.toNat) h0 this]
 ·rcases zRF hh rh with ⟨_,rfl,rfl⟩ | ⟨kh,rfl⟩
  ·simp at hmx
  ·have hm2:h≤(m.toNat:Nat):=by omega
   rcases zRF hl rl with ⟨_,rfl,rfl⟩ | ⟨kl,rfl⟩
   ·simp[zVK (P:=P) (k:=km) (n:=m) (y:=cap) (by omega) h3,zVK (P:=P) (k:=kh) (n:=h) (y:=m.toNat) (by omega) hm2]
   ·have:l≤(h.toNat:Nat):=by omega
    simp[zVK (P:=P) (k:=km) (n:=m) (y:=cap) (by omega) h3,zVK (P:=P) (k:=kh) (n:=h) (y:=m.toNat) (by omega) hm2,zVK (P:=P) (k:=kl) (n:=l) (y:=h.toNat) h0 this]
def zHX (P:Program) (i:TI) (x:EV) (lo hi mx:Option EV) (s:ES) (K:EV→ES→Prop):Prop:=
 match i.u,x with
 | .str,.str t=>mx.isNone=true∧yVV t lo hi fun v=>K v s
 | .slice e,.slice (some a) len cap=>match zXZ P e,zPX lo 0,zPX hi len,zPX mx cap with
   | some j,some l,some h,some m=>match s.get a.b with
     | some (.cells _ _ z _ _)=>(0≤l∧l≤h∧h≤m∧m≤cap∧(mx.isSome=true→hi.isSome=true)∧(z=0∨z=j.size))∧K (.slice (some ⟨a.b,a.o+l.toNat*j.size⟩) (h.toNat - l.toNat) (m.toNat - l.toNat)) s
     | _=>False
   | _,_,_,_=>False
 | .slice e,.slice none _ _=>match zXZ P e,zPX lo 0,zPX hi 0,zPX mx 0 with
   | some _,some l,some h,some m=>(0≤l∧l≤h∧h≤m∧m≤0∧(mx.isSome=true→hi.isSome=true))∧K (.slice none 0 0) s
   | _,_,_,_=>False
 | .arr n e,.ptr (some a)=>match zXZ P e,zPX lo 0,zPX hi n,zPX mx n with
   | some j,some l,some h,some m=>match s.get a.b with
     | some (.cells _ _ 0 _ _)=>(0≤l∧l≤h∧h≤m∧m≤n∧(mx.isSome=true→hi.isSome=true))∧K (.slice (some ⟨a.b,a.o+l.toNat*j.size⟩) (h.toNat - l.toNat) (m.toNat - l.toNat)) s
     | _=>False
   | _,_,_,_=>False
 | _,_=>False
theorem CapOK.sub {l:Loc} {o c c':Nat} (h:CapOK l o c c') (k:Nat) (z:Nat) (hk:k≤c) (hz:l.z=0∨l.z=z):CapOK l (o+k*z) (c - k) (c' - k):=by
 rcases h with rfl | ⟨h1,h2,h3,h4⟩
 ·exact .inl rfl
 ·rcases hz with hz | hz
  ·exact absurd hz h1
  ·subst hz;refine .inr ⟨h1,?_,by omega,?_⟩
   ·rw[Nat.add_assoc,← Nat.add_mul,show k+(c - k)=c by omega];exact h2
   ·rw[Nat.add_assoc,← Nat.add_mul,show k+(c' - k)=c' by omega];exact h4
theorem CapOK.le {l:Loc} {o c c':Nat} (h:CapOK l o c c'):c≤c':=by
 rcases h with rfl | ⟨_,_,h,_⟩<;>omega
theorem xWB {P:Program} {t:TypeId} {i:TI} (hi:zXZ P t=some i) {x:EV} {x':Value} {lo hi' mx:Option EV} {lo2 hi2 mx2:Option Value} {s:ES} {K:EV→ES→Prop} (h:zHX P i x lo hi' mx s K) {ρ:Env} {w:World} (hR:Rel ρ s w) (hx:VR ρ x x')
  (rl:zHD ρ lo lo2) (rh:zHD ρ hi' hi2) (rm:zHD ρ mx mx2):RunV P ρ s w (Instr.sliceAt t x' lo2 hi2 mx2) K:=by
 have hsome:∀ {o:Option EV} {o':Option Value},zHD ρ o o'→o.isSome=o'.isSome:=by
  intro o o' h;cases o<;>cases o' <;> simp[zHD] at h ⊢
 obtain ⟨inf,d,z,T⟩:=zQG hi;unfold zHX at h
 split at h
 ·rename_i t0 hu
  have hd:d=.string:=by rw[T.u] at hu;cases d<;>simp[zRY] at hu;rfl
  subst hd;obtain ⟨hmx,h⟩:=h;rw[VR] at hx;subst hx
  unfold yVV at h
  split at h
  ·rename_i l hh h1 h2
   obtain ⟨⟨a1,a2,a3⟩,hK⟩:=h;have hm2:mx2=none:=by have:=hsome rm;cases mx2<;>simp_all
   subst hm2;refine RunV.pure (v:=.str _) (v':=.string ⟨((t0.drop l.toNat).take (hh.toNat - l.toNat)).toArray⟩) hR ?_ (by rw[VR]) hK;have hb:=zPF (P:=P) (isS:=false) (len:=t0.length) (cap:=t0.length) (mx:=none) (mx':=none) (m:=t0.length) h1 h2 rfl rl rh trivial a1 a2 a3 (Int.le_refl _) (by simp) w;simp only[Instr.sliceAt,Sem.run_bind,T.run_und w,Result.andThen_ok,Instr.slice,Option.isSome_none,Bool.false_eq_true,if_false,zPM,hb,Sem.run_pure];simp[Lib.extract_eq]
  ·exact h.elim
 ·rename_i e a len cap hu
  have hd:d=.slice e:=by rw[T.u] at hu;cases d<;>simp[zRY] at hu;subst hu;rfl
  subst hd;rw[VR] at hx
  obtain ⟨l,c',o',hl,hcap,hlc,ho',rfl⟩:=hx
  split at h
  ·rename_i j lo1 hi1 m1 hj e1 e2 e3
   obtain ⟨inf2,d2,z2,T2⟩:=zQG hj
   split at h
   ·rename_i c t1 z1 wr fz hg
    obtain ⟨⟨a1,a2,a3,a4,a5,a6⟩,hK⟩:=h;have hb:=hR.live _ _ _ hg hl;have hz:l.z=0∨l.z=j.size:=by rcases a6 with h | h<;>simp[hb.2.1,h]
    have hcl:=hcap.le;obtain ⟨m',hm',hm1,hm2,hcap'⟩:∃ m':Int,zPX mx (c':Nat)=some m'∧m1≤m'∧m'≤c'∧CapOK l (a.o+lo1.toNat*j.size) (m1.toNat - lo1.toNat) (m'.toNat - lo1.toNat):=by
     cases mx with
     | none=>
       simp[zPX] at e3 ⊢;subst e3
       exact ⟨by omega,hcap.sub lo1.toNat j.size (by omega) hz⟩
     | some y=>
       cases y<;>simp[zPX] at e3 ⊢
       subst e3;exact ⟨by omega,by omega,.inl rfl⟩
    have hrun:=zPF (P:=P) (isS:=true) (len:=len) (cap:=c') e1 e2 hm' rl rh rm a1 a2 (by omega) hm2 (by rw[← hsome rm,← hsome rh];exact a5) w;refine RunV.pure (v:=.slice (some ⟨a.b,a.o+lo1.toNat*j.size⟩) (hi1.toNat - lo1.toNat) (m1.toNat - lo1.toNat)) (v':=.slice (if m'.toNat=lo1.toNat then some ⟨l.r,o',none⟩ else some ⟨l.r,o' + lo1.toNat*j.size,none⟩) (hi1.toNat - lo1.toNat) (m'.toNat - lo1.toNat)) hR ?_ ?_ hK
    ·simp only[Instr.sliceAt,Sem.run_bind,T.run_und w,Result.andThen_ok,Instr.slice,hrun,T2.run_size w,Sem.run_pure]
     congr 2
     split<;>simp[zVR]
    ·rw[VR];refine ⟨l,m'.toNat - lo1.toNat,if m'.toNat=lo1.toNat then o' else o' + lo1.toNat*j.size,hl,hcap',by omega,?_,?_⟩
     ·by_cases hq:m'.toNat=lo1.toNat
      ·right;omega
      ·rw[if_neg hq]
       rcases ho' with h1 | h1
       ·left;rw[h1];dsimp only;omega
       ·right;omega
     ·split<;>rfl
   ·exact h.elim
  ·exact h.elim
 ·rename_i e n c hu
  have hd:d=.slice e:=by rw[T.u] at hu;cases d<;>simp[zRY] at hu;subst hu;rfl
  subst hd;rw[VR] at hx
  obtain ⟨rfl,rfl,rfl⟩:=hx
  split at h
  ·rename_i j l1 h1 m1 hj e1 e2 e3
   obtain ⟨inf2,d2,z2,T2⟩:=zQG hj;obtain ⟨⟨a1,a2,a3,a4,a5⟩,hK⟩:=h;have hrun:=zPF (P:=P) (isS:=true) (len:=0) (cap:=0) e1 e2 e3 rl rh rm a1 a2 a3 a4 (by rw[← hsome rm,← hsome rh];exact a5) w;have hl0:l1.toNat=0:=by omega
   have hh0:h1.toNat=0:=by omega
   have hm0:m1.toNat=0:=by omega
   rw[hl0,hh0,hm0] at hrun
   refine RunV.pure (v:=.slice none 0 0) (v':=.slice none 0 0) hR ?_ (by rw[VR];exact ⟨rfl,rfl,rfl⟩) hK;simp only[Instr.sliceAt,Sem.run_bind,T.run_und w,Result.andThen_ok,Instr.slice,hrun,T2.run_size w,Sem.run_pure];simp
  ·exact h.elim
 ·rename_i n e a hu
  have hd:d=.array n e:=by rw[T.u] at hu;cases d<;>simp[zRY] at hu;obtain ⟨rfl,rfl⟩:=hu;rfl
  subst hd;rw[VR] at hx
  obtain ⟨l,hl,rfl⟩:=hx
  split at h
  ·rename_i j lo1 hi1 m1 hj e1 e2 e3
   obtain ⟨inf2,d2,z2,T2⟩:=zQG hj
   split at h
   ·rename_i c t1 wr fz hg
    obtain ⟨⟨a1,a2,a3,a4,a5⟩,hK⟩:=h;have hrun:=zPF (P:=P) (isS:=false) (len:=n) (cap:=n) e1 e2 e3 rl rh rm a1 a2 a3 a4 (by rw[← hsome rm,← hsome rh];exact a5) w;refine RunV.pure (v:=.slice (some ⟨a.b,a.o+lo1.toNat*j.size⟩) (hi1.toNat - lo1.toNat) (m1.toNat - lo1.toNat)) (v':=.slice (some (if m1.toNat=lo1.toNat then ⟨l.r,a.o+l.d,none⟩ else ⟨l.r,a.o+l.d+lo1.toNat*j.size,none⟩)) (hi1.toNat - lo1.toNat) (m1.toNat - lo1.toNat)) hR ?_ ?_ hK
    ·simp only[Instr.sliceAt,Sem.run_bind,T.run_und w,Result.andThen_ok,Instr.sureAddr,Sem.run_pure,hrun,T2.run_size w,zVR]
    ·rw[VR];refine ⟨l,m1.toNat - lo1.toNat,if m1.toNat=lo1.toNat then a.o+l.d else a.o+l.d+lo1.toNat*j.size,hl,.inl rfl,by omega,?_,?_⟩
     ·by_cases hq:m1.toNat=lo1.toNat
      ·right;omega
      ·rw[if_neg hq];left;dsimp only;omega
     ·split<;>rfl
   ·exact h.elim
  ·exact h.elim
 ·exact h.elim
end
section
def yMK (place:Nat→Option (Nat × Nat)):List EV→List (Nat × EV)→Option (List EV)
 | c,[]=>some c
 | c,(i,v)::r=>match place i with
   | some (off,size)=>if v.known=true∧v.cells.length=size∧off+size≤c.length then yMK place (yDS c off v.cells) r else none
   | none=>none
theorem xWQ (off:Nat):∀ (vs:List Value) (j:Nat) (cs:Array Value),off+j+vs.length≤cs.size →
  ((vs.zipIdx j).foldl (fun cs (x:Value × Nat)=>cs.setIfInBounds (off+x.2) x.1) cs).size=cs.size ∧
  ∀ k,((vs.zipIdx j).foldl (fun cs (x:Value × Nat)=>cs.setIfInBounds (off+x.2) x.1) cs)[k]? = if off+j≤k∧k<off+j+vs.length then vs[k - (off+j)]? else cs[k]?
 | [],j,cs,_=>by
   refine ⟨rfl,fun k=>?_⟩;simp only[List.zipIdx_nil,List.foldl_nil,List.length_nil];rw[if_neg (by omega)]
 | v::vs,j,cs,h=>by
   simp only[List.zipIdx_cons,List.foldl_cons,List.length_cons] at *
   obtain ⟨h1,h2⟩:=xWQ off vs (j+1) (cs.setIfInBounds (off+j) v) (by simp;omega);refine ⟨by rw[h1];simp,fun k=>?_⟩;rw[h2]
   by_cases hk:k=off+j
   ·subst hk;rw[if_neg (by omega),if_pos (by omega)];simp[show off+j<cs.size by omega]
   ·by_cases hin:off+(j+1)≤k∧k<off+(j+1)+vs.length
    ·rw[if_pos hin,if_pos (by omega),show k - (off+j)=(k - (off+(j+1)))+1 by omega];simp
    ·rw[if_neg hin,if_neg (by omega),Array.getElem?_setIfInBounds_ne (by omega)]
theorem zGK {ρ:Env} {place:Nat→Option (Nat × Nat)}:∀ (ps:List (Nat × EV)) (ps':List (Nat × Value)) (c:List EV) (cs:Array Value) (c2:List EV),
  ps'.length=ps.length→(∀ (k i:Nat) (v:EV),ps[k]? = some (i,v)→∃ v',ps'[k]? = some (i,v')∧VR ρ v v')→VRs ρ c cs.toList→yMK place c ps=some c2→∃ cs2,Instr.fill place cs ps'=some cs2∧VRs ρ c2 cs2.toList
 | [],ps',c,cs,c2,hl,_,hc,h=>by
   simp at hl;subst hl
   simp only[yMK,Option.some.injEq] at h
   subst h;exact ⟨cs,rfl,hc⟩
 | (i,v)::ps,ps',c,cs,c2,hl,hp,hc,h=>by
   cases ps' with
   | nil=>simp at hl
   | cons x ps'=>
     obtain ⟨v',hx,hv⟩:=hp 0 i v (by simp);simp at hx;subst hx
     simp only[yMK] at h
     split at h
     ·rename_i off size hpl
      split at h
      ·rename_i hcond
       obtain ⟨hk,hsz,hle⟩:=hcond;obtain ⟨hvs,_⟩:=hv.cells hk;have hvl:v'.cells.size=size:=by have:=hvs.length;simpa [hsz] using this
       have hcl:cs.size=c.length:=by have:=hc.length;simpa using this
       obtain ⟨f1,f2⟩:=xWQ off v'.cells.toList 0 cs (by simp;omega);have hnew:VRs ρ (yDS c off v.cells) ((v'.cells.toList.zipIdx 0).foldl (fun cs (x:Value × Nat)=>cs.setIfInBounds (off+x.2) x.1) cs).toList:=by
        refine VRs.of_get ?_ fun k u hu=>?_
        ·rw[yPX _ _ _ (by omega)];simpa [hcl] using f1
        ·rw[xPW _ _ _ (by omega)] at hu
         rw[Array.getElem?_toList,f2]
         by_cases hin:off≤k∧k<off+v.cells.length
         ·rw[if_pos hin] at hu
          obtain ⟨u',hu',hr⟩:=hvs.get _ u hu;exact ⟨u',by rw[if_pos (by simp[hvl];omega)];exact hu',hr⟩
         ·rw[if_neg hin] at hu
          obtain ⟨u',hu',hr⟩:=hc.get _ u hu;exact ⟨u',by rw[if_neg (by simp[hvl];omega)];simpa using hu',hr⟩
       obtain ⟨cs2,e1,e2⟩:=zGK ps ps' _ _ c2 (by simpa using hl) (fun k i v hk=>by have:=hp (k+1) i v (by simpa using hk);simpa using this) hnew h;refine ⟨cs2,?_,e2⟩;simp only[Instr.fill,hpl,hvl];rw[if_neg (by simp;omega)];rw[← e1]
       congr 1
       rw[← Array.foldl_toList];simp[Array.toList_zipIdx]
      ·cases h
     ·cases h
def zNX (P:Program) (fs:List (Nat × Nat)) (i:Nat):Option (Nat × Nat):=
 match fs[i]? with
 | some (off,ft)=>match zXZ P ft with
   | some j=>some (off,j.size)
   | none=>none
 | none=>none
def allTi (P:Program):List (Nat × Nat)→Prop
 | []=>True
 | (_,ft)::r=>(match zXZ P ft with | some _=>True | none=>False)∧allTi P r
def yXV (P:Program) (i:TI) (ps:List (Nat × EV)) (K:EV→Prop):Prop:=
 match i.u with
 | .struct fs=>allTi P fs∧match yMK (zNX P fs) i.zero ps with
   | some c=>K (.agg c)
   | none=>False
 | .arr _ e=>match zXZ P e with
   | some j=>match yMK (fun n=>some (n*j.size,j.size)) i.zero ps with
     | some c=>K (.agg c)
     | none=>False
   | none=>False
 | _=>False
theorem yGT {P:Program} (w:World):∀ (fs:List Field),allTi P (fs.map fun f=>(f.offset,f.type)) →
  (fs.mapM (m:=Sem) fun f=>do pure (f.offset,← sizeOf f.type)).run P w=.ok (fs.map fun f=>(f.offset,((zXZ P f.type).map (·.size)).getD 0)) w
 | [],_=>rfl
 | f::fs,h=>by
   simp only[List.map_cons,allTi] at h
   obtain ⟨h1,h2⟩:=h
   split at h1
   ·rename_i j hj
    obtain ⟨inf,d,z,T⟩:=zQG hj;have ih:=yGT w fs h2;simp only[List.mapM_cons,Sem.run_bind,T.run_size w,Result.andThen_ok,Sem.run_pure] at ih ⊢
    rw[ih];simp[hj]
   ·exact h1.elim
theorem xXG {P:Program}:∀ {fs:List (Nat × Nat)} (_:allTi P fs) {i:Nat} {off ft:Nat},fs[i]? = some (off,ft)→∃ j,zXZ P ft=some j
 | [],_,i,off,ft,h=>by simp at h
 | (o,t)::fs,ha,i,off,ft,h=>by
   cases i with
   | zero=>
     simp at h
     obtain ⟨rfl,rfl⟩:=h;have:=ha.1
     split at this
     ·exact ⟨_,by assumption⟩
     ·exact this.elim
   | succ i=>exact xXG ha.2 (by simpa using h)
theorem xWS {P:Program} {t:TypeId} {i:TI} (hi:zXZ P t=some i) {ps:List (Nat × EV)} {ps':Array (Nat × Value)} {K:EV→Prop} (h:yXV P i ps K) {ρ:Env}
  (hl:ps'.size=ps.length) (hp:∀ (k n:Nat) (v:EV),ps[k]? = some (n,v)→∃ v',ps'[k]? = some (n,v')∧VR ρ v v') (w:World) :
  ∃ v,K v∧∃ v',VR ρ v v'∧(Instr.build t ps').run P w=.ok v' w:=by
 obtain ⟨inf,d,z,T⟩:=zQG hi;have hz:VRs ρ i.zero z.cells.toList:=by rw[T.cells];exact VRs.ofV _
 unfold yXV at h
 split at h
 ·rename_i fs hu
  rw[T.u] at hu
  cases d<;>simp[zRY] at hu
  rename_i fields
  subst hu;obtain ⟨ha,h⟩:=h
  split at h
  ·rename_i c hf
   obtain ⟨cs,h1,h2⟩:=zGK (ρ:=ρ) ps ps'.toList _ z.cells c (by simpa using hl) (fun k n v hk=>by simpa using hp k n v hk) hz hf;refine ⟨_,h,.agg cs,by rw[VR];exact ⟨cs,rfl,h2⟩,?_⟩;have hplace:(zNX P (fields.toList.map fun f=>(f.offset,f.type)))=fun n=>(((fields.toList.map fun f=>(f.offset,((zXZ P f.type).map (·.size)).getD 0))).toArray)[n]?:=by
    funext n
    simp only[zNX,List.getElem?_map,List.getElem?_toArray]
    cases hfd:fields.toList[n]? with
    | none=>simp
    | some f=>
      simp only[Option.map_some];obtain ⟨j,hj⟩:=xXG ha (i:=n) (off:=f.offset) (ft:=f.type) (by simp only[List.getElem?_map,hfd,Option.map_some]);simp[hj]
   rw[hplace] at h1
   simp only[Instr.build,Sem.run_bind,T.run_zero w,Result.andThen_ok,T.run_und w];have hm:(fields.mapM (m:=Sem) fun f=>do pure (f.offset,← sizeOf f.type)).run P w=.ok (fields.toList.map fun f=>(f.offset,((zXZ P f.type).map (·.size)).getD 0)).toArray w:=by
    rw[Array.mapM_eq_mapM_toList];simp only[Sem.run_map,yGT w fields.toList ha,Result.andThen_ok]
   rw[hm];simp only[Result.andThen_ok];rw[h1];rfl
  ·exact h.elim
 ·rename_i n e hu
  have hd:d=.array n e:=by rw[T.u] at hu;cases d<;>simp[zRY] at hu;obtain ⟨rfl,rfl⟩:=hu;rfl
  subst hd
  split at h
  ·rename_i j hj
   obtain ⟨inf2,d2,z2,T2⟩:=zQG hj
   split at h
   ·rename_i c hf
    obtain ⟨cs,h1,h2⟩:=zGK (ρ:=ρ) ps ps'.toList _ z.cells c (by simpa using hl) (fun k n v hk=>by simpa using hp k n v hk) hz hf;refine ⟨_,h,.agg cs,by rw[VR];exact ⟨cs,rfl,h2⟩,?_⟩;simp only[Instr.build,Sem.run_bind,T.run_zero w,Result.andThen_ok,T.run_und w,T2.run_size w];rw[h1];rfl
   ·exact h.elim
  ·exact h.elim
 ·exact h.elim
def zWT:List EV→Nat→List EV
 | _,0=>[]
 | z,n+1=>z++zWT z n
theorem zZJ (z:List EV) (n:Nat):(zWT z n).length=n*z.length:=by
 induction n with
 | zero=>simp[zWT]
 | succ n ih=>simp[zWT,ih,Nat.add_mul,Nat.add_comm]
theorem ySD (z:List EV):∀ (n i:Nat),i<n*z.length→(zWT z n)[i]? = z[i % z.length]?
 | 0,i,h=>by simp at h
 | n+1,i,h=>by
   rw[zWT,List.getElem?_append]
   by_cases hi:i<z.length
   ·rw[if_pos hi,Nat.mod_eq_of_lt hi]
   ·rw[Nat.add_mul,Nat.one_mul] at h
    rw[if_neg hi,ySD z n (i - z.length) (by omega)]
    conv=>rhs;rw[Nat.mod_eq_sub_mod (by omega)]
def zGP (P:Program) (i:TI) (len:Nat) (ps:List (Nat × EV)) (s:ES) (K:EV→ES→Prop):Prop:=
 match i.u with
 | .slice e=>match zXZ P e with
   | some j=>(j.zero.length=j.size∧len*j.size≤16777216)∧match yMK (fun n=>some (n*j.size,j.size)) (zWT j.zero len) ps with
     | some c=>K (.slice (some ⟨s.nx,0⟩) len len) (s.new (.cells c e 0 true 0))
     | none=>False
   | none=>False
 | _=>False
theorem zSH {ρ:Env} {z:List EV} {zs:Array Value} (h:VRs ρ z zs.toList) (n m:Nat) (hm:m=n*z.length) :
  VRs ρ (zWT z n) ((Array.range m).map (zs[· % zs.size]!)).toList:=by
 subst hm;have hl:zs.size=z.length:=by have:=h.length;simpa using this
 refine VRs.of_get (by simp[zZJ]) fun i v hi=>?_
 have hlt:i<n*z.length:=by
  have:=(List.getElem?_eq_some_iff.1 hi).1
  rwa [zZJ] at this
 rw[ySD z n i hlt] at hi
 obtain ⟨v',h1,h2⟩:=h.get _ v hi;refine ⟨v',?_,h2⟩;have hpos:0<z.length:=by
  rcases Nat.eq_zero_or_pos z.length with h0 | h0
  ·rw[h0] at hlt;simp at hlt
  ·exact h0
 have hmod:i % zs.size<zs.size:=Nat.mod_lt _ (by omega);have h1':zs[i % zs.size]? = some v':=by rw[hl];simpa using h1
 have hval:zs[i % zs.size]! = v':=by
  rw[getElem!_pos zs (i % zs.size) hmod];have:=getElem?_pos zs (i % zs.size) hmod;rw[this] at h1'
  exact Option.some.inj h1'
 simp only[Array.getElem?_toList,Array.getElem?_map,Array.getElem?_range,hlt];simp[hval]
theorem yVZ {P:Program} {t:TypeId} {i:TI} (hi:zXZ P t=some i) {len:Nat} {ps:List (Nat × EV)} {ps':Array (Nat × Value)} {s:ES} {K:EV→ES→Prop} (h:zGP P i len ps s K) {ρ:Env} {w:World} (hR:Rel ρ s w)
  (hl:ps'.size=ps.length) (hp:∀ (k n:Nat) (v:EV),ps[k]? = some (n,v)→∃ v',ps'[k]? = some (n,v')∧VR ρ v v'):RunV P ρ s w (Instr.buildSlice t len ps') K:=by
 obtain ⟨inf,d,z,T⟩:=zQG hi;unfold zGP at h
 split at h
 ·rename_i e hu
  have hd:d=.slice e:=by rw[T.u] at hu;cases d<;>simp[zRY] at hu;subst hu;rfl
  subst hd
  split at h
  ·rename_i j hj
   obtain ⟨inf2,d2,z2,T2⟩:=zQG hj;obtain ⟨⟨hzl,hle⟩,h⟩:=h
   split at h
   ·rename_i c hf
    have hz:VRs ρ j.zero z2.cells.toList:=by rw[T2.cells];exact VRs.ofV _
    have hzero:VRs ρ (zWT j.zero len) ((Array.range (len*j.size)).map ((if len*j.size=0 then #[] else z2.cells)[· % (if len*j.size=0 then #[] else z2.cells).size]!)).toList:=by
     by_cases h0:len*j.size=0
     ·have:zWT j.zero len=[]:=by
       apply List.eq_nil_of_length_eq_zero;rw[zZJ,hzl];exact h0
      rw[this,h0];simp[VRs]
     ·simp only[h0,if_false];exact zSH hz len _ (by rw[hzl])
    obtain ⟨cs,h1,h2⟩:=zGK (ρ:=ρ) ps ps'.toList _ _ c (by simpa using hl) (fun k n v hk=>by simpa using hp k n v hk) hzero hf;refine ⟨_,.slice (some ⟨w.heap.size,0,none⟩) len len,_,_,_,?_,?_,hR.newCells c cs e h2,h⟩
    ·simp only[Instr.buildSlice,Sem.run_bind,T.run_und w,Result.andThen_ok,T2.run_size w];rw[if_neg (by omega)]
     by_cases h0:len*j.size=0
     ·simp only[h0,if_true] at h1 ⊢
      rw[pure_bind];simp only[h1];simp[newRow,newObj,Sem.run]
     ·simp only[h0,if_false] at h1 ⊢
      simp only[Sem.run_bind,T2.run_zero w,Sem.run_pure,Result.andThen_ok,h1];simp[newRow,newObj,Sem.run]
    ·rw[VR];exact ⟨_,len,0,if_pos rfl,.inl rfl,Nat.le_refl _,.inl rfl,rfl⟩
   ·exact h.elim
  ·exact h.elim
 ·exact h.elim
def zNZ (x:EV) (n:Nat) (K:EV→Prop):Prop:=
 match x with
 | .tuple vs=>match vs[n]? with
   | some v=>K v
   | none=>False
 | _=>False
theorem ySS {P:Program} {x:EV} {x':Value} {n:Nat} {K:EV→Prop} (h:zNZ x n K) {ρ:Env} (hx:VR ρ x x') (w:World) :
  ∃ v,K v∧∃ v',VR ρ v v'∧(Instr.extract x' n).run P w=.ok v' w:=by
 unfold zNZ at h
 split at h
 ·rw[VR] at hx
  obtain ⟨cs,rfl,hc⟩:=hx
  split at h
  ·rename_i v hv
   obtain ⟨v',a,b⟩:=hc.get _ v hv;refine ⟨v,h,v',b,?_⟩;have:cs[n]? = some v':=by simpa using a
   simp[Instr.extract,this]
  ·exact h.elim
 ·exact h.elim
def xKZ (j:TI) (cs:List EV) (off:Nat) (K:EV→Prop):Prop:=
 if j.u.agg=true then off+j.size≤cs.length∧K (.agg ((cs.drop off).take j.size)) else match cs[off]? with
  | some v=>K v
  | none=>False
theorem yRB {P:Program} {t:TypeId} {j:TI} (hj:zXZ P t=some j) {cs:List EV} {cs':Array Value} {off:Nat} {K:EV→Prop} (h:xKZ j cs off K) {ρ:Env} (hc:VRs ρ cs cs'.toList) (w:World) :
  ∃ v,K v∧∃ v',VR ρ v v'∧(part t cs' off).run P w=.ok v' w:=by
 obtain ⟨inf,d,z,T⟩:=zQG hj;unfold xKZ at h
 by_cases ha:j.u.agg=true
 ·rw[if_pos ha] at h
  refine ⟨_,h.2,.agg (cs'.extract off (off+j.size)),?_,?_⟩
  ·rw[VR];refine ⟨_,rfl,?_⟩;have:=(hc.drop off).take j.size
   rwa [show (cs'.extract off (off+j.size)).toList=(cs'.toList.drop off).take j.size by simp[List.extract_eq_take_drop]]
  ·simp[part,T.run_agg w,ha,T.run_size w]
 ·rw[if_neg ha] at h
  split at h
  ·rename_i v hv
   obtain ⟨v',a,b⟩:=hc.get _ v hv;have a':cs'[off]? = some v':=by simpa using a
   exact ⟨v,h,v',b,by simp[part,T.run_agg w,ha,a']⟩
  ·exact h.elim
def yRF (P:Program) (i:TI) (x:EV) (f:Nat) (K:EV→Prop):Prop:=
 match i.u,x with
 | .struct fs,.agg cs=>match fs[f]? with
   | some (off,ft)=>match zXZ P ft with
     | some j=>xKZ j cs off K
     | none=>False
   | none=>False
 | _,_=>False
theorem xWP {P:Program} {t:TypeId} {i:TI} (hi:zXZ P t=some i) {x:EV} {x':Value} {f:Nat} {K:EV→Prop} (h:yRF P i x f K) {ρ:Env} (hx:VR ρ x x') (w:World) :
  ∃ v,K v∧∃ v',VR ρ v v'∧(Instr.field t x' f).run P w=.ok v' w:=by
 obtain ⟨inf,d,z,T⟩:=zQG hi;unfold yRF at h
 split at h
 ·rename_i fs cs hu
  rw[T.u] at hu
  cases d<;>simp[zRY] at hu
  rename_i fields
  subst hu;rw[VR] at hx
  obtain ⟨cs',rfl,hc⟩:=hx
  split at h
  ·rename_i off ft hf
   simp only[List.getElem?_map] at hf
   cases hfd:fields.toList[f]? with
   | none=>simp[hfd] at hf
   | some fd=>
     simp[hfd] at hf
     obtain ⟨rfl,rfl⟩:=hf;have hfd':fields[f]? = some fd:=by simpa using hfd
     split at h
     ·rename_i j hj
      obtain ⟨v,hK,v',hv,hrun⟩:=yRB hj h hc w;refine ⟨v,hK,v',hv,?_⟩;simp only[Instr.field,Sem.run_bind,T.run_und w,Result.andThen_ok,hfd',asAgg,Sem.run_pure,hrun]
     ·exact h.elim
  ·exact h.elim
 ·exact h.elim
def yRM (P:Program) (i:TI) (x ix:EV) (K:EV→Prop):Prop:=
 match i.u,x,ix with
 | .str,.str s,.int _ n=>yMS s n K
 | .arr len e,.agg cs,.int _ n=>match zXZ P e with
   | some j=>(0≤n∧n<len)∧xKZ j cs (n.toNat*j.size) K
   | none=>False
 | _,_,_=>False
theorem xWY {P:Program} {t:TypeId} {i:TI} (hi:zXZ P t=some i) {x ix:EV} {x' ix':Value} {K:EV→Prop} (h:yRM P i x ix K) {ρ:Env} (hx:VR ρ x x') (hix:VR ρ ix ix') (w:World) :
  ∃ v,K v∧∃ v',VR ρ v v'∧(Instr.index t x' ix').run P w=.ok v' w:=by
 unfold yRM at h
 split at h
 ·rename_i s k n hu
  rw[VR] at hx;rw[VR] at hix;subst hx;subst hix
  obtain ⟨v,a,v',b,c⟩:=yMT hi hu h w;exact ⟨v,a,v',b ρ,c⟩
 ·rename_i len e cs k n hu
  obtain ⟨inf,d,z,T⟩:=zQG hi;have hd:d=.array len e:=by rw[T.u] at hu;cases d<;>simp[zRY] at hu;obtain ⟨rfl,rfl⟩:=hu;rfl
  subst hd;rw[VR] at hx;rw[VR] at hix;subst hix
  obtain ⟨cs',rfl,hc⟩:=hx
  split at h
  ·rename_i j hj
   obtain ⟨inf2,d2,z2,T2⟩:=zQG hj;obtain ⟨hb,h⟩:=h;obtain ⟨v,a,v',b,c⟩:=yRB hj h hc w;refine ⟨v,a,v',b,?_⟩;simp only[Instr.index,Sem.run_bind,asIntOf,Sem.run_pure,Result.andThen_ok,T.run_und w,hb,and_self,if_true,T2.run_size w,c]
  ·exact h.elim
 ·exact h.elim
def xZQ (i:TI) (x:EV) (s:ES) (K:EV→Prop):Prop:=
 match i.u,x with
 | .str,.str t=>K (.int .i64 t.length)
 | .arr n _,_=>K (.int .i64 n)
 | .slice _,.slice _ n _=>K (.int .i64 n)
 | .map _ _,.map none=>K (.int .i64 0)
 | .map _ _,.map (some r)=>match s.get r with
   | some (.map es)=>K (.int .i64 es.length)
   | _=>False
 | _,_=>False
theorem elen_sound {P:Program} {t:TypeId} {i:TI} (hi:zXZ P t=some i) {x:EV} {x':Value} {s:ES} {K:EV→Prop} (h:xZQ i x s K) {ρ:Env} {w:World} (hR:Rel ρ s w) (hx:VR ρ x x') (ts:Array TypeId) (ht:ts[0]? = some t) (ty:TypeId) (xs:Array Value) (hxs:xs[0]? = some x') :
  ∃ v,K v∧∃ v',VR ρ v v'∧(Builtin.len_ ts ty xs).run P w=.ok v' w:=by
 obtain ⟨inf,d,z,T⟩:=zQG hi;unfold xZQ at h
 split at h
 ·rename_i t0 hu
  have hd:d=.string:=by rw[T.u] at hu;cases d<;>simp[zRY] at hu;rfl
  subst hd;rw[VR] at hx;subst hx
  refine ⟨_,h,_,by rw[VR],?_⟩;simp only[Builtin.len_,ht,hxs,Sem.run_bind,T.run_und w,Result.andThen_ok,Sem.run_pure,zPM];rfl
 ·rename_i n e hu
  have hd:d=.array n e:=by rw[T.u] at hu;cases d<;>simp[zRY] at hu;obtain ⟨rfl,rfl⟩:=hu;rfl
  subst hd;refine ⟨_,h,_,by rw[VR],?_⟩;simp only[Builtin.len_,ht,hxs,Sem.run_bind,T.run_und w,Result.andThen_ok];rfl
 ·rename_i e a n c hu
  have hd:d=.slice e:=by rw[T.u] at hu;cases d<;>simp[zRY] at hu;subst hu;rfl
  subst hd
  cases a with
  | none=>
    rw[VR] at hx;obtain ⟨rfl,rfl,rfl⟩:=hx
    refine ⟨_,h,_,by rw[VR],?_⟩;simp only[Builtin.len_,ht,hxs,Sem.run_bind,T.run_und w,Result.andThen_ok];rfl
  | some a=>
    rw[VR] at hx;obtain ⟨l,c',o',_,_,_,_,rfl⟩:=hx
    refine ⟨_,h,_,by rw[VR],?_⟩;simp only[Builtin.len_,ht,hxs,Sem.run_bind,T.run_und w,Result.andThen_ok];rfl
 ·rename_i k e hu
  have hd:d=.map k e:=by rw[T.u] at hu;cases d<;>simp[zRY] at hu;obtain ⟨rfl,rfl⟩:=hu;rfl
  subst hd;rw[VR] at hx;subst hx
  refine ⟨_,h,_,by rw[VR],?_⟩;simp only[Builtin.len_,ht,hxs,Sem.run_bind,T.run_und w,Result.andThen_ok];rfl
 ·rename_i k e r hu
  have hd:d=.map k e:=by rw[T.u] at hu;cases d<;>simp[zRY] at hu;obtain ⟨rfl,rfl⟩:=hu;rfl
  subst hd;rw[VR] at hx;obtain ⟨l,hl,rfl⟩:=hx
  split at h
  ·rename_i es hg
   obtain ⟨es',cl,h1,h2,h3⟩:=hR.live _ _ _ hg hl;refine ⟨_,h,_,by rw[VR],?_⟩;simp only[Builtin.len_,ht,hxs,Sem.run_bind,T.run_und w,Result.andThen_ok,getObj,Sem.run,h1,h2];rfl
  ·exact h.elim
 ·exact h.elim
def minI (a b:Int):Int:=if b<a then b else a
def maxI (a b:Int):Int:=if a<b then b else a
def zHT (f:Int→Int→Int):EV→List EV→(EV→Prop)→Prop
 | x,[],K=>K x
 | .int k a,.int k' b::r,K=>k=k'∧zHT f (.int k (f a b)) r K
 | _,_::_,_=>False
theorem yHJ {P:Program}:∀ {x:EV} {xs:List EV} {x':Value} {xs':List Value} {K:EV→Prop} (_:zHT minI x xs K) {ρ:Env} (_:VR ρ x x') (_:VRs ρ xs xs') (w:World),
  ∃ v,K v∧∃ v',VR ρ v v'∧(xs'.foldlM Builtin.min2 x').run P w=.ok v' w
 | x,[],x',xs',K,h,ρ,hx,hxs,w=>by
   rw[VRs] at hxs;subst hxs
   exact ⟨x,h,x',hx,rfl⟩
 | .int k a,.int k' b::r,x',xs',K,h,ρ,hx,hxs,w=>by
   simp only[zHT] at h
   obtain ⟨rfl,h⟩:=h;rw[VRs] at hxs
   obtain ⟨y',l',rfl,hy,hl⟩:=hxs;rw[VR] at hx hy;subst hx;subst hy
   obtain ⟨v,h1,v',h2,h3⟩:=yHJ (P:=P) h (x':=.int k (minI a b)) (by rw[VR]) hl w;refine ⟨v,h1,v',h2,?_⟩;simp only[List.foldlM_cons,Sem.run_bind,Builtin.min2,Sem.run_pure,Result.andThen_ok];exact h3
theorem yHY {P:Program}:∀ {x:EV} {xs:List EV} {x':Value} {xs':List Value} {K:EV→Prop} (_:zHT maxI x xs K) {ρ:Env} (_:VR ρ x x') (_:VRs ρ xs xs') (w:World),
  ∃ v,K v∧∃ v',VR ρ v v'∧(xs'.foldlM Builtin.max2 x').run P w=.ok v' w
 | x,[],x',xs',K,h,ρ,hx,hxs,w=>by
   rw[VRs] at hxs;subst hxs
   exact ⟨x,h,x',hx,rfl⟩
 | .int k a,.int k' b::r,x',xs',K,h,ρ,hx,hxs,w=>by
   simp only[zHT] at h
   obtain ⟨rfl,h⟩:=h;rw[VRs] at hxs
   obtain ⟨y',l',rfl,hy,hl⟩:=hxs;rw[VR] at hx hy;subst hx;subst hy
   obtain ⟨v,h1,v',h2,h3⟩:=yHY (P:=P) h (x':=.int k (maxI a b)) (by rw[VR]) hl w;refine ⟨v,h1,v',h2,?_⟩;simp only[List.foldlM_cons,Sem.run_bind,Builtin.max2,Sem.run_pure,Result.andThen_ok];exact h3
end
section
def zQZ (l:List UInt8):List EV:=l.map fun b=>.int .u8 b.toNat
theorem zWH:zQZ []=[]:=rfl
theorem zJW (b:UInt8) (l:List UInt8):zQZ (b::l)=.int .u8 b.toNat::zQZ l:=rfl
theorem zWJ (a b:List UInt8):zQZ (a++b)=zQZ a++zQZ b:=by simp[zQZ]
theorem zQY (l:List UInt8):(zQZ l).length=l.length:=by simp[zQZ]
theorem yVF (l:List UInt8):(zQZ l).all EV.one=true:=by simp[zQZ,EV.one]
theorem zVQ (l:List UInt8) (n:Nat):(zQZ l).take n=zQZ (l.take n):=by simp[zQZ]
theorem zZP (l:List UInt8) (n:Nat):(zQZ l).drop n=zQZ (l.drop n):=by simp[zQZ]
theorem yHN {ρ:Env} (l:List UInt8):VRs ρ (zQZ l) (l.map fun b=>Value.int .u8 b.toNat):=by
 induction l with
 | nil=>exact VRs.nil
 | cons b l ih=>exact VRs.cons (by rw[VR]) ih
theorem yRP {P:Program} {w:World} (size n:Nat) (b:Addr) (len cap:Nat) (cs:List Value) (hl:cs.length=n*size) (h:∀ j v,cs[j]? = some v→w.cell? (b.add j)=some v) :
  (Builtin.firstCells size n (.slice (some b) len cap)).run P w=.ok cs.toArray w:=by
 simp only[Builtin.firstCells];rw[← hl];exact run_loadCells_list w b cs h
theorem zFJ {P:Program} {ρ:Env} {s:ES} {w:World} (hR:Rel ρ s w) {a:EA} {len cap size n:Nat} {c:List EV} {t:TypeId} {z fz:Nat} {wr:Bool} {x':Value} (hg:s.get a.b=some (.cells c t z wr fz)) (hx:VR ρ (.slice (some a) len cap) x') (hn:n≤len) (hle:a.o+n*size≤c.length) :
  ∃ news:Array Value,(Builtin.firstCells size n x').run P w=.ok news w∧VRs ρ ((c.drop a.o).take (n*size)) news.toList:=by
 rw[VR] at hx
 obtain ⟨l,c',o',hl,hcap,hlc,ho',rfl⟩:=hx;obtain ⟨h1,h2,h3,h4,cs,fr,h5,h6,h7,h8⟩:=hR.live _ _ _ hg hl;have hcs:VRs ρ ((c.drop a.o).take (n*size)) ((cs.toList.drop (a.o+l.d)).take (n*size)):=by
  refine VRs.of_get ?_ fun j v hj=>?_
  ·simp;omega
  ·simp only[List.getElem?_take,List.getElem?_drop] at hj ⊢
   split at hj
   ·obtain ⟨v',hv',hr⟩:=h7 _ v hj
    rename_i hlt
    refine ⟨v',?_,hr⟩;rw[if_pos hlt,show a.o+l.d+j=l.d+(a.o+j) by omega]
    simpa using hv'
   ·cases hj
 refine ⟨((cs.toList.drop (a.o+l.d)).take (n*size)).toArray,yRP _ _ _ _ _ _ (by simp;omega) (fun j v hj=>?_),by simpa using hcs⟩;have hjn:j<n*size:=by
  have:=(List.getElem?_eq_some_iff.1 hj).1;simp at this;omega
 have hn0:0<n:=by
  rcases Nat.eq_zero_or_pos n with h | h
  ·subst h;simp at hjn
  ·exact h
 have ho:o'=a.o+l.d:=by
  rcases ho' with q | q
  ·exact q
  ·have:=hcap.pos (by omega);omega
 subst ho;rw[zVR];simp only[List.getElem?_take,List.getElem?_drop,hjn,if_true] at hj
 simp only[World.cell?,h5];simpa using hj
def isU8:EV→Bool
 | .int .u8 _=>true
 | _=>false
def u8of:EV→UInt8
 | .int _ n=>UInt8.ofNat n.toNat
 | _=>0
def zSB (c:List EV):List UInt8:=c.map u8of
theorem xJG (b:UInt8):u8of (.int .u8 b.toNat)=b:=by simp[u8of]
theorem ySV (l:List UInt8):zSB (zQZ l)=l:=by
 induction l with
 | nil=>rfl
 | cons b l ih=>simp only[zJW,zSB,List.map_cons,xJG] at *;rw[ih]
theorem yKV (v:EV) (l:List EV):zSB (v::l)=u8of v::zSB l:=rfl
theorem xVS (l:List UInt8):(zQZ l).all isU8=true:=by simp[zQZ,isU8]
def eB2S (P:Program) (src dst:TypeId) (x:EV) (s:ES) (K:EV→ES→Prop):Prop:=
 match zXZ P src,zXZ P dst with
 | some i,some j=>match i.u,j.u with
   | .slice e,.str=>match zXZ P e with
     | some k=>match k.u with
       | .int .u8=>match x with
         | .slice none _ _=>K (.str []) s
         | .slice (some a) n _=>match s.get a.b with
           | some (.cells c _ _ _ _)=>(a.o+n≤c.length∧((c.drop a.o).take n).all isU8=true)∧K (.str (zSB ((c.drop a.o).take n))) s
           | _=>False
         | _=>False
       | _=>False
     | none=>False
   | _,_=>False
 | _,_=>False
theorem TIs.slice {P:Program} {t e:TypeId} {i:TI} {inf:TypeInfo} {d:TypeDesc} {z:Value} (T:TIs P t i inf d z) (h:i.u=.slice e):P.underlying t=some (.slice e):=by
 have hU:=T.u;rw[h] at hU
 cases d<;>simp[zRY] at hU
 subst hU;exact T.und
theorem TIs.str {P:Program} {t:TypeId} {i:TI} {inf:TypeInfo} {d:TypeDesc} {z:Value} (T:TIs P t i inf d z) (h:i.u=.str):P.underlying t=some .string:=by
 have hU:=T.u;rw[h] at hU
 cases d<;>simp[zRY] at hU
 exact T.und
theorem TIs.int {P:Program} {t:TypeId} {k:IntKind} {i:TI} {inf:TypeInfo} {d:TypeDesc} {z:Value} (T:TIs P t i inf d z) (h:i.u=.int k):P.underlying t=some (.int k):=by
 have hU:=T.u;rw[h] at hU
 cases d<;>simp[zRY] at hU
 subst hU;exact T.und
theorem TIs.map {P:Program} {t e k:TypeId} {i:TI} {inf:TypeInfo} {d:TypeDesc} {z:Value} (T:TIs P t i inf d z) (h:i.u=.map k e):P.underlying t=some (.map k e):=by
 have hU:=T.u;rw[h] at hU
 cases d<;>simp[zRY] at hU
 obtain ⟨rfl,rfl⟩:=hU;exact T.und
theorem VRs.u8 {ρ:Env}:∀ {c:List EV} {cs:List Value},VRs ρ c cs→c.all isU8=true→∃ ns:List Int,cs=ns.map (Value.int .u8)∧zSB c=ns.map fun n=>UInt8.ofNat n.toNat
 | [],cs,h,_=>by rw[VRs] at h;subst h;exact ⟨[],rfl,rfl⟩
 | v::c,cs,h,ha=>by
   rw[VRs] at h
   obtain ⟨v',l',rfl,h1,h2⟩:=h;simp only[List.all_cons,Bool.and_eq_true] at ha
   obtain ⟨ns,h3,h4⟩:=VRs.u8 h2 ha.2;have ha1:=ha.1
   cases v<;>simp[isU8] at ha1
   rename_i k n
   cases k<;>simp at ha1
   rw[VR] at h1
   exact ⟨n::ns,by simp[h1,h3],by simp[yKV,u8of,h4]⟩
theorem b2s_sound {P:Program} {src dst:TypeId} {x:EV} {x':Value} {s:ES} {ρ:Env} {w:World} {K:EV→ES→Prop} (h:eB2S P src dst x s K) (hR:Rel ρ s w) (hx:VR ρ x x'):RunV P ρ s w (convert src dst x') K:=by
 unfold eB2S at h
 split at h
 ·rename_i i j hi hj
  obtain ⟨inf,d,z,T⟩:=zQG hi;obtain ⟨inf2,d2,z2,T2⟩:=zQG hj
  split at h
  ·rename_i e hu hu2
   have hd:=T.slice hu;have hd2:=T2.str hu2
   split at h
   ·rename_i k hk
    obtain ⟨inf3,d3,z3,T3⟩:=zQG hk
    split at h
    ·rename_i hu3
     have hd3:=T3.int hu3
     split at h
     ·rw[VR] at hx;obtain ⟨rfl,rfl,rfl⟩:=hx
      refine RunV.pure (v:=.str []) (v':=.string .empty) hR ?_ (by rw[VR];rfl) h;simp[convert,run_underlying hd,run_underlying hd2,run_underlying hd3,Conv.bytesToString]
     ·rename_i a0 n cap
      split at h
      ·rename_i c t z' wr fz hg
       obtain ⟨⟨hle,hall⟩,hK⟩:=h;obtain ⟨news,q1,q2⟩:=zFJ (P:=P) (size:=1) (n:=n) hR hg hx (Nat.le_refl _) (by simpa using hle);simp only[Nat.mul_one] at q2
       rw[VR] at hx
       obtain ⟨l,c',o',hl,hcap,hlc,ho',rfl⟩:=hx;have hq:(loadCells ⟨l.r,o',none⟩ n).run P w=.ok news w:=by simpa [Builtin.firstCells] using q1
       refine RunV.pure (v:=.str (zSB ((c.drop a0.o).take n))) (v':=.string ⟨(zSB ((c.drop a0.o).take n)).toArray⟩) hR ?_ (by rw[VR]) hK;obtain ⟨ns,n1,n2⟩:=VRs.u8 q2 hall;rw[run_convert_bytes_string w src dst e _ n c' hd hd3 hd2,run_bytesToString w _ n c' ns (by rw[hq];congr 1;rw[← n1]),foldl_push_bytes,n2];simp[ByteArray.empty,ByteArray.emptyWithCapacity];rfl
      ·exact h.elim
     ·exact h.elim
    ·exact h.elim
   ·exact h.elim
  ·exact h.elim
 ·exact h.elim
def b2sP (P:Program) (src dst:TypeId):Bool:=match zXZ P src,zXZ P dst with
 | some i,some j=>match i.u,j.u with
   | .slice _,.str=>true
   | _,_=>false
 | _,_=>false
theorem det_eB2S (P:Program) (src dst:TypeId) (x:EV) (s:ES) (K:EV→ES→Prop) (h:eB2S P src dst x s K):∃ v,∀ K2:EV→ES→Prop,eB2S P src dst x s K2↔K2 v s:=by
 unfold eB2S at h ⊢
 split at h
 ·rename_i i j hi hj
  split at h
  ·rename_i e hu hu2
   split at h
   ·rename_i k hk
    split at h
    ·rename_i hu3
     split at h
     ·exact ⟨_,fun K2=>Iff.rfl⟩
     ·rename_i a0 n cap
      split at h
      ·rename_i c t z wr fz hg
       exact ⟨_,fun K2=>⟨fun q=>q.2,fun q=>⟨h.1,q⟩⟩⟩
      ·exact h.elim
     ·exact h.elim
    ·exact h.elim
   ·exact h.elim
  ·exact h.elim
 ·exact h.elim
end
end Go.E
