/-
  Own work: a part of the proof that the last text closes.
-/
import Derived.Test.YtncphnpndkjkaaaGreatDoorHb
import Derived.Test.YtncphnpndkjkaaaGreatDoorFg
namespace Go.Proofs.YtncphnpndkjkaaaGreatDoor
open Go.E
set_option linter.all false
set_option maxRecDepth 100000
set_option maxHeartbeats 16000000
abbrev Cell:=List UInt8
abbrev TP:=Nat × List Cell
def rd (p:Gp) (s:Gs) (b:Nat):List UInt8:=ovl s.put (p.at_+256*b) 256
theorem yPQ (p:Gp) (s:Gs) (b:Nat):(rd p s b).length=256:=yGH _ _ _
def zWQ:List TP→Nat
 | []=>0
 | (b,_)::_=>b+1
def zRS (c next:Nat) (cs:List Cell):List UInt8:=leB 4 next++leB 2 cs.length++leB 2 c++(cs.flatten++zU (248 - c*cs.length))
structure PartIn (p:Gp) (s:Gs) (c next b:Nat) (cs:List Cell):Prop where
 lt:b<p.n
 use:b∈s.taken
 is:rd p s b=zRS c next cs
 pos:1≤cs.length
 fill:cs.length≤248 / c
 len:∀ x∈cs,x.length=c
def noFit (c n:Nat):List TP→Prop
 | []=>True
 | (_,cs)::_=>248 / c<n+cs.length
def Chain (p:Gp) (s:Gs) (c:Nat):List TP→Prop
 | []=>True
 | (b,cs)::l=>PartIn p s c (zWQ l) b cs∧noFit c cs.length l∧Chain p s c l
theorem zHQ {c:Nat}:∀ {cs:List Cell},(∀ x∈cs,x.length=c)→cs.flatten.length=c*cs.length
 | [],_=>rfl
 | x::r,h=>by
   rw[List.flatten_cons,List.length_append,zHQ fun y hy=>h y (.tail _ hy),h x (.head _),List.length_cons,Nat.mul_succ,Nat.add_comm]
theorem yRT {c n:Nat} (h:n≤248 / c):c*n≤248:=by
 have:=Nat.div_mul_le_self 248 c
 calc c*n≤c*(248 / c):=Nat.mul_le_mul_left _ h
  _≤248:=by rw[Nat.mul_comm];exact this
theorem zRT {c next:Nat} {cs:List Cell} (hl:∀ x∈cs,x.length=c) (hf:cs.length≤248 / c):(zRS c next cs).length=256:=by
 have h1:=zHQ hl;have h2:=yRT hf;simp only[zRS,List.length_append,zXX,h1,zXV];omega
structure AtB (B:List (Nat × EO)) (t b:Nat) (o:EO):Prop where
 hi:11≤b
 lt:b<t
 lk:lkp B b=some o
structure Ext (B:List (Nat × EO)) (t:Nat) (B':List (Nat × EO)) (t':Nat):Prop where
 le:t≤t'
 same:∀ i,i<t→lkp B' i=lkp B i
theorem Ext.refl (B:List (Nat × EO)) (t:Nat):Ext B t B t:=⟨Nat.le_refl _,fun _ _=>rfl⟩
theorem Ext.trans {B B1 B2:List (Nat × EO)} {t t1 t2:Nat} (h:Ext B t B1 t1) (k:Ext B1 t1 B2 t2):Ext B t B2 t2:=
 ⟨Nat.le_trans h.le k.le,fun i hi=>(k.same i (Nat.lt_of_lt_of_le hi h.le)).trans (h.same i hi)⟩
theorem AtB.mono {B B':List (Nat × EO)} {t t' b:Nat} {o:EO} (h:AtB B t b o) (e:Ext B t B' t'):AtB B' t' b o:=⟨h.hi,Nat.lt_of_lt_of_le h.lt e.le,(e.same b h.lt).trans h.lk⟩
section
variable {p:Gp} {B:List (Nat × EO)} {t:Nat}
theorem AtB.f [h:StL p B t] {b:Nat} {o:EO} (ha:AtB B t b o):(∀ s,lkp (stB (zXG p s) B) b=some o)∧(∀ k,(b<t+k)=True)∧(b<t)=True∧(t=b)=False∧∀ k,(t+k=b)=False:=by
 have h1:=ha.lt;refine ⟨fun s=>by rw[StG.lkp_hi ha.hi];exact ha.lk,fun k=>?_,?_,?_,fun k=>?_⟩<;>simp<;>omega
theorem StL.above [h:StL p B t] {t':Nat} {X:List (Nat × EO)} (ht:t≤t') (hX:zXT t X) (hk:zWN X) (hb:blBelow t' X):StL p (X++B) t'∧Ext B t (X++B) t':=by
 have h1:∀ i,i<t→lkp (X++B) i=lkp B i:=fun i hi=>by rw[zXW,zVF hX hi];rfl
 refine ⟨{ toStG:=StG.above ht hX hk hb,line:=fun i hi=>?_,top:=Nat.le_trans h.top ht },ht,h1⟩;rw[h1 _ (by have:=h.top;omega)];exact h.line i hi
end
def CellV (B:List (Nat × EO)) (t:Nat) (v:EV) (c:Cell):Prop:=
 ∃ d o cap D z w f,v=.slice (some ⟨d,o⟩) c.length cap∧AtB B t d (.cells (zQZ D) 5 z w f)∧o+c.length≤D.length∧(D.drop o).take c.length=c
def CellsV (B:List (Nat × EO)) (t:Nat):List EV→List Cell→Prop
 | [],[]=>True
 | v::vs,c::cs=>CellV B t v c∧CellsV B t vs cs
 | _,_=>False
theorem CellV.mono {B B':List (Nat × EO)} {t t':Nat} (e:Ext B t B' t') {v:EV} {c:Cell} (h:CellV B t v c):CellV B' t' v c:=by
 obtain ⟨d,o,cap,C,z,w,f,h1,h2,h3,h4⟩:=h;exact ⟨d,o,cap,C,z,w,f,h1,h2.mono e,h3,h4⟩
theorem CellsV.mono {B B':List (Nat × EO)} {t t':Nat} (e:Ext B t B' t'):∀ {vs:List EV} {cs:List Cell},CellsV B t vs cs→CellsV B' t' vs cs
 | [],[],_=>trivial
 | _::_,_::_,h=>⟨h.1.mono e,CellsV.mono e h.2⟩
 | [],_::_,h=>h.elim
 | _::_,[],h=>h.elim
theorem CellsV.length {B:List (Nat × EO)} {t:Nat}:∀ {vs:List EV} {cs:List Cell},CellsV B t vs cs→vs.length=cs.length
 | [],[],_=>rfl
 | _::_,_::_,h=>by simp[CellsV.length h.2]
 | [],_::_,h=>h.elim
 | _::_,[],h=>h.elim
theorem CellsV.append {B:List (Nat × EO)} {t:Nat}:∀ {vs:List EV} {cs:List Cell} {us:List EV} {ds:List Cell},CellsV B t vs cs→CellsV B t us ds→CellsV B t (vs++us) (cs++ds)
 | [],[],_,_,_,k=>k
 | _::_,_::_,_,_,h,k=>⟨h.1,CellsV.append h.2 k⟩
 | [],_::_,_,_,h,_=>h.elim
 | _::_,[],_,_,h,_=>h.elim
theorem CellsV.get {B:List (Nat × EO)} {t:Nat}:∀ {vs:List EV} {cs:List Cell},CellsV B t vs cs→∀ {i:Nat} {c:Cell},cs[i]? = some c→∃ v,vs[i]? = some v∧CellV B t v c
 | v::_,d::_,h,0,c,hi=>by simp at hi;subst hi;exact ⟨v,rfl,h.1⟩
 | _::_,_::_,h,i+1,c,hi=>by simpa using CellsV.get h.2 (by simpa using hi)
 | [],[],_,i,c,hi=>by simp at hi
 | [],_::_,h,_,_,_=>h.elim
 | _::_,[],h,_,_,_=>h.elim
theorem CellsV.take {B:List (Nat × EO)} {t:Nat}:∀ {vs:List EV} {cs:List Cell},CellsV B t vs cs→∀ n,CellsV B t (vs.take n) (cs.take n)
 | [],[],_,n=>by simp[CellsV]
 | _::_,_::_,h,0=>trivial
 | _::_,_::_,h,n+1=>⟨h.1,CellsV.take h.2 n⟩
 | [],_::_,h,_=>h.elim
 | _::_,[],h,_=>h.elim
theorem CellsV.drop {B:List (Nat × EO)} {t:Nat}:∀ {vs:List EV} {cs:List Cell},CellsV B t vs cs→∀ n,CellsV B t (vs.drop n) (cs.drop n)
 | [],[],_,n=>by simp[CellsV]
 | _::_,_::_,h,0=>h
 | _::_,_::_,h,n+1=>CellsV.drop h.2 n
 | [],_::_,h,_=>h.elim
 | _::_,[],h,_=>h.elim
theorem CellsV.one {B:List (Nat × EO)} {t:Nat}:∀ {vs:List EV} {cs:List Cell},CellsV B t vs cs→vs.all EV.one=true
 | [],[],_=>rfl
 | _::_,_::_,h=>by
   obtain ⟨⟨d,o,cap,C,z,w,f,rfl,_⟩,h2⟩:=h;simp[EV.one,CellsV.one h2]
 | [],_::_,h=>h.elim
 | _::_,[],h=>h.elim
theorem CellsV.below {B:List (Nat × EO)} {t:Nat}:∀ {vs:List EV} {cs:List Cell},CellsV B t vs cs→zQX t vs
 | [],[],_=>trivial
 | _::_,_::_,h=>by
   obtain ⟨⟨d,o,cap,C,z,w,f,rfl,h1,_⟩,h2⟩:=h;exact ⟨h1.lt,CellsV.below h2⟩
 | [],_::_,h=>h.elim
 | _::_,[],h=>h.elim
def RowV (B:List (Nat × EO)) (t:Nat) (v:EV) (cs:List Cell):Prop:=
 ∃ r o cap C w f,v=.slice (some ⟨r,o⟩) cs.length cap∧AtB B t r (.cells C 56 0 w f)∧(o+cs.length≤C.length∧cs.length≤cap)∧CellsV B t ((C.drop o).take cs.length) cs
theorem RowV.mono {B B':List (Nat × EO)} {t t':Nat} (e:Ext B t B' t') {v:EV} {cs:List Cell} (h:RowV B t v cs):RowV B' t' v cs:=by
 obtain ⟨r,o,cap,C,w,f,h1,h2,h3,h4⟩:=h;exact ⟨r,o,cap,C,w,f,h1,h2.mono e,h3,h4.mono e⟩
structure Pt where
 b:Int
 row:EV
 fresh:Bool
structure PL where
 b:Int
 cs:List Cell
 fresh:Bool
def ptC (l:List Pt):List EV:=l.flatMap fun x=>[.int .i64 x.b,x.row,.bool x.fresh]
def PsV (B:List (Nat × EO)) (t:Nat):List Pt→List PL→Prop
 | [],[]=>True
 | x::l,y::m=>(x.b=y.b∧x.fresh=y.fresh∧RowV B t x.row y.cs)∧PsV B t l m
 | _,_=>False
theorem PsV.mono {B B':List (Nat × EO)} {t t':Nat} (e:Ext B t B' t'):∀ {l:List Pt} {m:List PL},PsV B t l m→PsV B' t' l m
 | [],[],_=>trivial
 | _::_,_::_,h=>⟨⟨h.1.1,h.1.2.1,h.1.2.2.mono e⟩,PsV.mono e h.2⟩
 | [],_::_,h=>h.elim
 | _::_,[],h=>h.elim
theorem PsV.length {B:List (Nat × EO)} {t:Nat}:∀ {l:List Pt} {m:List PL},PsV B t l m→l.length=m.length
 | [],[],_=>rfl
 | _::_,_::_,h=>by simp[PsV.length h.2]
 | [],_::_,h=>h.elim
 | _::_,[],h=>h.elim
theorem PsV.append {B:List (Nat × EO)} {t:Nat}:∀ {l:List Pt} {m:List PL} {l2:List Pt} {m2:List PL},PsV B t l m→PsV B t l2 m2→PsV B t (l++l2) (m++m2)
 | [],[],_,_,_,k=>k
 | _::_,_::_,_,_,h,k=>⟨h.1,PsV.append h.2 k⟩
 | [],_::_,_,_,h,_=>h.elim
 | _::_,[],_,_,h,_=>h.elim
theorem PsV.get {B:List (Nat × EO)} {t:Nat}:∀ {l:List Pt} {m:List PL},PsV B t l m→∀ {i:Nat} {y:PL},m[i]? = some y→∃ x,l[i]? = some x∧x.b=y.b∧x.fresh=y.fresh∧RowV B t x.row y.cs
 | x::_,_::_,h,0,y,hi=>by simp at hi;subst hi;exact ⟨x,rfl,h.1⟩
 | _::_,_::_,h,i+1,y,hi=>by simpa using PsV.get h.2 (by simpa using hi)
 | [],[],_,i,y,hi=>by simp at hi
 | [],_::_,h,_,_,_=>h.elim
 | _::_,[],h,_,_,_=>h.elim
theorem PsV.take {B:List (Nat × EO)} {t:Nat}:∀ {l:List Pt} {m:List PL},PsV B t l m→∀ n,PsV B t (l.take n) (m.take n)
 | [],[],_,n=>by simp[PsV]
 | _::_,_::_,h,0=>trivial
 | _::_,_::_,h,n+1=>⟨h.1,PsV.take h.2 n⟩
 | [],_::_,h,_=>h.elim
 | _::_,[],h,_=>h.elim
theorem PsV.drop {B:List (Nat × EO)} {t:Nat}:∀ {l:List Pt} {m:List PL},PsV B t l m→∀ n,PsV B t (l.drop n) (m.drop n)
 | [],[],_,n=>by simp[PsV]
 | _::_,_::_,h,0=>h
 | _::_,_::_,h,n+1=>PsV.drop h.2 n
 | [],_::_,h,_=>h.elim
 | _::_,[],h,_=>h.elim
theorem zQF (l:List Pt):(ptC l).length=3*l.length:=by
 induction l with
 | nil=>rfl
 | cons x l ih=>simp only[ptC,List.flatMap_cons,List.length_append,List.length_cons,List.length_nil] at ih ⊢;omega
theorem zWS (l m:List Pt):ptC (l++m)=ptC l++ptC m:=by simp[ptC]
theorem PsV.one {B:List (Nat × EO)} {t:Nat}:∀ {l:List Pt} {m:List PL},PsV B t l m→(ptC l).all EV.one=true
 | [],[],_=>rfl
 | x::l,_::_,h=>by
   obtain ⟨⟨_,_,r,o,cap,C,w,f,e,_⟩,h2⟩:=h;have ih:=PsV.one h2;simp only[ptC,List.flatMap_cons,List.all_append,List.all_cons,e,EV.one,List.all_nil] at ih ⊢
   simpa using ih
 | [],_::_,h=>h.elim
 | _::_,[],h=>h.elim
theorem PsV.below {B:List (Nat × EO)} {t:Nat}:∀ {l:List Pt} {m:List PL},PsV B t l m→zQX t (ptC l)
 | [],[],_=>trivial
 | x::l,_::_,h=>by
   obtain ⟨⟨_,_,r,o,cap,C,w,f,e,h1,_⟩,h2⟩:=h;have ih:=PsV.below h2;simp only[ptC,List.flatMap_cons] at ih ⊢
   rw[zQB];exact ⟨⟨trivial,by rw[e];exact h1.lt,trivial,trivial⟩,ih⟩
 | [],_::_,h=>h.elim
 | _::_,[],h=>h.elim
end Go.Proofs.YtncphnpndkjkaaaGreatDoor
