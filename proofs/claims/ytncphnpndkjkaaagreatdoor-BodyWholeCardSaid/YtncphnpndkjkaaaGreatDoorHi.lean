/-
  Own work: a part of the proof that the last text closes.
-/
import Derived.Test.YtncphnpndkjkaaaGreatDoorHh
import Derived.Test.YtncphnpndkjkaaaGreatDoorFi
namespace Go.Proofs.YtncphnpndkjkaaaGreatDoor
open Go.E
set_option linter.all false
set_option maxRecDepth 100000
set_option maxHeartbeats 16000000
section
def zNY (a k:Nat):Nat:=if a % k=0 then a / k else a / k+1
def cutL:Nat→List UInt8→Int→List Ck
 | 0,_,_=>[]
 | k+1,s,b=>⟨s.take (zNY s.length (k+1)),zNY s.length (k+1),b⟩::cutL k (s.drop (zNY s.length (k+1))) (-1)
def yTT (s:List UInt8) (b:Int):List Ck:=cutL ((s.length+251) / 252) s b
theorem yFW {a k m:Nat} (hk:0<k) (h:a≤m*k):zNY a k≤m:=by
 unfold zNY;have h1:=Nat.div_add_mod a k;have h2:a / k≤m:=Nat.div_le_of_le_mul (by rw[Nat.mul_comm];exact h)
 split
 ·exact h2
 ·rename_i hm
  rcases Nat.lt_or_ge (a / k) m with q | q
  ·exact q
  ·have e:a / k=m:=Nat.le_antisymm h2 q;rw[e] at h1
   have:k*m=m*k:=Nat.mul_comm _ _;omega
theorem xTZ {a k:Nat} (hk:0<k):a≤zNY a k*k:=by
 unfold zNY;have h1:=Nat.div_add_mod a k;have h2:=Nat.mod_lt a hk
 split
 ·rename_i hm
  rw[Nat.mul_comm];omega
 ·rw[Nat.add_mul,Nat.mul_comm];omega
theorem yVM {a k:Nat} (hk:0<k):zNY a k≤a:=by
 refine yFW hk ?_;exact Nat.le_mul_of_pos_right a hk
theorem yHB {a k m:Nat} (h:a≤m*(k+1)):a - zNY a (k+1)≤m*k:=by
 have h1:=xTZ (a:=a) (k:=k+1) (by omega);have h2:m*(k+1)=m*k+m:=Nat.mul_succ m k;have h3:zNY a (k+1)*(k+1)=zNY a (k+1)*k+zNY a (k+1):=Nat.mul_succ _ k
 rcases Nat.lt_or_ge (zNY a (k+1)) m with q | q
 ·have:=Nat.mul_le_mul_right k (Nat.le_of_lt q);omega
 ·omega
theorem yTP:∀ (k:Nat) (s:List UInt8) (b:Int),s.length≤252*k→zQP (cutL k s b)=s
 | 0,s,b,h=>by
   have:s=[]:=List.eq_nil_of_length_eq_zero (by omega);subst this;rfl
 | k+1,s,b,h=>by
   have h1:=yHB (a:=s.length) (k:=k) (m:=252) h;have ih:=yTP k (s.drop (zNY s.length (k+1))) (-1) (by rw[List.length_drop];exact h1);unfold zQP at ih ⊢
   rw[cutL,List.flatMap_cons,ih];exact List.take_append_drop _ s
theorem yXH:∀ (k:Nat) (s:List UInt8) (b:Int),s.length≤252*k→∀ x∈cutL k s b,x.T.length≤252∧x.f=x.T.length
 | 0,s,b,h,x,hx=>by simp[cutL] at hx
 | k+1,s,b,h,x,hx=>by
   have h1:=yHB (a:=s.length) (k:=k) (m:=252) h;have h2:=yFW (a:=s.length) (k:=k+1) (m:=252) (by omega) h;have h3:=yVM (a:=s.length) (k:=k+1) (by omega);rw[cutL] at hx
   rcases List.mem_cons.1 hx with rfl | hx
   ·simp only[List.length_take];omega
   ·exact yXH k _ _ (by rw[List.length_drop];exact h1) x hx
theorem yMB:∀ (k:Nat) (s:List UInt8) (b:Int),k≤s.length→∀ x∈cutL k s b,1≤x.T.length
 | 0,s,b,h,x,hx=>by simp[cutL] at hx
 | k+1,s,b,h,x,hx=>by
   have h3:=yVM (a:=s.length) (k:=k+1) (by omega);have h4:=xTZ (a:=s.length) (k:=k+1) (by omega);rw[cutL] at hx
   rcases List.mem_cons.1 hx with rfl | hx
   ·simp only[List.length_take]
    rcases Nat.eq_zero_or_pos (zNY s.length (k+1)) with e | e
    ·rw[e] at h4;omega
    ·omega
   ·refine yMB k _ _ ?_ x hx;rw[List.length_drop];have h5:zNY s.length (k+1)≤s.length - k:=by
     refine yFW (by omega) ?_;obtain ⟨d,hd⟩:∃ d,s.length=d+k+1:=⟨s.length - k - 1,by omega⟩;rw[hd,show d+k+1 - k=d+1 by omega,Nat.mul_add,Nat.add_mul];have:=Nat.zero_le (d*k);omega
    omega
theorem zTX:∀ (k:Nat) (s:List UInt8) (b:Int),(cutL k s b).length=k
 | 0,_,_=>rfl
 | k+1,s,b=>by rw[cutL,List.length_cons,zTX]
theorem yMN:∀ (k:Nat) (s:List UInt8) (b:Int),∀ x∈cutL k s b,x.b=b∨x.b = -1
 | 0,s,b,x,hx=>by simp[cutL] at hx
 | k+1,s,b,x,hx=>by
   rw[cutL] at hx
   rcases List.mem_cons.1 hx with rfl | hx
   ·exact .inl rfl
   ·exact .inr ((yMN k _ _ x hx).elim id id)
variable {p:Gp} (B:List (Nat × EO)) {t:Nat}
def CkV (B:List (Nat × EO)) (t r:Nat) (v:EV) (l:List Ck):Prop:=
 ∃ cap D z,v=.slice (some ⟨r,0⟩) l.length cap∧AtB B t r (.cells (ckC l++D) 192 z true 0)∧l.length≤cap∧cap*3≤l.length*3+D.length∧(z=0∨z=3∧cap*3=l.length*3+D.length)∧zQX 0 D∧D.all EV.one=true
theorem cut_c (G:List Gl) (s:Gs) [Big t] [hS0:StL p B t] (x:List UInt8) (b:Int) (hx:x.length≤2000000) (h0:0<x.length) :
  EffR G Tryz.prog 84 [.str x,.int .i64 b] (gnd p s B) t (fun v bl nx=>∃ B' r,bl=gnd p s B'∧StL p B' nx∧Ext B t B' nx∧t≤r∧CkV B' nx r v (yTT x b)):=by
 refine EffR.enter fun Q hQ=>?_
 refine zQV 47 [.tmp 4] Tryz.func84 ?_
 repeat' (first|refine zQQ 1073857011 ?_|refine zQW ?_|(refine stp ?_;simp only[go_sem])|(simp (disch:=omega) only[zQK,zDQ])|fail)
 obtain ⟨k,hk⟩:∃ k,(x.length+251) / 252=k:=⟨_,rfl⟩;have hkl:x.length≤252*k∧k≤x.length:=by omega
 have hke:((x.length:Int)+252 - 1) / 252=(k:Int):=by omega
 have hcg:yTT x b=cutL k x b:=by unfold yTT;rw[hk]
 rw[hke];refine zQM (fun z:Nat × List Ck × List UInt8 × Int=>[(0,.str z.2.2.1),(1,.int .i64 z.2.2.2),(5,zVW t z.2.1.length),(6,.int .i64 k),(14,.int .i64 k),(15,.int .i64 z.1)]) (fun z:Nat × List Ck × List UInt8 × Int=>zVY t (ckC z.2.1) 192 3++stB (zXG p s) B) (fun z:Nat × List Ck × List UInt8 × Int=>t+1) (fun z:Nat × List Ck × List UInt8 × Int=>z.1≤k∧z.2.1.length=z.1∧z.2.1++cutL (k - z.1) z.2.2.1 z.2.2.2=yTT x b∧z.2.2.1.length≤x.length) (fun z:Nat × List Ck × List UInt8 × Int=>k - z.1) ((0,[],x,b)) ?_ ?_ ?_ ?_ ?_
 ·rintro ⟨i,l,s,c⟩ -
  refine ⟨by simp[zWP],?_,by show t≤t+1;omega⟩;rw[zXS (by simp) (zXD _ _),Bg.blBelow];trivial
 ·exact ⟨Nat.zero_le _,rfl,by rw[hcg];rfl,Nat.le_refl _⟩
 ·simp only[go_sem,zQS,zWY,List.length_nil]
 ·show zWG _ (stB (zXG p s) B);simp only[go_sem]
 ·rintro ⟨i,l,y,c⟩ ⟨hi,hl,hcu,hyl⟩
  simp only at hi hl hcu hyl ⊢
  have hckl:=zWR l;have hck1:=zNK l
  rcases Nat.lt_or_ge i k with hik | hik
  ·obtain ⟨d,hd⟩:∃ d,k - i=d+1:=⟨k - i - 1,by omega⟩;have hdi:((k:Int) - i)=((d+1:Nat):Int):=by omega
   have hd2:k - (i+1)=d:=by omega
   rw[hd,cutL] at hcu
   have hq:((y.length:Int) / ((d+1:Nat):Int))=((y.length / (d+1):Nat):Int):=rfl;have hm:((y.length:Int) % ((d+1:Nat):Int))=((y.length % (d+1):Nat):Int):=rfl;have hqb:y.length / (d+1)≤y.length:=Nat.div_le_self _ _;have hcs:=yVM (a:=y.length) (k:=d+1) (by omega);unfold zNY at hcs hcu
   generalize hQ0:y.length / (d+1)=q at *
   generalize hM0:y.length % (d+1)=m at *
   have hrp:∀ π,zZG π (ckC l)=ckC l:=fun π=>xJQ _ _
   have hbp:∀ k,zQX k (ckC l)=True:=fun k=>eq_true (zXD _ _)
   have hk0:((d+1:Nat):Int) ≠ 0∧0<((d+1:Nat):Int)∧((d+1:Nat):Int)≤9000000000:=by omega
   by_cases hm0:m=0
   ·rw[if_pos hm0] at hcs hcu
    repeat' (first|refine zQQ 1073857011 ?_|refine zQW ?_|(refine stp ?_;simp only[go_sem,hdi,hq])|(refine zJJ (c:=ckC l) (by omega) (by omega) (by first|(simp;done)|fail) (by first|(simp;done)|fail) (by omega) (by first|(simp;done)|fail) (by first|(simp[EV.one];done)|fail) (by simp;omega) ?_;(try simp only[go_sem,hq]))|(simp only[go_sem,hq,hm])|(simp (disch:=omega) only[zQK,zDQ,zFD])|(refine spl (fun h=>?_) (fun h=>?_)<;>first|omega|((try simp only[go_sem,hq,h])))|(refine zQT ?_ ?_;focus omega))
    (refine ⟨(i+1,l++[⟨y.take (q),q,c⟩],y.drop (q),-1),t,[t+2],?_,?_,rfl,rfl,?_,⟨?_,rfl,?_,?_,?_,?_,?_⟩⟩;rotate_left;(focus (simp only[];omega));(focus (simp[go_sem,zQS,zZK,List.length_append,Int.natCast_add]));(focus (omega));(focus simp);(focus (simp));(focus (simp only[];omega));(focus (simp[zXJ,zRK,zZV,hbp]));(focus (simp[zXJ,zRK,zZV,hrp]));(try simp only[]))
    refine ⟨hik,by rw[List.length_append,hl];rfl,?_,by rw[List.length_drop];omega⟩;rw[hd2,List.append_assoc];exact hcu
   ·rw[if_neg hm0] at hcs hcu
    repeat' (first|refine zQQ 1073857011 ?_|refine zQW ?_|(refine stp ?_;simp only[go_sem,hdi,hq])|(refine zJJ (c:=ckC l) (by omega) (by omega) (by first|(simp;done)|fail) (by first|(simp;done)|fail) (by omega) (by first|(simp;done)|fail) (by first|(simp[EV.one];done)|fail) (by simp;omega) ?_;(try simp only[go_sem,hq]))|(simp only[go_sem,hq,hm])|(simp (disch:=omega) only[zQK,zDQ,zFD])|(refine spl (fun h=>?_) (fun h=>?_)<;>first|omega|((try simp only[go_sem,hq,h])))|(refine zQT ?_ ?_;focus omega))
    (refine ⟨(i+1,l++[⟨y.take (q+1),q+1,c⟩],y.drop (q+1),-1),t,[t+2],?_,?_,rfl,rfl,?_,⟨?_,rfl,?_,?_,?_,?_,?_⟩⟩;rotate_left;(focus (simp only[];omega));(focus (simp[go_sem,zQS,zZK,List.length_append,Int.natCast_add]));(focus (omega));(focus simp);(focus (simp));(focus (simp only[];omega));(focus (simp[zXJ,zRK,zZV,hbp,Int.natCast_add]));(focus (simp[zXJ,zRK,zZV,hrp,Int.natCast_add]));(try simp only[]))
    refine ⟨hik,by rw[List.length_append,hl];rfl,?_,by rw[List.length_drop];omega⟩;rw[hd2,List.append_assoc];exact hcu
  ·obtain rfl:i=k:=by omega
   rw[Nat.sub_self] at hcu
   repeat' (first|refine zQQ 1073857011 ?_|(refine stp ?_;simp only[go_sem])|(refine spl (fun h=>?_) (fun h=>?_)<;>first|omega|try simp only[go_sem,h])|fail)
   have hlp:0<l.length:=by omega
   have hll:l=yTT x b:=by rw[← hcu];simp[cutL]
   have hx:=zRJ (p:=p) (B':=B) (T:=t) (ty:=192) (k:=3) (n:=l.length) (c:=ckC l) (zXD _ _) hckl (by omega);haveI:=hx.1;haveI:Big (t+1):=⟨hx.1.big⟩;rw[← zTN];refine zWX hQ (by omega) (Bg.below (t:=t+1)) (by simp) ⟨_,t,rfl,hx.1,hx.2.1,Nat.le_refl _,?_⟩;rw[← hll];refine ⟨l.length,[],3,zWZ hlp,⟨hS0.big,by omega,?_⟩,Nat.le_refl _,by simp,.inr ⟨rfl,by simp⟩,trivial,rfl⟩;rw[zXR (by omega)];simp[lkp]
end
section
def zJF (x y:Ck):Ck:=⟨x.T++y.T,(x.T++y.T).length,if x.b<0 then y.b else x.b⟩
def zXF (i:Nat) (l:List Ck):List Ck:=
 match h1:l[i]?,h2:l[i+1]? with
 | some x,some y=>if 252<x.T.length+y.T.length then zXF (i+1) l else zXF 0 (l.take i++zJF x y::l.drop (i+2))
 | _,_=>l
termination_by (l.length,l.length - i)
decreasing_by
 ·have:=(List.getElem?_eq_some_iff.1 h1).1
  apply Prod.Lex.right;omega
 ·have:=(List.getElem?_eq_some_iff.1 h2).1
  apply Prod.Lex.left
  simp only[List.length_append,List.length_take,List.length_cons,List.length_drop];omega
theorem yGK {i:Nat} {l:List Ck} {x y:Ck} (h1:l[i]? = some x) (h2:l[i+1]? = some y) (h:252<x.T.length+y.T.length):zXF i l=zXF (i+1) l:=by
 rw[zXF]
 split
 ·rename_i a b e1 e2
  rw[h1] at e1;rw[h2] at e2;cases e1;cases e2
  rw[if_pos h]
 ·rename_i hn
  exact absurd h2 (hn x y h1)
theorem yZJ {i:Nat} {l:List Ck} {x y:Ck} (h1:l[i]? = some x) (h2:l[i+1]? = some y) (h:¬ 252<x.T.length+y.T.length):zXF i l=zXF 0 (l.take i++zJF x y::l.drop (i+2)):=by
 rw[zXF]
 split
 ·rename_i a b e1 e2
  rw[h1] at e1;rw[h2] at e2;cases e1;cases e2
  rw[if_neg h]
 ·rename_i hn
  exact absurd h2 (hn x y h1)
theorem yQD {i:Nat} {l:List Ck} (h:l.length≤i+1):zXF i l=l:=by
 rw[zXF]
 split
 ·rename_i a b e1 e2
  have:=(List.getElem?_eq_some_iff.1 e2).1;omega
 ·rfl
theorem zNF (P:Nat→List Ck→Prop) (h1:∀ i l x y,l[i]? = some x→l[i+1]? = some y→252<x.T.length+y.T.length→P i l→P (i+1) l) (h2:∀ i l x y,l[i]? = some x→l[i+1]? = some y→¬ 252<x.T.length+y.T.length→P i l→P 0 (l.take i++zJF x y::l.drop (i+2))) :
  ∀ (i:Nat) (l:List Ck),P i l→∃ j,(zXF i l).length≤j+1∧P j (zXF i l):=by
 have key:∀ (n m i:Nat) (l:List Ck),l.length=n→l.length - i≤m→P i l→∃ j,(zXF i l).length≤j+1∧P j (zXF i l):=by
  intro n
  induction n using Nat.strongRecOn with
  | ind n ihn=>
    intro m
    induction m with
    | zero=>
      intro i l hl hm hp;rw[yQD (by omega)];exact ⟨i,by omega,hp⟩
    | succ m ihm=>
      intro i l hl hm hp
      rcases Nat.lt_or_ge (i+1) l.length with hi | hi
      ·have e1:l[i]? = some l[i]:=List.getElem?_eq_getElem (by omega);have e2:l[i+1]? = some l[i+1]:=List.getElem?_eq_getElem hi
       by_cases h:252<l[i].T.length+l[i+1].T.length
       ·rw[yGK e1 e2 h];exact ihm (i+1) l hl (by omega) (h1 i l _ _ e1 e2 h hp)
       ·rw[yZJ e1 e2 h];refine ihn (n - 1) (by omega) _ 0 _ ?_ (Nat.le_refl _) (h2 i l _ _ e1 e2 h hp);simp only[List.length_append,List.length_take,List.length_cons,List.length_drop];omega
      ·rw[yQD hi];exact ⟨i,hi,hp⟩
 exact fun i l hp=>key l.length _ i l rfl (Nat.le_refl _) hp
theorem split2 {l:List Ck} {i:Nat} {x y:Ck} (h1:l[i]? = some x) (h2:l[i+1]? = some y):l=l.take i++x::y::l.drop (i+2):=by
 have q1:=(List.getElem?_eq_some_iff.1 h1).1;have q2:=(List.getElem?_eq_some_iff.1 h2).1
 conv=>lhs;rw[← List.take_append_drop i l,List.drop_eq_getElem_cons q1,List.drop_eq_getElem_cons q2]
 rw[(List.getElem?_eq_some_iff.1 h1).2,(List.getElem?_eq_some_iff.1 h2).2]
theorem zFV (l:List Ck):zQP (zXF 0 l)=zQP l:=by
 obtain ⟨j,-,h⟩:=zNF (fun _ m=>zQP m=zQP l) (fun i m x y _ _ _ h=>h) (fun i m x y e1 e2 _ h=>by
  rw[← h]
  conv=>rhs;rw[split2 e1 e2]
  simp[zQP,zJF]) 0 l rfl
 exact h
theorem settC_fit (l:List Ck):∀ j x y,(zXF 0 l)[j]? = some x→(zXF 0 l)[j+1]? = some y→252<x.T.length+y.T.length:=by
 obtain ⟨k,hk,h⟩:=zNF (fun i m=>∀ j,j<i→∀ x y,m[j]? = some x→m[j+1]? = some y→252<x.T.length+y.T.length) (fun i m x y e1 e2 hf h j hj a b q1 q2=>by
  rcases Nat.lt_or_ge j i with w | w
  ·exact h j w a b q1 q2
  ·obtain rfl:j=i:=by omega
   rw[e1] at q1;rw[e2] at q2;cases q1;cases q2;exact hf) (fun i m x y _ _ _ _ j hj=>absurd hj (by omega)) 0 l (fun j hj=>absurd hj (by omega))
 intro j x y q1 q2;refine h j ?_ x y q1 q2;have:=(List.getElem?_eq_some_iff.1 q2).1;omega
theorem xQV:∀ {l:List Ck},(∀ (j:Nat) x y,l[j]? = some x→l[j+1]? = some y→252<x.T.length+y.T.length)→noFitC l
 | [],_=>trivial
 | [_],_=>trivial
 | x::y::l,h=>⟨h 0 x y rfl rfl,xQV fun j a b q1 q2=>h (j+1) a b (by simpa using q1) (by simpa using q2)⟩
theorem yWQ (Q:Ck→Prop) (hj:∀ x y,x.T.length+y.T.length≤252→Q x→Q y→Q (zJF x y)) (l:List Ck) (hl:∀ x∈l,Q x):∀ x∈zXF 0 l,Q x:=by
 obtain ⟨k,-,h⟩:=zNF (fun _ m=>∀ x∈m,Q x) (fun i m x y _ _ _ h=>h) (fun i m x y e1 e2 hf h z hz=>by
  rcases List.mem_append.1 hz with w | w
  ·exact h z (List.take_subset _ _ w)
  ·rcases List.mem_cons.1 w with rfl | w
   ·exact hj x y (by omega) (h x (List.mem_of_getElem? e1)) (h y (List.mem_of_getElem? e2))
   ·exact h z (List.drop_subset _ _ w)) 0 l hl
 exact h
theorem yKJ (l:List Ck):(zXF 0 l).length≤l.length:=by
 obtain ⟨k,-,h⟩:=zNF (fun _ m=>m.length≤l.length) (fun i m x y _ _ _ h=>h) (fun i m x y e1 e2 hf h=>by
  have:=(List.getElem?_eq_some_iff.1 e2).1;simp only[List.length_append,List.length_take,List.length_cons,List.length_drop];omega) 0 l (Nat.le_refl _)
 exact h
theorem yWR {z:PL} (h:z.b = -1) (d:List PL):zRW (z::d)=zRW d:=by simp only[zRW];rw[if_pos h]
theorem zHP {z:PL} (h:0≤z.b) (d:List PL):zRW (z::d)=z.b.toNat::zRW d:=by simp only[zRW];rw[if_neg (by omega)]
theorem yWS {z:PL} (h:z.b = -1) (d:List PL):zRD (z::d)=zRD d+1:=by simp only[zRD];rw[if_pos h]
theorem zTJ {z:PL} (h:0≤z.b) (d:List PL):zRD (z::d)=zRD d:=by simp only[zRD];rw[if_neg (by omega)]
def zJD (x:Ck):PL:=⟨x.b,[x.T],false⟩
theorem yYS (l:List Ck) (hb:∀ x∈l,x.b = -1∨0≤x.b):(zRW ((zXF 0 l).map zJD)).Sublist (zRW (l.map zJD))∧zRD ((zXF 0 l).map zJD)≤zRD (l.map zJD):=by
 obtain ⟨k,-,h⟩:=zNF (fun _ m=>(∀ x∈m,x.b = -1∨0≤x.b)∧(zRW (m.map zJD)).Sublist (zRW (l.map zJD))∧zRD (m.map zJD)≤zRD (l.map zJD)) (fun i m x y _ _ _ h=>h) (fun i m x y e1 e2 hf h=>by
  obtain ⟨h0,h1,h2⟩:=h;have hx:=h0 x (List.mem_of_getElem? e1);have hy:=h0 y (List.mem_of_getElem? e2);refine ⟨fun z hz=>?_,?_⟩
  ·rcases List.mem_append.1 hz with w | w
   ·exact h0 z (List.take_subset _ _ w)
   ·rcases List.mem_cons.1 w with rfl | w
    ·simp only[zJF];split<;>assumption
    ·exact h0 z (List.drop_subset _ _ w)
  ·rw[split2 e1 e2] at h1 h2
   simp only[List.map_append,List.map_cons,zTK,zBD] at h1 h2 ⊢
   generalize (m.take i).map zJD=a at *
   generalize (m.drop (i+2)).map zJD=d at *
   have ex:(zJD x).b=x.b:=rfl;have ey:(zJD y).b=y.b:=rfl;have ez:(zJD (zJF x y)).b=if x.b<0 then y.b else x.b:=rfl
   generalize zJD x=X at *
   generalize zJD y=Y at *
   generalize zJD (zJF x y)=Z at *
   refine ⟨List.Sublist.trans (List.Sublist.append (List.Sublist.refl _) ?_) h1,Nat.le_trans (Nat.add_le_add_left ?_ _) h2⟩
   ·rcases hx with hx | hx
    ·rw[if_pos (by omega)] at ez
     rw[yWR (z:=X) (by omega)]
     rcases hy with hy | hy
     ·rw[yWR (z:=Z) (by omega),yWR (z:=Y) (by omega)];exact List.Sublist.refl _
     ·rw[zHP (z:=Z) (by omega),zHP (z:=Y) (by omega),ez,ey];exact List.Sublist.refl _
    ·rw[if_neg (by omega)] at ez
     rw[zHP (z:=X) (by omega),zHP (z:=Z) (by omega),ez,ex]
     rcases hy with hy | hy
     ·rw[yWR (z:=Y) (by omega)];exact List.Sublist.refl _
     ·rw[zHP (z:=Y) (by omega)];exact List.Sublist.cons_cons _ (List.sublist_cons_self _ _)
   ·rcases hx with hx | hx
    ·rw[if_pos (by omega)] at ez
     rw[yWS (z:=X) (by omega)]
     rcases hy with hy | hy
     ·rw[yWS (z:=Z) (by omega),yWS (z:=Y) (by omega)];omega
     ·rw[zTJ (z:=Z) (by omega),zTJ (z:=Y) (by omega)];omega
    ·rw[if_neg (by omega)] at ez
     rw[zTJ (z:=X) (by omega),zTJ (z:=Z) (by omega)]
     rcases hy with hy | hy
     ·rw[yWS (z:=Y) (by omega)];omega
     ·rw[zTJ (z:=Y) (by omega)];exact Nat.le_refl _) 0 l ⟨hb,List.Sublist.refl _,Nat.le_refl _⟩
 exact h.2
end
section
def zTS (C:List EV) (i n:Nat) (V:List EV):List EV:=
 if i+2=n then zZH (zZH C (i*3) V) ((i+1)*3) [EV.str [],EV.int .i64 0,EV.int .i64 0]
 else zZH (zZH (zZH C (i*3) V) ((i+1)*3) (((zZH C (i*3) V).drop ((i+2)*3)).take ((n - (i+2))*3))) ((n - 1)*3) [EV.str [],EV.int .i64 0,EV.int .i64 0]
theorem zZS (C:List EV) (o:Nat) (v:List EV) (h:o+v.length≤C.length):(zZH C o v).length=C.length:=by
 unfold zZH;simp only[List.length_append,List.length_take,List.length_drop];omega
theorem zNT {k:Nat}:∀ {l:List EV} (n:Nat),zQX k l→zQX k (l.drop n)
 | [],n,_=>by simp[zQX]
 | _::_,0,h=>h
 | _::_,n+1,h=>zNT n h.2
theorem zRN {C v:List EV} {o k:Nat} (h:zQX k C) (hv:zQX k v):zQX k (zZH C o v):=by
 unfold zZH;rw[zQB,zQB];exact ⟨zSY _ h,hv,zNT _ h⟩
theorem yWY {l:List EV} (h:zQX 0 l) (π:Nat→Nat):zZG π l=l:=zPV (fun i hi=>absurd hi (by omega)) l h
theorem yNQ (k:Nat) (T:List UInt8) (f b:Int):zQX k [EV.str T,.int .i64 f,.int .i64 b]:=by simp[zQX,EV.bel]
theorem zSD {C:List EV} {i n:Nat} {T:List UInt8} {f b:Int} (h:zQX 0 C):zQX 0 (zTS C i n [.str T,.int .i64 f,.int .i64 b]):=by
 unfold zTS;have h1:=zRN (o:=i*3) h (yNQ 0 T f b)
 split
 ·exact zRN h1 (yNQ 0 _ _ _)
 ·exact zRN (zRN h1 (zSY _ (zNT _ h1))) (yNQ 0 _ _ _)
theorem repl1_c (G:List Gl) (C:List EV) (n cap i z:Nat) (T:List UInt8) (f b:Int) (hi:i+2≤n) (hn:n≤cap) (hC:cap*3≤C.length) (hz:z=0∨z=3∧cap*3=C.length) (hone:C.all EV.one=true) (hC0:zQX 0 C) (hb:n≤9000000) :
  Eff G Tryz.prog 85 [.slice (some ⟨0,0⟩) n cap,.int .i64 i,.int .i64 (i+2:Nat),.slice (some ⟨1,0⟩) 1 1] [(0,.cells C 192 z true 0),(1,.cells [.str T,.int .i64 f,.int .i64 b] 192 0 true 0)] 2
   (.slice (some ⟨0,0⟩) (n - 1) cap) [(0,.cells (zTS C i n [.str T,.int .i64 f,.int .i64 b]) 192 z true 0),(1,.cells [.str T,.int .i64 f,.int .i64 b] 192 0 true 0)] 2:=by
 have p1:=zZS C (i*3) [EV.str T,EV.int .i64 f,EV.int .i64 b] (by simp;omega);have hone2:(zZH C (i*3) [EV.str T,EV.int .i64 f,EV.int .i64 b]).all EV.one=true:=by
  unfold zZH;simp only[List.all_append,List.all_cons,EV.one,List.all_nil,Bool.and_true,Bool.true_and];rw[List.all_eq_true] at hone
  rw[Bool.and_eq_true,List.all_eq_true,List.all_eq_true];exact ⟨fun x hx=>hone x (List.take_subset _ _ hx),fun x hx=>hone x (List.drop_subset _ _ hx)⟩
 have hpl:=zSD (i:=i) (n:=n) (T:=T) (f:=f) (b:=b) hC0;have hX:∀ k,zQX k (zTS C i n [EV.str T,EV.int .i64 f,EV.int .i64 b])=True:=fun k=>eq_true (zQJ (Nat.zero_le _) _ hpl)
 have hXr:=yWY hpl;unfold Eff
 by_cases hin:i+2=n
 ·subst hin
  have hrc:zTS C i (i+2) [EV.str T,EV.int .i64 f,EV.int .i64 b]=zZH (zZH C (i*3) [EV.str T,EV.int .i64 f,EV.int .i64 b]) ((i+1)*3) [EV.str [],EV.int .i64 0,EV.int .i64 0]:=if_pos rfl;have e3:i+2 - (i+1)=1:=by omega
  have e4:(i+1)*3+3≤C.length:=by omega
  have e5:i+2 - 1=i+1:=by omega
  rw[hrc] at hX hXr ⊢
  rw[e5];refine zQV 224 [.tmp 8] Tryz.func85 ?_
  repeat' (first|refine zQQ 383123885930096062271794698053396311827682563515776783 ?_|(refine stp ?_;simp only[go_sem,e3])|((refine zGY ?_;unfold yXY);simp only[go_sem,p1,e4,zWT,List.append_nil])|(refine spl (fun h=>?_) (fun h=>?_)<;>first|omega|try simp only[go_sem,h])|(refine zQT ?_ ?_;focus omega))
  exact zWW [] (by simp;done) (by simp;done) (by simp;done) (by simp;done) (by simp[hX]) (by simp;done) rfl (by simp) (by simp[hXr])
 ·have hrc:zTS C i n [EV.str T,EV.int .i64 f,EV.int .i64 b]=_:=if_neg hin
  have e1:((i:Int)+1+((n - (i+2):Nat):Int))=((n - 1:Nat):Int):=by omega
  have e2:min 1 (n - 1 - i)=1:=by omega
  have e3:min (n - (i+2)) (n - 1 - (i+1))=n - (i+2):=by omega
  have e4:(i+2)*3+(n - (i+2))*3≤C.length:=by omega
  have e6:(i+1)*3+(n - (i+2))*3≤C.length:=by omega
  have e7:n - (n - 1)=1:=by omega
  have e8:(n - 1)*3+3≤C.length:=by omega
  have l1:(List.take ((n - (i+2))*3) (List.drop ((i+2)*3) (zZH C (i*3) [EV.str T,EV.int .i64 f,EV.int .i64 b]))).length=(n - (i+2))*3:=by
   rw[List.length_take,List.length_drop,p1];omega
  have l2:List.take ((n - (i+2))*3) (List.take ((n - (i+2))*3) (List.drop ((i+2)*3) (zZH C (i*3) [EV.str T,EV.int .i64 f,EV.int .i64 b])))=List.take ((n - (i+2))*3) (List.drop ((i+2)*3) (zZH C (i*3) [EV.str T,EV.int .i64 f,EV.int .i64 b])):=List.take_of_length_le (by omega);have hone3:(List.take ((n - (i+2))*3) (List.drop ((i+2)*3) (zZH C (i*3) [EV.str T,EV.int .i64 f,EV.int .i64 b]))).all EV.one=true:=by
   rw[List.all_eq_true] at hone2 ⊢
   exact fun x hx=>hone2 x (List.drop_subset _ _ (List.take_subset _ _ hx))
  have p2:=zZS (zZH C (i*3) [EV.str T,EV.int .i64 f,EV.int .i64 b]) ((i+1)*3) (List.take ((n - (i+2))*3) (List.drop ((i+2)*3) (zZH C (i*3) [EV.str T,EV.int .i64 f,EV.int .i64 b]))) (by rw[l1,p1];omega);rw[p1] at p2
  rw[hrc] at hX hXr ⊢
  refine zQV 224 [.tmp 8] Tryz.func85 ?_
  rcases hz with rfl | ⟨rfl,hz⟩
  ·repeat' (first|refine zQQ 383123885930096062271794698053396311827682563515776783 ?_|(refine stp ?_;simp only[go_sem,p1,e2,e3,e4,e6,e7,l1,l2,hone3,Int.toNat_natCast])|(refine zWV (id:=9) mixed [(0,[]),(1,[]),(4,[]),(7,[]),(8,[]),(2,[]),(3,[]),(5,[]),(6,[]),(9,[]),(10,[]),(11,[]),(12,[])] (by kernel_rfl) ?_;simp only[go_sem,Int.toNat_natCast])|(refine zWV (id:=18) mixed [(0,[]),(1,[]),(2,[]),(6,[]),(7,[]),(3,[]),(4,[]),(5,[]),(8,[]),(9,[])] (by kernel_rfl) ?_;simp only[go_sem,Int.toNat_natCast])|(refine yRN ?_;unfold eCap;simp only[go_sem])|((refine zGY ?_;unfold yXY);simp only[go_sem,p2,e8,zWT,List.append_nil])|(simp only[go_sem,e1])|(simp (disch:=omega) only[zQK])|(refine spl (fun h=>?_) (fun h=>?_)<;>first|omega|try simp only[go_sem,h])|(refine zQT ?_ ?_;focus omega))
   exact zWW [] (by simp;done) (by simp;done) (by simp;done) (by simp;done) (by simp[hX]) (by simp;done) rfl (by simp) (by simp[hXr])
  ·repeat' (first|refine zQQ 383123885930096062271794698053396311827682563515776783 ?_|(refine stp ?_;simp only[go_sem,p1,e2,e3,e4,e6,e7,l1,l2,hone3,Int.toNat_natCast])|(refine zWV (id:=9) mixed [(0,[]),(1,[]),(4,[]),(7,[]),(8,[]),(2,[]),(3,[]),(5,[]),(6,[]),(9,[]),(10,[]),(11,[]),(12,[])] (by kernel_rfl) ?_;simp only[go_sem,Int.toNat_natCast])|(refine zWV (id:=18) mixed [(0,[]),(1,[]),(2,[]),(6,[]),(7,[]),(3,[]),(4,[]),(5,[]),(8,[]),(9,[])] (by kernel_rfl) ?_;simp only[go_sem,Int.toNat_natCast])|(refine yRN ?_;unfold eCap;simp only[go_sem])|(refine fun (c':Nat) (hc':cap≤c')=>?_)|((refine zGY ?_;unfold yXY);simp only[go_sem,p2,e8,zWT,List.append_nil])|(simp only[go_sem,e1])|(simp (disch:=omega) only[zQK])|(refine spl (fun h=>?_) (fun h=>?_)<;>first|omega|try simp only[go_sem,h])|(refine zQT ?_ ?_;focus omega))
   exact zWW [] (by simp;done) (by simp;done) (by simp;done) (by simp;done) (by simp[hX]) (by simp;done) rfl (by simp) (by simp[hXr])
end
section
theorem yDT (C v:List EV) (o:Nat) (h:o≤C.length):(zZH C o v).take o=C.take o:=by
 unfold zZH;rw[List.take_left' (by rw[List.length_take];omega)]
theorem yGS {C:List EV} {l:List Ck} {i:Nat} {x y w:Ck} (hC:C.take (l.length*3)=ckC l) (hCl:l.length*3≤C.length) (h1:l[i]? = some x) (h2:l[i+1]? = some y) :
  (zTS C i l.length (ckC [w])).take ((l.length - 1)*3)=ckC (l.take i++w::l.drop (i+2)):=by
 have q2:=(List.getElem?_eq_some_iff.1 h2).1;have hs:=split2 h1 h2;have hA:=zWR (l.take i);rw[List.length_take,Nat.min_eq_left (by omega)] at hA
 have hR:=zWR (l.drop (i+2));rw[List.length_drop] at hR
 have hCd:C=ckC (l.take i)++(ckC [x]++(ckC [y]++(ckC (l.drop (i+2))++C.drop (l.length*3)))):=by
  conv=>lhs;rw[← List.take_append_drop (l.length*3) C,hC]
  conv=>lhs;rw[hs]
  rw[zXJ,show ckC (x::y::l.drop (i+2))=ckC [x]++(ckC [y]++ckC (l.drop (i+2))) by rw[← zXJ,← zXJ];rfl,List.append_assoc,List.append_assoc,List.append_assoc,← hs]
 have hx:(ckC [x]).length=3:=rfl;have hy:(ckC [y]).length=3:=rfl;have hw:(ckC [w]).length=3:=rfl;have hres:ckC (l.take i++w::l.drop (i+2))=ckC (l.take i)++(ckC [w]++ckC (l.drop (i+2))):=by
  rw[zXJ];congr 1
 rw[hres];generalize ckC (l.take i)=A at *
 generalize ckC (l.drop (i+2))=R at *
 generalize C.drop (l.length*3)=D at *
 generalize ckC [x]=X at *
 generalize ckC [y]=Y at *
 generalize ckC [w]=W at *
 have hc1:zZH C (i*3) W=A++(W++(Y++(R++D))):=by rw[hCd];exact yWJ A X _ W (i*3) hA (by omega)
 unfold zTS;rw[hc1]
 by_cases hin:i+2=l.length
 ·rw[if_pos hin];have hR0:R=[]:=List.eq_nil_of_length_eq_zero (by omega);subst hR0;rw[show (l.length - 1)*3=(i+1)*3 by omega,yDT _ _ _ (by simp only[List.length_append];omega),List.append_nil,← List.append_assoc,List.take_left' (by rw[List.length_append];omega)]
 ·rw[if_neg hin];have hd:List.take ((l.length - (i+2))*3) (List.drop ((i+2)*3) (A++(W++(Y++(R++D)))))=R:=by
   rw[← List.append_assoc,← List.append_assoc,List.drop_left' (by simp only[List.length_append];omega),List.take_left' (by omega)]
  rw[hd];have hYR:Y++(R++D)=(Y++R).take R.length++((Y++R).drop R.length++D):=by
   rw[← List.append_assoc,← List.append_assoc,List.take_append_drop]
  have hc2:zZH (A++(W++(Y++(R++D)))) ((i+1)*3) R=(A++W)++(R++((Y++R).drop R.length++D)):=by
   rw[← List.append_assoc,hYR];exact yWJ (A++W) _ _ R ((i+1)*3) (by rw[List.length_append];omega) (by rw[List.length_take,List.length_append];omega)
  rw[hc2,yDT _ _ _ (by simp only[List.length_append,List.length_drop];omega),← List.append_assoc,List.take_left' (by simp only[List.length_append];omega),List.append_assoc]
theorem yYK {P:EV→Bool} {C v:List EV} {o:Nat} (h:C.all P=true) (hv:v.all P=true):(zZH C o v).all P=true:=by
 unfold zZH;rw[List.all_append,List.all_append,hv];rw[List.all_eq_true] at h
 simp only[Bool.and_eq_true,Bool.true_and,List.all_eq_true];exact ⟨fun x hx=>h x (List.take_subset _ _ hx),fun x hx=>h x (List.drop_subset _ _ hx)⟩
theorem yDJ {C:List EV} {i n:Nat} {l:List Ck} (h:C.all EV.one=true):(zTS C i n (ckC l)).all EV.one=true:=by
 unfold zTS;have h1:=yYK (o:=i*3) h (zNK l)
 split
 ·exact yYK h1 rfl
 ·refine yYK (yYK h1 ?_) rfl;rw[List.all_eq_true] at h1 ⊢
  exact fun x hx=>h1 x (List.drop_subset _ _ (List.take_subset _ _ hx))
theorem yHD {s:ES} {L:List (Nat × EO)} {r:Nat} {o:EO} (hk:zWN L) (hr:s.get r=some o) (hh:∀ i,i ≠ r→∀ x,lkp L i=some x→s.get i=some x):allIn s (setL L r o):=zNR fun i x hm=>by
 have h1:=zJR (zTT hk) hm;rw[zWF] at h1
 split at h1
 ·rename_i e
  subst e;simp only[Option.map_eq_some_iff] at h1
  obtain ⟨_,_,rfl⟩:=h1;exact hr
 ·rename_i e
  exact hh i (fun q=>e q.symm) x h1
section
variable {p:Gp} {B:List (Nat × EO)} {t r:Nat} {c c':List EV} {z f z' f':Nat} {w w':Bool}
theorem StL.updC [h:StL p B t] (hr:AtB B t r (.cells c 192 z w f)) (hc:zQX t c'):StL p (setL B r (.cells c' 192 z' w' f')) t where
 bg:=⟨zRB (o:=.cells c' 192 z' w' f') hc h.bg.below,zTT h.bg.keys⟩
 big:=h.big
 has i hi:=by
  rw[zWF]
  split
  ·rename_i e;have:=hr.hi;omega
  ·exact h.has i hi
 line i hi:=by
  rw[zWF]
  split
  ·rename_i e
   subst e;have:=h.line i hi;rw[hr.lk] at this
   simp at this
  ·exact h.line i hi
 top:=h.top
theorem AtB.updC (hr:AtB B t r (.cells c 192 z w f)):AtB (setL B r (.cells c' 192 z' w' f')) t r (.cells c' 192 z' w' f'):=⟨hr.hi,hr.lt,by rw[zWF,if_pos rfl,hr.lk];rfl⟩
theorem zJP {o:EO} {i:Nat} (h:i ≠ r):lkp (setL B r o) i=lkp B i:=by rw[zWF,if_neg (fun e=>h e.symm)]
end
variable {p:Gp} (B:List (Nat × EO)) {t:Nat}
theorem yDX (G:List Gl) (s:Gs) [Big t] [hS0:StL p B t] (l0:List Ck) (hln:l0.length≤1000000) (hT0:∀ x∈l0,x.T.length≤252) (r cap z0:Nat) (C0:List EV) (hr:r<t) (hat:AtB B t r (.cells C0 192 z0 true 0)) (hcap:l0.length≤cap) (hC0:cap*3≤C0.length) (hz:z0=0∨z0=3∧cap*3=C0.length) (hC:C0.take (l0.length*3)=ckC l0) (hpl:zQX 0 C0) (hone:C0.all EV.one=true) :
  EffR G Tryz.prog 116 [.slice (some ⟨r,0⟩) l0.length cap] (gnd p s B) t (fun v bl nx=>∃ B' C,nx=t∧bl=gnd p s B'∧StL p B' t∧(∀ j,j ≠ r→lkp B' j=lkp B j)∧v=.slice (some ⟨r,0⟩) (zXF 0 l0).length cap∧AtB B' t r (.cells C 192 z0 true 0)∧C.length=C0.length∧C.take ((zXF 0 l0).length*3)=ckC (zXF 0 l0)∧zQX 0 C∧C.all EV.one=true):=by
 refine EffR.enter fun Q hQ=>?_
 refine zQV 67 [.tmp 2] Tryz.func116 ?_
 repeat' (first|refine zQQ 2251799830463005 ?_|refine zQW ?_|(refine stp ?_;simp only[go_sem])|fail)
 refine zQM (fun z:Nat × List Ck × List (Nat × EO) × List EV=>[(0,.slice (some ⟨r,0⟩) z.2.1.length cap),(3,.int .i64 z.1)]) (fun z:Nat × List Ck × List (Nat × EO) × List EV=>stB (zXG p s) z.2.2.1) (fun z:Nat × List Ck × List (Nat × EO) × List EV=>t) (fun z:Nat × List Ck × List (Nat × EO) × List EV=>StL p z.2.2.1 t∧(∀ j,j ≠ r→lkp z.2.2.1 j=lkp B j)∧AtB z.2.2.1 t r (.cells z.2.2.2 192 z0 true 0)∧z.2.2.2.length=C0.length∧z.2.2.2.take (z.2.1.length*3)=ckC z.2.1∧zQX 0 z.2.2.2∧z.2.2.2.all EV.one=true∧z.2.1.length≤l0.length∧zXF z.1 z.2.1=zXF 0 l0∧(∀ x∈z.2.1,x.T.length≤252)∧z.1≤z.2.1.length) (fun z:Nat × List Ck × List (Nat × EO) × List EV=>z.2.1.length*(l0.length+2)+(z.2.1.length - z.1)) ((0,l0,B,C0)) ?_ ?_ ?_ ?_ ?_
 ·rintro ⟨i,l,B',C⟩ ⟨hS,-⟩
  haveI:=hS;exact ⟨by simp[zWP,hr],by show blBelow t (stB (zXG p s) B');exact Bg.below,by show t≤t;omega⟩
 ·exact ⟨hS0,fun _ _=>rfl,hat,rfl,hC,hpl,hone,Nat.le_refl _,rfl,hT0,Nat.zero_le _⟩
 ·simp only[go_sem,zQS]
 ·show zWG _ (stB (zXG p s) B);simp only[go_sem]
 ·rintro ⟨i,l,B',C⟩ ⟨hS,hsame,hatB,hCl,hCt,hCp,hCo,hll,hse,hT,hil⟩
  simp only at hS hsame hatB hCl hCt hCp hCo hll hse hT hil ⊢
  haveI:=hS;have hA:=hatB.f (p:=p);have hr11:=hatB.hi
  rcases Nat.lt_or_ge (i+1) l.length with hi | hi
  ·obtain ⟨x,hx⟩:∃ x,l[i]? = some x:=⟨l[i],by simp[show i<l.length by omega]⟩;obtain ⟨y,hy⟩:∃ x,l[i+1]? = some x:=⟨l[i+1],by simp[hi]⟩;have hx2:=hT x (List.mem_of_getElem? hx);have hy2:=hT y (List.mem_of_getElem? hy);have hg:∀ k,k<l.length*3→C[k]? = (ckC l)[k]?:=fun k hk=>by rw[← hCt,List.getElem?_take,if_pos hk]
   obtain ⟨gx1,gx2,gx3⟩:=yQH hx;obtain ⟨gy1,gy2,gy3⟩:=yQH hy;rw[← hg _ (by omega)] at gx1 gx2 gx3 gy1 gy2 gy3
   have hCb:∀ k,zQX k C=True:=fun k=>eq_true (zQJ (Nat.zero_le _) _ hCp)
   have hCr:=yWY hCp;obtain ⟨S,hSd⟩:∃ S,x.T++y.T=S:=⟨_,rfl⟩;have hSl:S.length=x.T.length+y.T.length:=by rw[← hSd,List.length_append]
   have hrne:∀ k,(r=t+k)=False:=fun k=>eq_false (by omega)
   have e2:(i:Int)+2=((i+2:Nat):Int):=by omega
   have hnl:(l.take i++zJF x y::l.drop (i+2)).length=l.length - 1:=by simp;omega
   have hmu:(l.take i++zJF x y::l.drop (i+2)).length*(l0.length+2)+(l0.length+2)=l.length*(l0.length+2):=by
    rw[hnl];obtain ⟨m,hm⟩:∃ m,l.length=m+1:=⟨l.length - 1,by omega⟩;rw[hm,Nat.add_sub_cancel,Nat.succ_mul]
   by_cases hf:252<x.T.length+y.T.length
   ·repeat' (first|refine zQQ 2251799830463005 ?_|refine zQW ?_|(refine stp ?_;simp only[go_sem])|(refine zWV (id:=3) mixed [(0,[]),(1,[]),(2,[]),(3,[]),(6,[]),(7,[]),(8,[]),(9,[]),(10,[]),(4,[]),(5,[]),(11,[]),(12,[]),(13,[]),(14,[])] (by kernel_rfl) ?_;simp only[go_sem,hA,gx1])|(simp only[go_sem,gy1])|(simp (disch:=omega) only[zQK])|(refine spl (fun h=>?_) (fun h=>?_)<;>first|omega|try simp only[go_sem,h])|(refine zQT ?_ ?_;focus omega))
    (refine ⟨(i+1,l,B',C),t,[],?_,?_,rfl,rfl,?_,⟨?_,rfl,?_,?_,?_,?_,?_⟩⟩;rotate_left;(focus (simp only[];omega));(focus (simp[go_sem,zQS,hr]));(focus (omega));(focus simp);(focus (simp));(focus (simp only[];omega));(focus (simp));(focus (simp));(try simp only[]))
    exact ⟨hS,hsame,hatB,hCl,hCt,hCp,hCo,hll,by rw[← yGK hx hy hf];exact hse,hT,by omega⟩
   ·by_cases hb:x.b<0
    ·skip
     have hrep:=repl1_c G C l.length cap i z0 S S.length y.b (by omega) (by omega) (by omega) (by rw[hCl];exact hz) hCo hCp (by omega);have hw:[EV.str S,.int .i64 S.length,.int .i64 y.b]=ckC [zJF x y]:=by simp only[zRK,zJF,hSd];rw[if_pos hb]
     have hrt:=yGS (w:=zJF x y) hCt (by omega) hx hy;have hrl:(zTS C i l.length (ckC [zJF x y])).length=C.length:=by
      unfold zTS;have q1:=zZS C (i*3) (ckC [zJF x y]) (by show _+3≤_;omega)
      split
      ·rw[zZS _ _ _ (by rw[q1];show _+3≤_;omega),q1]
      ·have q2:=zZS (zZH C (i*3) (ckC [zJF x y])) ((i+1)*3) (List.take ((l.length - (i+2))*3) (List.drop ((i+2)*3) (zZH C (i*3) (ckC [zJF x y])))) (by rw[List.length_take,List.length_drop,q1];omega);rw[zZS _ _ _ (by rw[q2,q1];show _+3≤_;omega),q2,q1]
     have hrp:zQX 0 (zTS C i l.length (ckC [zJF x y])):=by rw[← hw];exact zSD hCp
     have hro:(zTS C i l.length (ckC [zJF x y])).all EV.one=true:=yDJ hCo;have hrpL:=zSD (i:=i) (n:=l.length) (T:=S) (f:=S.length) (b:=y.b) hCp;have hRb:∀ k,zQX k (zTS C i l.length [.str S,.int .i64 S.length,.int .i64 y.b])=True:=fun k=>eq_true (zQJ (Nat.zero_le _) _ hrpL)
     have hRr:=yWY hrpL
     repeat' (first|(simp (disch:=omega) only[zQK,e2])|refine zQQ 2251799830463005 ?_|refine zQW ?_|(refine stp ?_;simp only[go_sem,hA])|(refine zWV (id:=3) mixed [(0,[]),(1,[]),(2,[]),(3,[]),(6,[]),(7,[]),(8,[]),(9,[]),(10,[]),(4,[]),(5,[]),(11,[]),(12,[]),(13,[]),(14,[])] (by kernel_rfl) ?_;simp only[go_sem,hA,gx1])|(refine zWV (id:=5) mixed [(0,[]),(1,[]),(2,[]),(3,[]),(5,[]),(6,[]),(7,[]),(8,[]),(9,[]),(12,[]),(13,[]),(14,[]),(15,[]),(4,[]),(10,[]),(11,[]),(16,[]),(17,[]),(18,[]),(19,[])] (by kernel_rfl) ?_;simp only[go_sem,hA,gx1,gx3])|(refine Eff.at2 (hrep ) [r,t+35] rfl (by first|(simp[hA,hCb,hCr,hRb,hrne];done)|fail) rfl ?_;(try simp only[go_sem,hA,hA,hRr]))|(simp only[go_sem,gy1,gy3,hSd])|(refine spl (fun h=>?_) (fun h=>?_)<;>first|omega|try simp only[go_sem,h])|(refine zQT ?_ ?_;focus omega))
     haveI hS':StL p (setL B' r (.cells (zTS C i l.length [.str S,.int .i64 S.length,.int .i64 y.b]) 192 z0 true 0)) t:=StL.updC hatB (zQJ (Nat.zero_le _) _ hrpL)
     (refine ⟨(0,l.take i++zJF x y::l.drop (i+2),setL B' r (.cells (zTS C i l.length [.str S,.int .i64 S.length,.int .i64 y.b]) 192 z0 true 0),zTS C i l.length [.str S,.int .i64 S.length,.int .i64 y.b]),t,[],?_,?_,rfl,rfl,?_,⟨?_,rfl,?_,?_,?_,?_,?_⟩⟩;rotate_left;(focus (simp only[];omega));(focus (simp only[go_sem,zQS,hr,hnl]));(focus (omega));(focus simp);(focus (simp));(focus (simp only[];omega));(focus (simp));(focus (simp)))
     ·rw[← zYF _ hr11];refine yHD (Bg.keys t) (by simp[ES.get,lkp,hw];omega) (fun j hne xx hxx=>?_);have hit:j<t:=(zKW (Bg.below (t:=t)) hxx).1;simp[ES.get,lkp,zPZ,show ¬ r=j from fun e=>hne e.symm,show ¬ t+35=j by omega,show ¬ t+33=j by omega,show j<t+36 by omega,hxx]
     rw[hw];rw[hw] at hS'
     refine ⟨hS',fun j hj=>(zJP hj).trans (hsame j hj),hatB.updC,by rw[hrl,hCl],by rw[hnl];exact hrt,hrp,hro,by show (l.take i++zJF x y::l.drop (i+2)).length≤l0.length;omega,by rw[← yZJ hx hy hf];exact hse,?_,Nat.zero_le _⟩;intro z hz
     rcases List.mem_append.1 hz with q | q
     ·exact hT z (List.take_subset _ _ q)
     ·rcases List.mem_cons.1 q with rfl | q
      ·show (x.T++y.T).length≤252;rw[hSd];omega
      ·exact hT z (List.drop_subset _ _ q)
    ·skip
     have hrep:=repl1_c G C l.length cap i z0 S S.length x.b (by omega) (by omega) (by omega) (by rw[hCl];exact hz) hCo hCp (by omega);have hw:[EV.str S,.int .i64 S.length,.int .i64 x.b]=ckC [zJF x y]:=by simp only[zRK,zJF,hSd];rw[if_neg hb]
     have hrt:=yGS (w:=zJF x y) hCt (by omega) hx hy;have hrl:(zTS C i l.length (ckC [zJF x y])).length=C.length:=by
      unfold zTS;have q1:=zZS C (i*3) (ckC [zJF x y]) (by show _+3≤_;omega)
      split
      ·rw[zZS _ _ _ (by rw[q1];show _+3≤_;omega),q1]
      ·have q2:=zZS (zZH C (i*3) (ckC [zJF x y])) ((i+1)*3) (List.take ((l.length - (i+2))*3) (List.drop ((i+2)*3) (zZH C (i*3) (ckC [zJF x y])))) (by rw[List.length_take,List.length_drop,q1];omega);rw[zZS _ _ _ (by rw[q2,q1];show _+3≤_;omega),q2,q1]
     have hrp:zQX 0 (zTS C i l.length (ckC [zJF x y])):=by rw[← hw];exact zSD hCp
     have hro:(zTS C i l.length (ckC [zJF x y])).all EV.one=true:=yDJ hCo;have hrpL:=zSD (i:=i) (n:=l.length) (T:=S) (f:=S.length) (b:=x.b) hCp;have hRb:∀ k,zQX k (zTS C i l.length [.str S,.int .i64 S.length,.int .i64 x.b])=True:=fun k=>eq_true (zQJ (Nat.zero_le _) _ hrpL)
     have hRr:=yWY hrpL
     repeat' (first|(simp (disch:=omega) only[zQK,e2])|refine zQQ 2251799830463005 ?_|refine zQW ?_|(refine stp ?_;simp only[go_sem])|(refine zWV (id:=3) mixed [(0,[]),(1,[]),(2,[]),(3,[]),(6,[]),(7,[]),(8,[]),(9,[]),(10,[]),(4,[]),(5,[]),(11,[]),(12,[]),(13,[]),(14,[])] (by kernel_rfl) ?_;simp only[go_sem,hA,gx1])|(refine zWV (id:=5) mixed [(0,[]),(1,[]),(2,[]),(3,[]),(5,[]),(6,[]),(7,[]),(8,[]),(9,[]),(12,[]),(13,[]),(14,[]),(15,[]),(4,[]),(10,[]),(11,[]),(16,[]),(17,[]),(18,[]),(19,[])] (by kernel_rfl) ?_;simp only[go_sem,hA,gx1,gx3])|(refine Eff.at2 (hrep ) [r,t+35] rfl (by first|(simp[hA,hCb,hCr,hRb,hrne];done)|fail) rfl ?_;(try simp only[go_sem,hA,hA,hRr]))|(simp only[go_sem,gy1,hSd])|(refine spl (fun h=>?_) (fun h=>?_)<;>first|omega|try simp only[go_sem,h])|(refine zQT ?_ ?_;focus omega))
     haveI hS':StL p (setL B' r (.cells (zTS C i l.length [.str S,.int .i64 S.length,.int .i64 x.b]) 192 z0 true 0)) t:=StL.updC hatB (zQJ (Nat.zero_le _) _ hrpL)
     (refine ⟨(0,l.take i++zJF x y::l.drop (i+2),setL B' r (.cells (zTS C i l.length [.str S,.int .i64 S.length,.int .i64 x.b]) 192 z0 true 0),zTS C i l.length [.str S,.int .i64 S.length,.int .i64 x.b]),t,[],?_,?_,rfl,rfl,?_,⟨?_,rfl,?_,?_,?_,?_,?_⟩⟩;rotate_left;(focus (simp only[];omega));(focus (simp only[go_sem,zQS,hr,hnl]));(focus (omega));(focus simp);(focus (simp));(focus (simp only[];omega));(focus (simp));(focus (simp)))
     ·rw[← zYF _ hr11];refine yHD (Bg.keys t) (by simp[ES.get,lkp,hw];omega) (fun j hne xx hxx=>?_);have hit:j<t:=(zKW (Bg.below (t:=t)) hxx).1;simp[ES.get,lkp,zPZ,show ¬ r=j from fun e=>hne e.symm,show ¬ t+35=j by omega,show ¬ t+33=j by omega,show j<t+36 by omega,hxx]
     rw[hw];rw[hw] at hS'
     refine ⟨hS',fun j hj=>(zJP hj).trans (hsame j hj),hatB.updC,by rw[hrl,hCl],by rw[hnl];exact hrt,hrp,hro,by show (l.take i++zJF x y::l.drop (i+2)).length≤l0.length;omega,by rw[← yZJ hx hy hf];exact hse,?_,Nat.zero_le _⟩;intro z hz
     rcases List.mem_append.1 hz with q | q
     ·exact hT z (List.take_subset _ _ q)
     ·rcases List.mem_cons.1 q with rfl | q
      ·show (x.T++y.T).length≤252;rw[hSd];omega
      ·exact hT z (List.drop_subset _ _ q)
  ·have hfin:l=zXF 0 l0:=by rw[← hse,yQD hi]
   repeat' (first|refine zQQ 2251799830463005 ?_|(refine stp ?_;simp only[go_sem])|(simp (disch:=omega) only[zQK])|(refine spl (fun h=>?_) (fun h=>?_)<;>first|omega|try simp only[go_sem,h])|fail)
   rw[hfin] at hCt ⊢
   exact zKY hQ (B':=gnd p s B') (Nat.le_refl _) (by simp[EV.bel,hr]) ⟨B',C,rfl,rfl,hS,hsame,rfl,hatB,hCl,hCt,hCp,hCo⟩
end
section
def zVD (p:Gp):Gs→List Ck→Gs × Option (List Ck)
 | s,[]=>(s,some [])
 | s,x::l=>if x.b<0 then match zBH p s with
    | none=>(s,none)
    | some b=>((zVD p (zHS s b) l).1,(zVD p (zHS s b) l).2.map (⟨x.T,x.f,b⟩ :: ·))
   else ((zVD p s l).1,(zVD p s l).2.map (x :: ·))
theorem ckC_setB {l:List Ck} {i:Nat} {x:Ck} (h:l[i]? = some x) (b:Int) (D:List EV):(ckC l++D).set (i*3+2) (.int .i64 b)=ckC (l.set i ⟨x.T,x.f,b⟩)++D:=by
 have hl:=(List.getElem?_eq_some_iff.1 h).1;have e:l=l.take i++x::l.drop (i+1):=by
  conv=>lhs;rw[← List.take_append_drop i l,List.drop_eq_getElem_cons hl]
  rw[(List.getElem?_eq_some_iff.1 h).2]
 have hlen:(l.take i).length=i:=by rw[List.length_take];omega
 generalize l.take i=a at *
 generalize l.drop (i+1)=d at *
 subst e;have h3:(ckC a).length=i*3:=by rw[zWR];omega
 have hr:(a++x::d).set i ⟨x.T,x.f,b⟩=a++⟨x.T,x.f,b⟩::d:=by rw[List.set_append_right _ _ (by omega),hlen,Nat.sub_self];rfl
 rw[hr,zXJ,zXJ,List.append_assoc,List.append_assoc,List.set_append_right _ _ (by omega),h3,show i*3+2 - i*3=2 by omega];rfl
structure WrC (p:Gp) (s s':Gs) (l:List Ck) (k:Nat):Prop where
 taken:s'.taken=s.taken
 least:s'.least=s.least
 over:s'.over=s.over
 low:∀ y,y<p.at_→zDY s'.put y=zDY s.put y
 here:∀ j y,j<k→l[j]? = some y→rd p s' y.b.toNat=zKX y.T y.f
 else_:∀ b,(∀ j y,j<k→l[j]? = some y→y.b.toNat ≠ b)→rd p s' b=rd p s b
theorem WrC.zero {p:Gp} (s:Gs) (l:List Ck):WrC p s s l 0:=⟨rfl,rfl,rfl,fun _ _=>rfl,fun _ _ h=>absurd h (by omega),fun _ _=>rfl⟩
theorem WrC.step {p:Gp} {s s1 s2:Gs} {k:Nat} {l:List Ck} {y:Ck} (h:WrC p s s1 l k) (hy:l[k]? = some y) (hw:WrR p s1 s2 y.b.toNat (zKX y.T y.f)) (hnd:(zZN l).Nodup):WrC p s s2 l (k+1) where
 taken:=hw.taken.trans h.taken
 least:=hw.least.trans h.least
 over:=hw.over.trans h.over
 low y hy:=(hw.low y hy).trans (h.low y hy)
 here j z hj hz:=by
  rw[hw.rd]
  by_cases e:z.b.toNat=y.b.toNat
  ·rw[if_pos e];have:j=k:=by
    have h1:(zZN l)[j]? = some z.b.toNat:=by unfold zZN;rw[List.getElem?_map,hz];rfl
    have h2:(zZN l)[k]? = some y.b.toNat:=by unfold zZN;rw[List.getElem?_map,hy];rfl
    obtain ⟨q1,e1⟩:=List.getElem?_eq_some_iff.1 h1;obtain ⟨q2,e2⟩:=List.getElem?_eq_some_iff.1 h2;exact (List.getElem_inj hnd).1 (by rw[e1,e2,e])
   subst this;rw[hy] at hz;cases hz;rfl
  ·rw[if_neg e];refine h.here j z ?_ hz
   by_cases ek:j=k
   ·subst ek;rw[hy] at hz;cases hz;exact absurd rfl e
   ·omega
 else_ b hb:=by
  rw[hw.rd,if_neg (fun e=>hb k y (by omega) hy e.symm)];exact h.else_ b fun j z hj hz=>hb j z (by omega) hz
theorem zMG {p:Gp}:∀ (l:List Ck) (s:Gs) {b:Nat},b∈s.taken→b∈(zVD p s l).1.taken
 | [],s,b,h=>h
 | y::l,s,b,h=>by
   simp only[zVD]
   split
   ·cases hq:zBH p s with
    | none=>exact h
    | some c=>exact zMG l (zHS s c) (List.mem_append_left _ h)
   ·exact zMG l s h
theorem yFY (a b:List Ck):zZN (a++b)=zZN a++zZN b:=by simp[zZN]
variable {p:Gp} (B:List (Nat × EO)) {t:Nat}
theorem wr_c (G:List Gl) (s:Gs) [Big t] [hS0:StL p B t] (hp:p.ok) (ho:s.over=false) (hls:s.least≤p.n) (x rp r cap z0:Nat) (ref:Nat) (v2:EV) (ps:List Ck) (l:List Ck) (D:List EV) (hD:zQX 0 D)
  (hx:AtB B t x (.cells [.ptr (some ⟨0,0⟩),.int .u32 ref,zVW rp ps.length,v2] 196 0 true 0)) (hat:ps ≠ []→AtB B t rp (.cells (ckC ps) 192 3 true 0)) (hrp:rp<t) (hr:r<t) (hxr:x ≠ r) (hpr:rp ≠ r) (hrow:AtB B t r (.cells (ckC l++D) 192 z0 true 0)) (hcap:l.length≤cap)
  (hln:l.length≤1000000) (hpn:ps.length≤1000000) (hok:∀ y∈l,(y.b = -1∨∃ b:Nat,y.b=b∧b<p.n∧b∈s.taken)∧y.T.length≤252∧y.f≤y.T.length) (hwok:∀ y∈ps,∃ b:Nat,y.b=b∧b∈s.taken) (hwnd:(zZN ps).Nodup) (hnd:∀ s1 l1,zVD p s l=(s1,some l1)→(zZN l1).Nodup∧∀ b∈zZN l1,b∈s1.taken) :
  EffR G Tryz.prog 117 [.ptr (some ⟨x,0⟩),.slice (some ⟨r,0⟩) l.length cap] (gnd p s B) t (fun v bl nx=>∃ B' s',bl=gnd p s' B'∧nx=t∧StL p B' t∧(∀ i,i ≠ r→lkp B' i=lkp B i) ∧
   match zVD p s l with
   | (s1,none)=>v=.int .i64 7∧s'=s1
   | (s1,some l1)=>v=.int .i64 0∧AtB B' t r (.cells (ckC l1++D) 192 z0 true 0)∧WrC p (zKD (zZN l1) s1 (ps.map zJD)) s' l1 l1.length):=by
 have h1:=hp.big;have h2:=hp.fit;have hat0:=hp.at0;have hxt:=hx.lt;refine EffR.enter fun Q hQ=>?_
 refine zQV 142 [.tmp 4] Tryz.func117 ?_
 repeat' (first|refine zQQ 697578872959655947512624442496585980406771 ?_|refine zQW ?_|(refine stp ?_;simp only[go_sem])|((refine zYK ?_);simp only[go_sem])|fail)
 refine zQM (fun z:Nat × Gs × List Ck × List Nat × List Nat × List (Nat × EO)=>[(0,.ptr (some ⟨x,0⟩)),(1,.slice (some ⟨r,0⟩) l.length cap),(5,.map (some t)),(6,.map (some (t+1))),(26,.int .i64 l.length),(27,.int .i64 z.1)]) (fun z:Nat × Gs × List Ck × List Nat × List Nat × List (Nat × EO)=>(t+1,.map (usE z.2.2.2.2.1))::(t,.map (usE z.2.2.2.1))::stB (zXG p z.2.1) z.2.2.2.2.2) (fun z:Nat × Gs × List Ck × List Nat × List Nat × List (Nat × EO)=>t+2) (fun z:Nat × Gs × List Ck × List Nat × List Nat × List (Nat × EO)=>z.1≤l.length∧z.2.2.1.length=l.length∧StL p z.2.2.2.2.2 t∧(∀ i,i ≠ r→lkp z.2.2.2.2.2 i=lkp B i)∧AtB z.2.2.2.2.2 t r (.cells (ckC z.2.2.1++D) 192 z0 true 0)∧(z.2.1.over=false∧z.2.1.least≤p.n)∧z.2.2.1.drop z.1=l.drop z.1∧(zVD p s l=((zVD p z.2.1 (l.drop z.1)).1,(zVD p z.2.1 (l.drop z.1)).2.map (z.2.2.1.take z.1 ++ ·)))∧(∀ y∈z.2.2.1.take z.1,(∃ b:Nat,y.b=b∧b<p.n)∧y.T.length≤252∧y.f≤y.T.length)∧(∀ b,b∈z.2.2.2.2.1↔b∈zZN (z.2.2.1.take z.1))) (fun z:Nat × Gs × List Ck × List Nat × List Nat × List (Nat × EO)=>l.length - z.1) ((0,s,l,[],[],B)) ?_ ?_ ?_ ?_ ?_
 ·rintro ⟨i,si,cur,tk,us,Bi⟩ ⟨hi,hcl,hS,-⟩
  haveI:=hS;refine ⟨by simp[zWP,show r<t+2 by omega,show x<t+2 by omega],by simp[zXM],by show t≤t+2;omega⟩
 ·refine ⟨Nat.zero_le _,rfl,hS0,fun _ _=>rfl,hrow,⟨ho,hls⟩,rfl,?_,fun y hy=>absurd hy (by simp),fun b=>by simp[zZN]⟩;simp only[List.drop_zero,List.take_zero,List.nil_append]
  cases zVD p s l with
  | mk a b=>cases b<;>rfl
 ·simp only[go_sem,zQS]
 ·show zWG _ ((t+1,.map (usE []))::(t,.map (usE []))::stB (zXG p s) B);simp only[go_sem,zWG,show usE []=[] from rfl]
 ·rintro ⟨i,si,cur,tk,us,Bi⟩ ⟨hi,hcl,hS,hsame,hca,⟨hso,hsl⟩,hdr,hfi,htk,hus⟩
  simp only at hi hcl hS hsame hca hso hsl hdr hfi htk hus ⊢
  haveI:=hS;have hxB:AtB Bi t x _:=⟨hx.hi,hx.lt,by rw[hsame x hxr];exact hx.lk⟩;have hX:=hxB.f (p:=p);have hA:=hca.f (p:=p);have hr11:=hca.hi
  rcases Nat.lt_or_ge i l.length with hil | hil
  ·obtain ⟨y,hy⟩:∃ y,cur[i]? = some y:=⟨cur[i]'(by omega),List.getElem?_eq_getElem _⟩;have hyd:l[i]? = some y:=by
    have q1:=congrArg List.head? hdr;rw[List.head?_drop,List.head?_drop] at q1
    rw[← q1];exact hy
   obtain ⟨hym,hy2,hy3⟩:=hok y (List.mem_of_getElem? hyd);have hckl:=zWR cur;have i2:(i*3+3≤(ckC cur++D).length)=True:=eq_true (by rw[List.length_append];omega);have hgb:(ckC cur++D)[i*3+2]? = some (.int .i64 y.b):=by rw[List.getElem?_append_left (by omega)];exact (yQH hy).2.2
   have hd:l.drop i=y::l.drop (i+1):=by
    rw[List.drop_eq_getElem_cons hil];congr 1;rw[List.getElem?_eq_getElem hil] at hyd;simpa using hyd
   rw[hd] at hfi
   simp only[zVD] at hfi
   by_cases hb:y.b<0
   ·rw[if_pos hb] at hfi
    have htake:=take_c Bi G si hp hso (by omega) hsl
    cases hq:zBH p si with
    | none=>
      rw[hq] at htake hfi
      simp only at htake hfi
      repeat' (first|refine zQQ 697578872959655947512624442496585980406771 ?_|refine zQW ?_|(refine stp ?_;simp only[go_sem,hA,hX,hgb])|(refine EffW.at (htake ) [] rfl (by (simp;done)) ?_;(try simp only[go_sem]))|(refine spl (fun h=>?_) (fun h=>?_)<;>first|omega|try simp only[go_sem,h])|(refine zQT ?_ ?_;focus omega))
      refine zKY hQ (B':=gnd p si Bi) (by omega) (by trivial) ⟨Bi,si,rfl,rfl,hS,hsame,?_⟩;rw[hfi];exact ⟨rfl,rfl⟩
    | some b=>
      rw[hq] at htake hfi
      simp only at htake hfi
      have hst:=ckC_setB hy (b:Int) D;have hnr:∀ k,(r=t+k)=False:=fun k=>eq_false (by omega)
      have hnr0:(r=t)=False:=eq_false (by omega);have hgs:(ckC (cur.set i ⟨y.T,y.f,b⟩)++D)[i*3+2]? = some (.int .i64 b):=by
       rw[List.getElem?_append_left (by rw[zWR,List.length_set];omega)];exact (yQH (l:=cur.set i ⟨y.T,y.f,b⟩) (i:=i) (x:=⟨y.T,y.f,b⟩) (by rw[List.getElem?_set_self (by omega)])).2.2
      repeat' (first|refine zQQ 697578872959655947512624442496585980406771 ?_|refine zQW ?_|(refine stp ?_;simp only[go_sem,hA,hX,hgb,hst,zWF,hgs,Option.map_some,List.length_append,hckl])|(refine EffW.at (htake ) [] rfl (by (simp;done)) ?_;(try simp only[go_sem]))|((refine zJT ?_;unfold zTQ);simp only[go_sem,zKH])|(simp (disch:=omega) only[zQK])|(refine spl (fun h=>?_) (fun h=>?_)<;>first|omega|try simp only[go_sem,h])|(refine zQT ?_ ?_;focus omega))
      haveI hS':StL p (setL Bi r (.cells (ckC (cur.set i ⟨y.T,y.f,b⟩)++D) 192 z0 true 0)) t:=StL.updC hca (by rw[zQB];exact ⟨zXD _ _,zQJ (Nat.zero_le _) _ hD⟩)
      (refine ⟨(i+1,zHS si b,cur.set i ⟨y.T,y.f,b⟩,insU tk b,insU us b,setL Bi r (.cells (ckC (cur.set i ⟨y.T,y.f,b⟩)++D) 192 z0 true 0)),t,[t,t+1],?_,?_,rfl,rfl,?_,⟨?_,rfl,?_,?_,?_,?_,?_⟩⟩;rotate_left;(focus (simp only[];omega));(focus (simp[go_sem,zQS,hr,hxt]));(focus (omega));(focus simp);(focus (simp));(focus (simp only[];omega));(focus (simp[zXM]));(focus (simp[zFP,zYF _ hr11,zPB]));(try simp only[]))
      obtain ⟨q1,q2,q3,q4⟩:=zHH hq;refine ⟨hil,by rw[List.length_set];exact hcl,hS',fun j hj=>(zJP hj).trans (hsame j hj),hca.updC,⟨hso,q2⟩,?_,?_,?_,?_⟩
      ·rw[List.drop_set_of_lt (by omega)];exact yXP hdr
      ·rw[hfi,zYT (by omega),Option.map_map]
       congr 2
       funext z
       simp
      ·rw[zYT (by omega)];intro y' hy'
       rcases List.mem_append.1 hy' with h' | h'
       ·exact htk y' h'
       ·simp at h';subst h';exact ⟨⟨b,rfl,q2⟩,hy2,hy3⟩
      ·intro c';rw[zYT (by omega),yFY,List.mem_append,yJD,hus];simp[zZN]
   ·rw[if_neg hb] at hfi
    obtain ⟨b,hbb,hbn,hbt⟩:=hym.resolve_left (by omega);rw[hbb] at hgb
    repeat' (first|refine zQQ 697578872959655947512624442496585980406771 ?_|refine zQW ?_|(refine stp ?_;simp only[go_sem,hA,hgb])|((refine zJT ?_;unfold zTQ);simp only[go_sem,zKH])|(simp (disch:=omega) only[zQK])|(refine spl (fun h=>?_) (fun h=>?_)<;>first|omega|try simp only[go_sem,h])|(refine zQT ?_ ?_;focus omega))
    (refine ⟨(i+1,si,cur,tk,insU us b,Bi),t,[t,t+1],?_,?_,rfl,rfl,?_,⟨?_,rfl,?_,?_,?_,?_,?_⟩⟩;rotate_left;(focus (simp only[];omega));(focus (simp[go_sem,zQS,hr,hxt]));(focus (omega));(focus simp);(focus (simp));(focus (simp only[];omega));(focus (simp[zXM]));(focus (simp[zFP,zPB]));(try simp only[]))
    refine ⟨hil,hcl,hS,hsame,hca,⟨hso,hsl⟩,yXP hdr,?_,?_,?_⟩
    ·rw[hfi,zKB hy,Option.map_map]
     congr 2
     funext z
     simp
    ·rw[zKB hy];intro y' hy'
     rcases List.mem_append.1 hy' with h' | h'
     ·exact htk y' h'
     ·simp at h';subst h';exact ⟨⟨b,hbb,hbn⟩,hy2,hy3⟩
    ·intro c';rw[zKB hy,yFY,List.mem_append,yJD,hus];simp[zZN,hbb]
  ·obtain rfl:i=l.length:=by omega
   have hcur:List.take l.length cur=cur:=List.take_of_length_le (by omega);have hnil:List.drop l.length l=[]:=List.drop_length;rw[hcur] at htk hus hfi
   rw[hnil] at hfi
   simp only[zVD,Option.map_some,List.append_nil] at hfi
   obtain ⟨hcnd,hcin⟩:=hnd si cur hfi;have hsit:∀ b,b∈s.taken→b∈si.taken:=fun b hb=>by have:=zMG (p:=p) l s hb;rwa [hfi] at this
   have hwat':ps ≠ []→AtB Bi t rp (.cells (ckC ps) 192 3 true 0):=fun hn=>⟨(hat hn).hi,(hat hn).lt,by rw[hsame _ hpr];exact (hat hn).lk⟩
   repeat' (first|refine zQQ 697578872959655947512624442496585980406771 ?_|refine zQW ?_|(refine stp ?_;simp only[go_sem,hX])|(refine spl (fun h=>?_) (fun h=>?_)<;>first|omega|try simp only[go_sem,h])|fail)
   refine zQM (fun z:Nat × Gs=>[(0,.ptr (some ⟨x,0⟩)),(1,.slice (some ⟨r,0⟩) l.length cap),(5,.map (some t)),(6,.map (some (t+1))),(64,zVW rp ps.length),(65,.int .i64 ps.length),(66,.int .i64 z.1)]) (fun z:Nat × Gs=>(t+1,.map (usE us))::(t,.map (usE tk))::stB (zXG p z.2) Bi) (fun z:Nat × Gs=>t+2) (fun z:Nat × Gs=>z.1≤ps.length∧zKD us z.2 ((ps.drop z.1).map zJD)=zKD us si (ps.map zJD)∧z.2.over=false∧z.2.least≤p.n∧(∀ y∈ps.drop z.1,∃ b:Nat,y.b=b∧b∈z.2.taken)) (fun z:Nat × Gs=>ps.length - z.1) ((0,si)) ?_ ?_ ?_ ?_ ?_
   ·rintro ⟨j,sj⟩ -
    refine ⟨by simp[zWP,show r<t+2 by omega,show rp<t+2 by omega,show x<t+2 by omega],by simp[zXM],by show t≤t+2;omega⟩
   ·exact ⟨Nat.zero_le _,rfl,hso,hsl,fun y hy=>by obtain ⟨b,q1,q2⟩:=hwok y hy;exact ⟨b,q1,hsit b q2⟩⟩
   ·simp only[go_sem,zQS]
   ·show zWG _ ((t+1,.map (usE us))::(t,.map (usE tk))::stB (zXG p si) Bi);simp only[go_sem,zWG]
   ·rintro ⟨j,sj⟩ ⟨hj,hgv,hjo,hjl,hjt⟩
    simp only at hj hgv hjo hjl hjt ⊢
    rcases Nat.lt_or_ge j ps.length with hjw | hjw
    ·have hWA:=(hwat' (List.ne_nil_of_length_pos (by omega))).f (p:=p);obtain ⟨y,hy⟩:∃ y,ps[j]? = some y:=⟨ps[j],List.getElem?_eq_getElem _⟩;have hg3:=zRV hy;have hwe:=zWZ (b:=rp) (n:=ps.length) (by omega);have hd:ps.drop j=y::ps.drop (j+1):=by
      rw[List.drop_eq_getElem_cons hjw];congr 1;rw[List.getElem?_eq_getElem hjw] at hy;simpa using hy
     obtain ⟨b,hyb,hbt⟩:=hjt y (by rw[hd];exact List.mem_cons_self ..);rw[hd] at hgv hjt
     simp only[List.map_cons,zKD,zJD,hyb,Int.toNat_natCast] at hgv
     rw[hwe];have hfu:=zGZ b us
     by_cases hm:b∈us
     ·rw[if_pos hm] at hfu hgv
      repeat' (first|refine zQQ 697578872959655947512624442496585980406771 ?_|refine zQW ?_|(refine stp ?_;simp only[go_sem,hWA,hg3,hyb])|((refine zXN ?_;unfold zGR);simp only[go_sem,hfu,zKH])|(simp (disch:=omega) only[zQK])|(refine spl (fun h=>?_) (fun h=>?_)<;>first|omega|try simp only[go_sem,h])|(refine zQT ?_ ?_;focus omega))
      (refine ⟨(j+1,sj),t,[t,t+1],?_,?_,rfl,rfl,?_,⟨?_,rfl,?_,?_,?_,?_,?_⟩⟩;rotate_left;(focus (simp only[];omega));(focus (simp[go_sem,zQS,hr,hrp,hxt]));(focus (omega));(focus simp);(focus (simp));(focus (simp only[];omega));(focus (simp[zXM]));(focus (simp[zPB]));(try simp only[]))
      exact ⟨hjw,hgv,hjo,hjl,fun y' hy'=>hjt y' (List.mem_cons_of_mem _ hy')⟩
     ·rw[if_neg hm] at hfu hgv
      have hgive:=give_c Bi G sj hp hjo (by omega) b hbt
      repeat' (first|refine zQQ 697578872959655947512624442496585980406771 ?_|refine zQW ?_|(refine stp ?_;simp only[go_sem,hWA,hg3,hyb])|(refine zWV (id:=19) mixed [(0,[]),(1,[]),(2,[]),(4,[]),(3,[]),(5,[]),(6,[]),(7,[])] (by kernel_rfl) ?_;simp only[go_sem,hX])|(refine EffW.at (hgive ) [] rfl (by (simp;done)) ?_;(try simp only[go_sem]))|((refine zXN ?_;unfold zGR);simp only[go_sem,hfu,zKH])|(simp (disch:=omega) only[zQK])|(refine spl (fun h=>?_) (fun h=>?_)<;>first|omega|try simp only[go_sem,h])|(refine zQT ?_ ?_;focus omega))
      (refine ⟨(j+1,zDJ sj b),t,[t,t+1],?_,?_,rfl,rfl,?_,⟨?_,rfl,?_,?_,?_,?_,?_⟩⟩;rotate_left;(focus (simp only[];omega));(focus (simp[go_sem,zQS,hr,hrp,hxt]));(focus (omega));(focus simp);(focus (simp));(focus (simp only[];omega));(focus (simp[zXM,zDJ]));(focus (simp[zPB,zDJ]));(try simp only[]))
      refine ⟨hjw,hgv,hjo,?_,fun y' hy'=>?_⟩
      ·have:(zDJ sj b).least≤sj.least:=Nat.min_le_left _ _;omega
      ·obtain ⟨b',q1,q2⟩:=hjt y' (List.mem_cons_of_mem _ hy');refine ⟨b',q1,(List.mem_erase_of_ne fun e=>?_).2 q2⟩;have hdn:(zZN (ps.drop j)).Nodup:=hwnd.sublist ((List.drop_sublist _ _).map _);rw[hd] at hdn
       refine (List.nodup_cons.1 hdn).1 ?_;refine List.mem_map.2 ⟨y',hy',?_⟩;simp only[q1,hyb,e]
    ·obtain rfl:j=ps.length:=by omega
     rw[List.drop_length] at hgv
     simp only[List.map_nil,zKD] at hgv
     repeat' (first|refine zQQ 697578872959655947512624442496585980406771 ?_|refine zQW ?_|(refine stp ?_;simp only[go_sem])|(refine spl (fun h=>?_) (fun h=>?_)<;>first|omega|try simp only[go_sem,h])|fail)
     have hall:∀ y∈cur,∃ b:Nat,y.b=b∧b<p.n∧b∈sj.taken:=fun y hy=>by
      obtain ⟨⟨b,q1,q2⟩,-⟩:=htk y hy;have hbc:b∈zZN cur:=List.mem_map.2 ⟨y,hy,by rw[q1];rfl⟩;exact ⟨b,q1,q2,hgv ▸ yQR ((hus b).2 hbc) _ si (hcin b hbc)⟩
     refine zQM (fun z:Nat × Gs=>[(0,.ptr (some ⟨x,0⟩)),(5,.map (some t)),(89,.slice (some ⟨r,0⟩) l.length cap),(90,.int .i64 l.length),(91,.int .i64 z.1)]) (fun z:Nat × Gs=>(t,.map (usE tk))::stB (zXG p z.2) Bi) (fun z:Nat × Gs=>t+1) (fun z:Nat × Gs=>z.1≤l.length∧WrC p sj z.2 cur z.1) (fun z:Nat × Gs=>l.length - z.1) ((0,sj)) ?_ ?_ ?_ ?_ ?_
     ·rintro ⟨k,sk⟩ -
      exact ⟨by simp[zWP,show r<t+1 by omega,show x<t+1 by omega],by simp[zXM],by show t≤t+1;omega⟩
     ·exact ⟨Nat.zero_le _,WrC.zero _ _⟩
     ·simp only[go_sem,zQS]
     ·show zWG _ ((t,.map (usE tk))::stB (zXG p sj) Bi);simp only[go_sem,zWG]
     ·rintro ⟨k,sk⟩ ⟨hk,hwa⟩
      simp only at hk hwa ⊢
      rcases Nat.lt_or_ge k l.length with hkp | hkp
      ·obtain ⟨y,hy⟩:∃ y,cur[k]? = some y:=⟨cur[k]'(by omega),List.getElem?_eq_getElem _⟩;have hym:=List.mem_of_getElem? hy;obtain ⟨b,hyb,hbn,hbt⟩:=hall y hym;obtain ⟨-,hy2,hy3⟩:=htk y hym;rw[← hwa.taken] at hbt
       have hko:sk.over=false:=by rw[hwa.over];exact hjo
       have hckl:=zWR cur;obtain ⟨hg3,hgl⟩:=zRV hy;have hg4:((ckC cur++D).drop (k*3)).take 3=[.str y.T,.int .i64 y.f,.int .i64 b]:=by
        rw[List.drop_append_of_le_length (by omega),List.take_append_of_le_length (by rw[List.length_drop];omega),hg3,hyb]
       have i2:(k*3+3≤(ckC cur++D).length)=True:=eq_true (by rw[List.length_append];omega);have hpb:=pbytes_c G y.T y.f (b:Int) hy2 hy3;have hrd:=xYD Bi G sk hp hko b hbn hbt;have hgl2:=zSZ y.T y.f hy2;have hrl:=yPQ p sk b;rw[show ovl sk.put (p.at_+256*b) 256=rd p sk b from rfl] at hrd
       have hwr:=write_c Bi G sk hp hko b hbn hbt 256 1 0 true (zKX y.T y.f) [] hgl2;rw[zWH,List.append_nil] at hwr
       have heq:=yXW G (rd p sk b) (zKX y.T y.f) (rd p sk b) (zKX y.T y.f) 0 0 0 0 1 0 256 256 true true (by rw[List.drop_zero,List.take_length]) (by rw[List.drop_zero,List.take_length]) (by omega) (by omega) (by omega) (by omega);rw[hrl,hgl2] at heq
       have hfu:=zGZ b tk;have hstep:=hwa.step hy (by rw[hyb,Int.toNat_natCast];exact rd_wr sk b _ hgl2) hcnd
       by_cases hm:b∈tk
       ·rw[if_pos hm] at hfu
        repeat' (first|refine zQQ 697578872959655947512624442496585980406771 ?_|refine zQW ?_|(refine stp ?_;simp only[go_sem,hA,hg4,i2])|(refine zWV (id:=29) mixed [(0,[]),(1,[]),(2,[]),(4,[]),(3,[]),(5,[]),(6,[]),(7,[]),(8,[]),(9,[]),(10,[]),(11,[])] (by kernel_rfl) ?_;simp only[go_sem,hX])|(refine zWV (id:=34) mixed [(0,[]),(1,[]),(2,[]),(4,[]),(6,[]),(3,[]),(5,[]),(7,[]),(8,[])] (by kernel_rfl) ?_;simp only[go_sem,hX])|(refine Eff.at2 (hpb ) [] rfl (by first|(simp;done)|fail) rfl ?_;(try simp only[go_sem]))|(refine EffW.at (hrd ) [] rfl (by (simp;done)) ?_;(try simp only[go_sem]))|(refine EffW.at (hwr ) [t+2] rfl (by (simp;done)) ?_;(try simp only[go_sem]))|((refine zXN ?_;unfold zGR);simp only[go_sem,hfu,zKH])|(simp (disch:=omega) only[zQK])|(refine spl (fun h=>?_) (fun h=>?_)<;>first|omega|try simp only[go_sem,h])|(refine zQT ?_ ?_;focus omega))
        (refine ⟨(k+1,wrS p sk b (zKX y.T y.f)),t,[t],?_,?_,rfl,rfl,?_,⟨?_,rfl,?_,?_,?_,?_,?_⟩⟩;rotate_left;(focus (simp only[];omega));(focus (simp[go_sem,zQS,hr,hxt]));(focus (omega));(focus simp);(focus (simp));(focus (simp only[];omega));(focus (simp[zXM]));(focus (simp[zPB]));(try simp only[]))
        exact ⟨hkp,hstep⟩
       ·rw[if_neg hm] at hfu
        by_cases he:rd p sk b=zKX y.T y.f
        ·rw[decide_eq_true he] at heq
         repeat' (first|refine zQQ 697578872959655947512624442496585980406771 ?_|refine zQW ?_|(refine stp ?_;simp only[go_sem,hA,hg4,i2])|(refine zWV (id:=29) mixed [(0,[]),(1,[]),(2,[]),(4,[]),(3,[]),(5,[]),(6,[]),(7,[]),(8,[]),(9,[]),(10,[]),(11,[])] (by kernel_rfl) ?_;simp only[go_sem,hX])|(refine Eff.at2 (hpb ) [] rfl (by first|(simp;done)|fail) rfl ?_;(try simp only[go_sem]))|(refine EffW.at (hrd ) [] rfl (by (simp;done)) ?_;(try simp only[go_sem]))|(refine Eff.atR (heq ) rfl [t+15,t+2] rfl (by first|(simp;done)|fail) rfl ?_;(try simp only[go_sem]))|((refine zXN ?_;unfold zGR);simp only[go_sem,hfu,zKH])|(simp (disch:=omega) only[zQK])|(refine spl (fun h=>?_) (fun h=>?_)<;>first|omega|try simp only[go_sem,h])|(refine zQT ?_ ?_;focus omega))
         (refine ⟨(k+1,sk),t,[t],?_,?_,rfl,rfl,?_,⟨?_,rfl,?_,?_,?_,?_,?_⟩⟩;rotate_left;(focus (simp only[];omega));(focus (simp[go_sem,zQS,hr,hxt]));(focus (omega));(focus simp);(focus (simp));(focus (simp only[];omega));(focus (simp[zXM]));(focus (simp[zPB]));(try simp only[]))
         exact ⟨hkp,hwa.step hy (by rw[hyb,Int.toNat_natCast];exact WrR.same sk b _ he) hcnd⟩
        ·rw[decide_eq_false he] at heq
         repeat' (first|refine zQQ 697578872959655947512624442496585980406771 ?_|refine zQW ?_|(refine stp ?_;simp only[go_sem,hA,hg4,i2])|(refine zWV (id:=29) mixed [(0,[]),(1,[]),(2,[]),(4,[]),(3,[]),(5,[]),(6,[]),(7,[]),(8,[]),(9,[]),(10,[]),(11,[])] (by kernel_rfl) ?_;simp only[go_sem,hX])|(refine zWV (id:=34) mixed [(0,[]),(1,[]),(2,[]),(4,[]),(6,[]),(3,[]),(5,[]),(7,[]),(8,[])] (by kernel_rfl) ?_;simp only[go_sem,hX])|(refine Eff.at2 (hpb ) [] rfl (by first|(simp;done)|fail) rfl ?_;(try simp only[go_sem]))|(refine EffW.at (hrd ) [] rfl (by (simp;done)) ?_;(try simp only[go_sem]))|(refine Eff.atR (heq ) rfl [t+15,t+2] rfl (by first|(simp;done)|fail) rfl ?_;(try simp only[go_sem]))|(refine EffW.at (hwr ) [t+2] rfl (by (simp;done)) ?_;(try simp only[go_sem]))|((refine zXN ?_;unfold zGR);simp only[go_sem,hfu,zKH])|(simp (disch:=omega) only[zQK])|(refine spl (fun h=>?_) (fun h=>?_)<;>first|omega|try simp only[go_sem,h])|(refine zQT ?_ ?_;focus omega))
         (refine ⟨(k+1,wrS p sk b (zKX y.T y.f)),t,[t],?_,?_,rfl,rfl,?_,⟨?_,rfl,?_,?_,?_,?_,?_⟩⟩;rotate_left;(focus (simp only[];omega));(focus (simp[go_sem,zQS,hr,hxt]));(focus (omega));(focus simp);(focus (simp));(focus (simp only[];omega));(focus (simp[zXM]));(focus (simp[zPB]));(try simp only[]))
         exact ⟨hkp,hstep⟩
      ·obtain rfl:k=l.length:=by omega
       repeat' (first|refine zQQ 697578872959655947512624442496585980406771 ?_|(refine stp ?_;simp only[go_sem])|(refine spl (fun h=>?_) (fun h=>?_)<;>first|omega|try simp only[go_sem,h])|fail)
       refine zKY hQ (B':=gnd p sk Bi) (by omega) (by simp[EV.bel]) ⟨Bi,sk,rfl,rfl,hS,hsame,?_⟩;rw[hfi];refine ⟨rfl,hca,?_⟩;rw[← yQT hus,← hgv,hcl];exact hwa
end
section
variable {p:Gp} (B:List (Nat × EO)) {t:Nat}
def CkR (B:List (Nat × EO)) (t:Nat) (v:EV) (l:List Ck):Prop:=
 (l=[]∧v=.slice none 0 0)∨∃ r cap D z,v=.slice (some ⟨r,0⟩) l.length cap∧AtB B t r (.cells (ckC l++D) 192 z true 0)∧l.length≤cap
theorem CellsV.snocZ {p:Gp} {B':List (Nat × EO)} {T:Nat} [hS:StL p B' T] {evs:List EV} {cs:List Cell} (h:CellsV B' T evs cs) (x:Cell) (z:Nat) :
  StL p ((T,.cells (zQZ x) 5 z true 0)::B') (T+1)∧Ext B' T ((T,.cells (zQZ x) 5 z true 0)::B') (T+1)∧CellsV ((T,.cells (zQZ x) 5 z true 0)::B') (T+1) (evs++[.slice (some ⟨T,0⟩) x.length x.length]) (cs++[x]):=by
 have hx1:=StL.above (p:=p) (B:=B') (t:=T) (t':=T+1) (X:=[(T,.cells (zQZ x) 5 z true 0)]) (by omega) (by simp) (by simp[zWN,lkp]) (by simp);refine ⟨hx1.1,hx1.2,CellsV.append (h.mono hx1.2) ⟨⟨T,0,x.length,x,z,true,0,rfl,⟨hS.big,by omega,by simp[lkp]⟩,by omega,by simp⟩,trivial⟩⟩
def GeV (t:Nat) (evs:List EV):Prop:=∀ (j d o n c:Nat),evs[j]? = some (.slice (some ⟨d,o⟩) n c)→t≤d
theorem GeV.nil (t:Nat):GeV t []:=fun j d o n c h=>by simp at h
theorem GeV.snoc {t T n c:Nat} {evs:List EV} (h:GeV t evs) (ht:t≤T):GeV t (evs++[.slice (some ⟨T,0⟩) n c]):=fun j d o n' c' e=>by
 rcases Nat.lt_or_ge j evs.length with q | q
 ·rw[List.getElem?_append_left q] at e;exact h j d o n' c' e
 ·rw[List.getElem?_append_right q] at e
  cases hk:j - evs.length with
  | zero=>rw[hk] at e;simp at e;omega
  | succ k=>rw[hk] at e;simp at e
def zKQ (l:List Ck):List Cell:=l.map fun x=>zNH x.T x.b.toNat
theorem yVN (G:List Gl) (s:Gs) [Big t] [hS0:StL p B t] (l:List Ck) (v:EV) (hv:CkR B t v l) (hl:∀ x∈l,(∃ b:Nat,x.b=b∧b<4294967295)∧x.T.length≤252) (hn:l.length≤1000000) :
  EffR G Tryz.prog 119 [v] (gnd p s B) t (fun v bl nx=>∃ B' evs,bl=gnd p s B'∧StL p B' nx∧Ext B t B' nx∧RowA B' nx v evs.length evs 56 1∧CellsV B' nx evs (zKQ l)∧GeV t evs):=by
 obtain ⟨a,cap,rfl,hva,hvb⟩:∃ a cap,v=.slice a l.length cap∧(0<l.length→∃ r D z,a=some ⟨r,0⟩∧AtB B t r (.cells (ckC l++D) 192 z true 0)∧l.length≤cap)∧∀ k,(EV.slice a l.length cap).bel (t+k):=by
  rcases hv with ⟨h1,h2⟩ | ⟨r,cap,D,z,h1,h2,h3⟩
  ·subst h1;exact ⟨none,0,h2,fun h=>absurd h (by simp),fun _=>trivial⟩
  ·exact ⟨_,cap,h1,fun _=>⟨r,D,z,rfl,h2,h3⟩,fun k=>by have:=h2.lt;show r<t+k;omega⟩
 refine EffR.enter fun Q hQ=>?_
 refine zQV 19 [.tmp 2] Tryz.func119 ?_
 repeat' (first|refine zQQ 1005 ?_|refine zQW ?_|(refine stp ?_;simp only[go_sem])|fail)
 refine zQM (fun z:Nat × List EV × List (Nat × EO) × Nat=>[(3,zVW z.2.2.2 z.2.1.length),(6,.slice a l.length cap),(7,.int .i64 l.length),(8,.int .i64 z.1)]) (fun z:Nat × List EV × List (Nat × EO) × Nat=>zVY z.2.2.2 z.2.1 56 1++stB (zXG p s) z.2.2.1) (fun z:Nat × List EV × List (Nat × EO) × Nat=>z.2.2.2+1) (fun z:Nat × List EV × List (Nat × EO) × Nat=>z.1≤l.length∧StL p z.2.2.1 z.2.2.2∧Ext B t z.2.2.1 z.2.2.2∧CellsV z.2.2.1 z.2.2.2 z.2.1 (zKQ (l.take z.1))∧GeV t z.2.1) (fun z:Nat × List EV × List (Nat × EO) × Nat=>l.length - z.1) ((0,[],B,t)) ?_ ?_ ?_ ?_ ?_
 ·rintro ⟨j,evs2,B2,T2⟩ ⟨hj,hS2,he2,hev2,hge2⟩
  haveI:=hS2;have h5:t≤T2:=he2.le;obtain ⟨k,hk⟩:∃ k,T2+1=t+k:=⟨T2+1 - t,by omega⟩;refine ⟨⟨by simp,by show (EV.slice a l.length cap).bel _;rw[hk];exact hvb k,trivial,trivial,trivial⟩,?_,by show t≤T2+1;omega⟩;rw[zXS (by simp) (zQJ (by simp) _ hev2.below),Bg.blBelow];trivial
 ·exact ⟨Nat.zero_le _,hS0,Ext.refl _ _,trivial,GeV.nil _⟩
 ·simp only[go_sem,zQS,zWY,List.length_nil]
 ·show zWG _ (stB (zXG p s) B);simp only[go_sem]
 ·rintro ⟨j,evs2,B2,T2⟩ ⟨hj,hS2,he2,hev2,hge2⟩
  simp only at hj hS2 he2 hev2 ⊢
  haveI:=hS2;haveI:Big T2:=⟨hS2.big⟩;have h5:t≤T2:=he2.le;have hevl:=hev2.length;have hre0:∀ q,zZG (nam T2 q) evs2=evs2:=fun q=>zWB (i:=0) hev2.below
  have hbe:∀ i,zQX (T2+i) evs2=True:=fun i=>eq_true (zQJ (Nat.le_add_right _ _) _ hev2.below)
  have hel:evs2.length=j:=by rw[hevl,zKQ,List.length_map,List.length_take];omega
  rcases Nat.lt_or_ge j l.length with hjl | hjl
  ·obtain ⟨r,D,z,rfl,hat,hlc⟩:=hva (by omega);have hA:=(hat.mono he2).f (p:=p);have hrT:r<T2:=by have:=hat.lt;omega
   obtain ⟨y,hy⟩:∃ y,l[j]? = some y:=⟨l[j],List.getElem?_eq_getElem _⟩;obtain ⟨⟨b,hyb,hbn⟩,hy2⟩:=hl y (List.mem_of_getElem? hy);have hckl:=zWR l;obtain ⟨hg3,hgl⟩:=zRV hy;have hg4:((ckC l++D).drop (j*3)).take 3=[.str y.T,.int .i64 y.f,.int .i64 b]:=by
    rw[List.drop_append_of_le_length (by omega),List.take_append_of_le_length (by rw[List.length_drop];omega),hg3,hyb]
   have i2:(j*3+3≤(ckC l++D).length)=True:=eq_true (by rw[List.length_append];omega);have hcl:=cell_c G y.T y.f b hy2 hbn;have hsn:=hev2.snocZ (p:=p) (zNH y.T b) 0;rw[zPS] at hsn
   repeat' (first|refine zQQ 1005 ?_|refine zQW ?_|(refine stp ?_;simp only[go_sem,hA,hg4,i2])|(refine Eff.at2 (hcl ) [] rfl (by first|(simp;done)|fail) rfl ?_;(try simp only[go_sem]))|(refine zJJ (c:=evs2) (by omega) (by first|(simp;done)|fail) (by first|(simp;done)|fail) (by first|(simp;done)|fail) (by omega) (by first|(simp;done)|fail) (by first|(simp[EV.one];done)|fail) (by simp;omega) ?_;(try simp only[go_sem]))|(simp (disch:=omega) only[zQK])|(refine spl (fun h=>?_) (fun h=>?_)<;>first|omega|try simp only[go_sem,h])|(refine zQT ?_ ?_;focus omega))
   (refine ⟨(j+1,evs2++[.slice (some ⟨T2,0⟩) 16 16],(T2,.cells (zQZ (zNH y.T b)) 5 0 true 0)::B2,T2+1),T2,[T2+2,T2+4],?_,?_,rfl,rfl,?_,⟨?_,rfl,?_,?_,?_,?_,?_⟩⟩;rotate_left;(focus (simp only[];omega));(focus (simp[go_sem,zQS,zZK,hrT,List.length_append]));(focus (omega));(focus simp);(focus (simp));(focus (simp only[];omega));(focus (simp[Nat.add_assoc,hbe,zBT]));(focus (simp[hre0,zBT]));(try simp only[]))
   refine ⟨hjl,hsn.1,he2.trans hsn.2.1,?_,hge2.snoc h5⟩;have e3:zKQ (l.take (j+1))=zKQ (l.take j)++[zNH y.T b]:=by
    unfold zKQ;rw[List.take_succ,hy,List.map_append];simp[hyb]
   rw[e3];exact hsn.2.2
  ·obtain rfl:j=l.length:=by omega
   repeat' (first|refine zQQ 1005 ?_|(refine stp ?_;simp only[go_sem])|(refine spl (fun h=>?_) (fun h=>?_)<;>first|omega|try simp only[go_sem,h])|fail)
   rw[List.take_length] at hev2
   have hx:=zRJ (p:=p) (B':=B2) (T:=T2) (ty:=56) (k:=1) (n:=evs2.length) (c:=evs2) (zQJ (Nat.le_succ _) _ hev2.below) (by omega) (by omega);haveI:=hx.1;haveI:Big (T2+1):=⟨hx.1.big⟩;rw[← zTN];exact zWX hQ (by omega) (Bg.below (t:=T2+1)) (by simp) ⟨_,evs2,rfl,hx.1,he2.trans hx.2.1,hx.2.2,hev2.mono hx.2.1,hge2⟩
end
end Go.Proofs.YtncphnpndkjkaaaGreatDoor
