/-
  Own work: a part of the proof that the last text closes.
-/
import Derived.Test.YtncphnpndkjkaaaGreatDoorHc
import Derived.Test.YtncphnpndkjkaaaGreatDoorFh
namespace Go.Proofs.YtncphnpndkjkaaaGreatDoor
open Go.E
set_option linter.all false
set_option maxRecDepth 100000
set_option maxHeartbeats 16000000
section
theorem fill_c (G:List Gl) (c:Nat) (h1:1≤c) (h2:c≤62):E.Pure G Tryz.prog 164 [.int .i64 c] (.int .i64 (248 / c:Nat)):=by
 refine zXP fun V hV=>?_
 refine zQV 11 [.tmp 2] Tryz.func164 ?_
 repeat' (first|refine zQQ 261 ?_|(refine stp ?_;simp only[go_sem])|(simp (disch:=omega) only[zQK,zBG,zYP,zPH,zKG,yQN,zDQ,zFD])|(refine spl (fun h=>?_) (fun h=>?_)<;>first|omega|((try simp only[zZQ]);(try simp only[go_sem,h])))|(refine zQT ?_ ?_;focus omega))
 have e:(248:Int) / c=((248 / c:Nat):Int):=by rw[Int.natCast_ediv];rfl
 have h3:248 / c≤248:=Nat.div_le_self _ _;rw[e];generalize 248 / c=y at *
 rw[zQK (by omega) (by omega)]
 (refine zQH (by simp[EV.bel]) ?_;rw[hV])
def zWM (x:TP):PL:=⟨x.1,x.2,false⟩
def zNG (d o c j:Nat):List EV:=(List.range j).map fun i=>.slice (some ⟨d,o+c*i⟩) c c
theorem zFK (d o c j:Nat):zNG d o c (j+1)=zNG d o c j++[.slice (some ⟨d,o+c*j⟩) c c]:=by simp[zNG,List.range_succ]
theorem zYW (d o c j:Nat):(zNG d o c j).length=j:=by simp[zNG]
def zDV (d o c j cap:Nat):List EV:=if j=0 then [] else zNG d o c j++zYH (cap - j)
theorem rowX_zero (d o c cap:Nat):zDV d o c 0 cap=[]:=rfl
theorem zBB (d o c:Nat) {j cap:Nat} (h:0<j):zDV d o c j cap=zNG d o c j++zYH (cap - j):=by unfold zDV;rw[if_neg (by omega)]
theorem zBN (d o c:Nat) {j cap:Nat} (h:0<j) (hc:j≤cap):(zDV d o c j cap).length=cap:=by
 rw[zBB _ _ _ h,List.length_append,zYW,yKR];omega
theorem yYN (d o c:Nat) {j cap:Nat} (h:0<j):(zDV d o c j cap).take j=zNG d o c j:=by
 rw[zBB _ _ _ h,List.take_left' (zYW _ _ _ _)]
theorem rowX_put (d o c:Nat) {j cap:Nat} (h:0<j) (hc:j+1≤cap):zZH (zDV d o c j cap) j [.slice (some ⟨d,o+c*j⟩) c c]=zDV d o c (j+1) cap:=by
 rw[zBB _ _ _ h,zBB _ _ _ (by omega),zFK];unfold zZH;rw[List.take_left' (zYW _ _ _ _),List.length_singleton,List.drop_append,List.drop_of_length_le (by rw[zYW];omega),zYW,show j+1 - j=1 by omega,show cap - j=(cap - (j+1))+1 by omega];simp[zYH,zWT]
theorem xZH (d o c j k:Nat) (h:d<k):zQX k (zNG d o c j):=zTZ fun v hv=>by
 simp only[zNG,List.mem_map] at hv
 obtain ⟨i,_,rfl⟩:=hv;exact h
theorem tbl_take0 (c next:Nat) (cs:List Cell) (hn:next<4294967296) (hl:(zRS c next cs).length=256):zHY (zRS c next cs) 0=.tuple [.int .u32 next,.int .i64 0]:=by
 unfold zHY;rw[if_pos (by omega),List.drop_zero];have:(zRS c next cs).take 4=leB 4 next:=by unfold zRS;rw[List.append_assoc,List.append_assoc,List.take_left' (zXX 4 _)]
 rw[this,yQY 4 _ (by omega)]
theorem tbl_take4 (c next:Nat) (cs:List Cell) (hn:cs.length<65536) (hl:(zRS c next cs).length=256):zSF (zRS c next cs) 4=.tuple [.int .u16 cs.length,.int .i64 0]:=by
 unfold zSF;rw[if_pos (by omega)];have:((zRS c next cs).drop 4).take 2=leB 2 cs.length:=by unfold zRS;rw[List.append_assoc,List.append_assoc,List.drop_left' (zXX 4 _),List.take_left' (zXX 2 _)]
 rw[this,yQY 2 _ (by omega)]
theorem tbl_take6 (c next:Nat) (cs:List Cell) (hn:c<65536) (hl:(zRS c next cs).length=256):zSF (zRS c next cs) 6=.tuple [.int .u16 c,.int .i64 0]:=by
 unfold zSF;rw[if_pos (by omega)];have:((zRS c next cs).drop 6).take 2=leB 2 c:=by unfold zRS;rw[List.append_assoc,List.drop_left' (by simp),List.take_left' (zXX 2 _)]
 rw[this,yQY 2 _ (by omega)]
theorem tblB_zero {c next:Nat} {cs:List Cell} (hl:∀ x∈cs,x.length=c) (hf:cs.length≤248 / c) (i:Nat) (hi:i<248 - c*cs.length):(zQZ (zRS c next cs))[8+c*cs.length+i]? = some (.int .u8 0):=by
 have h1:=zHQ hl;rw[zTB _ _ (by rw[zRT hl hf];omega)]
 congr 2
 have:(zRS c next cs).getD (8+c*cs.length+i) 0=0:=by
  unfold zRS;rw[← List.append_assoc,List.getD_eq_getElem?_getD,List.getElem?_append_right (by simp[h1];omega),List.length_append,List.length_append,List.length_append,zXX,zXX,zXX,h1,zU,List.getElem?_replicate];rw[if_pos (by omega)];rfl
 rw[this];rfl
variable {p:Gp} (B:List (Nat × EO)) {t:Nat}
theorem Chain.drop {s:Gs} {c:Nat}:∀ {l:List TP} (_:Chain p s c l) (z:Nat),Chain p s c (l.drop z)
 | _,h,0=>h
 | [],_,z+1=>trivial
 | _::_,h,z+1=>Chain.drop h.2.2 z
theorem refOf_nil:zWQ []=0:=rfl
theorem refOf_cons (b:Nat) (cs:List Cell) (l:List TP):zWQ ((b,cs)::l)=b+1:=rfl
theorem zGQ:∀ {l:List Pt} {i:Nat} {x:Pt},l[i]? = some x→(ptC l)[3*i]? = some (.int .i64 x.b)∧(ptC l)[3*i+1]? = some x.row∧(ptC l)[3*i+2]? = some (.bool x.fresh)
 | y::l,0,x,h=>by simp at h;subst h;exact ⟨rfl,rfl,rfl⟩
 | y::l,i+1,x,h=>by
   obtain ⟨h1,h2,h3⟩:=zGQ (l:=l) (i:=i) (by simpa using h);have e:ptC (y::l)=.int .i64 y.b::y.row :: .bool y.fresh::ptC l:=rfl;rw[e];exact ⟨by rw[show 3*(i+1)=3*i+3 by omega];exact h1,by rw[show 3*(i+1)+1=3*i+1+3 by omega];exact h2,by rw[show 3*(i+1)+2=3*i+2+3 by omega];exact h3⟩
theorem zYX {l:List Pt} {i:Nat} {x:Pt} (h:l[i]? = some x):((ptC l).drop (i*3)).take 3=[.int .i64 x.b,x.row,.bool x.fresh]∧i*3+3≤(ptC l).length:=by
 have hl:=(List.getElem?_eq_some_iff.1 h).1;have e:l=l.take i++x::l.drop (i+1):=by
  conv=>lhs;rw[← List.take_append_drop i l,List.drop_eq_getElem_cons hl]
  rw[(List.getElem?_eq_some_iff.1 h).2]
 refine ⟨?_,by rw[zQF];omega⟩;rw[e,zWS,List.drop_left' (by rw[zQF,List.length_take];omega)];rfl
theorem prev_part {s:Gs} {B':List (Nat × EO)} {T c z b:Nat} {cs:List Cell} {ps:List Pt} {l:List TP} (hl:Chain p s c l) (hzl:z<l.length) (hps:PsV B' T ps ((l.take z).map zWM)) (hpl:0<ps.length) (hd:l.drop z=(b,cs)::l.drop (z+1)) :
  ∃ x cs0,ps[ps.length - 1]? = some x∧RowV B' T x.row cs0∧248 / c<cs0.length+cs.length∧cs0.length≤248 / c:=by
 have hlen:=hps.length;rw[List.length_map,List.length_take,Nat.min_eq_left (by omega)] at hlen
 obtain ⟨w,rfl⟩:∃ w,z=w+1:=⟨z - 1,by omega⟩;have hwl:w<l.length:=by omega
 have hd2:l.drop w=l[w]::l.drop (w+1):=List.drop_eq_getElem_cons hwl;have hch:=hl.drop w;rw[hd2] at hch
 obtain ⟨x,h1,_,_,h2⟩:=hps.get (i:=w) (y:=zWM l[w]) (by simp[hwl]);refine ⟨x,l[w].2,by rw[hlen];exact h1,h2,?_,hch.1.fill⟩;have:=hch.2.1;rw[hd] at this
 exact this
theorem yVB {B':List (Nat × EO)} {T d c z f:Nat} {w:Bool} {D:List UInt8} (hD:AtB B' T d (.cells (zQZ D) 5 z w f)):∀ (cs:List Cell) (o:Nat),(∀ x∈cs,x.length=c)→o+c*cs.length≤D.length→(D.drop o).take (c*cs.length)=cs.flatten→CellsV B' T (zNG d o c cs.length) cs
 | [],_,_,_,_=>trivial
 | x::cs,o,hx,ho,h=>by
   have hxl:=hx x (.head _);have e:zNG d o c (cs.length+1)=.slice (some ⟨d,o⟩) c c::zNG d (o+c) c cs.length:=by
    simp only[zNG,List.range_succ_eq_map,List.map_cons,List.map_map,Nat.mul_zero,Nat.add_zero]
    congr 1
    refine List.map_congr_left fun i _=>?_
    simp only[Function.comp_def,Nat.succ_eq_add_one,Nat.mul_add,Nat.mul_one]
    congr 2;congr 1;omega
   rw[List.length_cons,e];rw[List.length_cons,Nat.mul_succ] at ho h
   rw[List.flatten_cons] at h
   have h1:(D.drop o).take c=x:=by
    have:=congrArg (List.take c) h;rw[List.take_take,Nat.min_eq_left (by omega),List.take_left' hxl] at this
    exact this
   have h2:(D.drop (o+c)).take (c*cs.length)=cs.flatten:=by
    have:=congrArg (List.drop c) h;rw[List.drop_take,List.drop_drop,List.drop_left' hxl,Nat.add_sub_cancel] at this
    exact this
   refine ⟨⟨d,o,c,D,z,w,f,by rw[hxl],hD,by rw[hxl];omega,?_⟩,yVB hD cs (o+c) (fun y hy=>hx y (.tail _ hy)) (by omega) h2⟩;rw[hxl,h1]
theorem zHM (d o c j cap k:Nat) (h:d<k):zQX k (zDV d o c j cap):=by
 unfold zDV;split
 ·trivial
 ·rw[zQB];exact ⟨xZH d o c j k h,zVS _ _⟩
theorem rowsE_ren {π:Nat→Nat} (d o c j:Nat):zZG π (zNG d o c j)=zNG (π d) o c j:=by
 induction j with
 | zero=>rfl
 | succ j ih=>rw[zFK,zFK,zZT,ih];rfl
theorem xYB {π:Nat→Nat} (d o c j cap:Nat):zZG π (zDV d o c j cap)=zDV (π d) o c j cap:=by
 unfold zDV;split
 ·rfl
 ·rw[zZT,rowsE_ren,xQK]
theorem zJG (x:Pt):ptC [x]=[.int .i64 x.b,x.row,.bool x.fresh]:=rfl
theorem zZK (T n:Nat):zVW T (n+1)=.slice (some ⟨T,0⟩) (n+1) (n+1):=zWZ (by omega)
theorem zZV (T ty z:Nat) (l:List EV) (a b c:EV):zVY T (l++[a,b,c]) ty z=[(T,.cells (l++[a,b,c]) ty z true 0)]:=zXR (by simp)
theorem xTS (T ty z:Nat) (a b c:EV):zVY T [a,b,c] ty z=[(T,.cells [a,b,c] ty z true 0)]:=rfl
def Reg (t0:Nat) (B:List (Nat × EO)) (t c:Nat) (ps:List Pt) (l:List TP):Prop:=∀ (i:Nat) (x:Pt) (tp:TP),ps[i]? = some x→l[i]? = some tp→∃ r d next cap,(tp.2.length≤cap∧t0≤d)∧x.row=.slice (some ⟨r,0⟩) tp.2.length cap∧AtB B t r (.cells (zDV d 8 c tp.2.length cap) 56 0 true 0)∧AtB B t d (.cells (zQZ (zRS c next tp.2)) 5 0 true 0)
theorem Reg.mono {t0:Nat} {B B':List (Nat × EO)} {t t' c:Nat} (e:Ext B t B' t') {ps:List Pt} {l:List TP} (h:Reg t0 B t c ps l):Reg t0 B' t' c ps l:=fun i x tp h1 h2=>by
 obtain ⟨r,d,nn,cc,q0,q1,q2,q3⟩:=h i x tp h1 h2;exact ⟨r,d,nn,cc,q0,q1,q2.mono e,q3.mono e⟩
def yWT (B':List (Nat × EO)) (T c next cap:Nat) (cs:List Cell):List (Nat × EO):=(T,.cells (zQZ (zRS c next cs)) 5 0 true 0)::(T+1,.cells (zDV T 8 c cs.length cap) 56 0 true 0)::B'
theorem yGG {t0:Nat} {s:Gs} {B':List (Nat × EO)} {T c z b next cap:Nat} {cs:List Cell} {ps:List Pt} {l:List TP} [hS:StL p B' T] (hl:Chain p s c l) (hps:PsV B' T ps ((l.take z).map zWM)) (hin:PartIn p s c next b cs) (hd:l.drop z=(b,cs)::l.drop (z+1)) (hn:zWQ (l.drop (z+1))=next) (ht0:t0≤T) (hrg:Reg t0 B' T c ps (l.take z)) (hcap:cs.length≤cap) :
  StL p (yWT B' T c next cap cs) (T+2)∧Ext B' T (yWT B' T c next cap cs) (T+2)∧PsV (yWT B' T c next cap cs) (T+2) (ps++[⟨b,.slice (some ⟨T+1,0⟩) cs.length cap,false⟩]) ((l.take (z+1)).map zWM)∧Reg t0 (yWT B' T c next cap cs) (T+2) c (ps++[⟨b,.slice (some ⟨T+1,0⟩) cs.length cap,false⟩]) (l.take (z+1)):=by
 have hT:=hS.big;have hx:=StL.above (p:=p) (B:=B') (t:=T) (t':=T+2) (X:=[(T,.cells (zQZ (zRS c next cs)) 5 0 true 0),(T+1,.cells (zDV T 8 c cs.length cap) 56 0 true 0)]) (by omega) (by simp) (by simp[zWN,lkp]) (by simp[zHM T 8 c cs.length cap (T+2) (by omega)]);refine ⟨hx.1,hx.2,?_⟩;have e:l.take (z+1)=l.take z++[(b,cs)]:=by
  have hz:z<l.length:=by
   rcases Nat.lt_or_ge z l.length with h | h
   ·exact h
   ·rw[List.drop_of_length_le h] at hd;cases hd
  rw[List.take_succ]
  congr 1
  have:l[z]? = some (b,cs):=by
   have:=congrArg List.head? hd;rw[List.head?_drop] at this
   simpa using this
  rw[this];rfl
 have hlen:=hps.length;rw[List.length_map] at hlen
 rw[e,List.map_append];refine ⟨?_,fun i x tp hi1 hi2=>?_⟩
 rotate_left
 ·rcases Nat.lt_or_ge i ps.length with hip | hip
  ·rw[List.getElem?_append_left hip] at hi1
   rw[List.getElem?_append_left (by omega)] at hi2
   obtain ⟨r,d,nn,cc,q0,q1,q2,q3⟩:=hrg i x tp hi1 hi2;exact ⟨r,d,nn,cc,q0,q1,q2.mono hx.2,q3.mono hx.2⟩
  ·rw[List.getElem?_append_right hip] at hi1
   rw[List.getElem?_append_right (by omega),← hlen] at hi2
   have h0:i - ps.length=0:=by
    have:=(List.getElem?_eq_some_iff.1 hi1).1;simp at this;omega
   rw[h0] at hi1 hi2
   simp at hi1 hi2
   subst hi1 hi2;exact ⟨T+1,T,next,cap,⟨hcap,ht0⟩,rfl,⟨by omega,by omega,by simp[yWT,lkp]⟩,⟨by omega,by omega,by simp[yWT,lkp]⟩⟩
 refine PsV.append (hps.mono hx.2) ⟨⟨rfl,rfl,T+1,0,cap,zDV T 8 c cs.length cap,true,0,rfl,⟨by omega,by omega,by simp[yWT,lkp]⟩,⟨by rw[zBN _ _ _ hin.pos hcap];simpa [zWM] using hcap,hcap⟩,?_⟩,trivial⟩;simp only[zWM];rw[List.drop_zero,yYN _ _ _ hin.pos];have h1:=zHQ hin.len;have h2:=zRT (next:=next) hin.len hin.fill;have h3:=yRT hin.fill;refine yVB (D:=zRS c next cs) ⟨by omega,by omega,by simp[yWT,lkp];exact ⟨rfl,rfl,rfl⟩⟩ cs 8 hin.len (by omega) ?_;unfold zRS;rw[List.drop_left' (by simp),List.take_left' h1]
def OutV (B:List (Nat × EO)) (t:Nat) (v:EV) (ps:List Pt):Prop:=
 ∃ r,v=zVW r ps.length∧(ps ≠ []→AtB B t r (.cells (ptC ps) 262 3 true 0))∧r<t
theorem yPP (G:List Gl) (s:Gs) [Big t] [hS0:StL p B t] (hp:p.ok) (ho:s.over=false) (hr:ovl s.put 64 8=zU 8) (c:Nat) (hc1:1≤c) (hc2:c≤62) (l:List TP) (hl:Chain p s c l) (hn:l.length≤p.n) :
  EffR G Tryz.prog 136 [.ptr (some ⟨0,0⟩),.int .u32 (zWQ l),.int .i64 c] (gnd p s B) t (fun v bl nx=>∃ B' v1 ps,v=.tuple [v1,.int .i64 0]∧bl=gnd p s B'∧StL p B' nx∧Ext B t B' nx∧PsV B' nx ps (l.map zWM)∧OutV B' nx v1 ps∧Reg t B' nx c ps l):=by
 have h1:=hp.big;have h2:=hp.fit;refine EffR.enter fun Q hQ=>?_
 refine zQV 141 [.tmp 6,.tmp 7] Tryz.func136 ?_;have hroot:=root_c B G s hp ho hr;have hf:248 / c≤248:=Nat.div_le_self _ _;have hf4:4≤248 / c:=by rw[Nat.le_div_iff_mul_le (by omega)];omega
 have hfill:=fill_c G c hc1 hc2
 repeat' (first|refine zQQ 21778094686033998742530085058346812276423 ?_|refine zQW ?_|(refine stp ?_;simp only[go_sem])|(refine EffW.at (hroot ) [] rfl (by (simp;done)) ?_;(try simp only[go_sem]))|(refine Pure.at (hfill) (by simp) (by simp) rfl ?_;(try simp only[go_sem]))|(refine spl (fun h=>?_) (fun h=>?_)<;>first|omega|try simp only[go_sem,h])|fail)
 refine zQM (fun z:Nat × List Pt × List (Nat × EO) × Nat=>[(0,.ptr (some ⟨0,0⟩)),(1,.int .u32 (zWQ (l.drop z.1))),(2,.int .i64 c),(10,.int .i64 (248 / c:Nat)),(11,zVW z.2.2.2 z.2.1.length)]) (fun z:Nat × List Pt × List (Nat × EO) × Nat=>zVY z.2.2.2 (ptC z.2.1) 262 3++stB (zXG p s) z.2.2.1) (fun z:Nat × List Pt × List (Nat × EO) × Nat=>z.2.2.2+1) (fun z:Nat × List Pt × List (Nat × EO) × Nat=>z.1≤l.length∧StL p z.2.2.1 z.2.2.2∧Ext B t z.2.2.1 z.2.2.2∧PsV z.2.2.1 z.2.2.2 z.2.1 ((l.take z.1).map zWM)∧Reg t z.2.2.1 z.2.2.2 c z.2.1 (l.take z.1)) (fun z:Nat × List Pt × List (Nat × EO) × Nat=>l.length - z.1) ((0,[],B,t)) ?_ ?_ ?_ ?_ ?_
 ·rintro ⟨z,ps,B',T⟩ ⟨hz,hS,he,hps,hrg⟩
  haveI:=hS;have h3:t≤T:=he.le;refine ⟨by simp[zWP],?_,?_⟩
  ·rw[zXS (by simp) (zQJ (by simp) _ hps.below),Bg.blBelow];trivial
  ·show t≤T+1;omega
 ·exact ⟨Nat.zero_le _,hS0,Ext.refl _ _,trivial,fun i x tp h=>by simp at h⟩
 ·simp only[go_sem,zQS,List.length_nil,zWY]
 ·show zWG _ (stB (zXG p s) B);simp only[go_sem]
 ·rintro ⟨z,ps,B',T⟩ ⟨hz,hS,he,hps,hrg⟩
  simp only at hz hS he hps hrg ⊢
  haveI:=hS;haveI:Big T:=⟨hS.big⟩;have hlen:=hps.length;have h3:t≤T:=he.le
  rcases Nat.lt_or_ge z l.length with hzl | hzl
  ·obtain ⟨⟨b,cs⟩,hbc⟩:∃ x,l[z]? = some x:=⟨l[z],by simp[hzl]⟩;have hd:l.drop z=(b,cs)::l.drop (z+1):=by
    rw[List.drop_eq_getElem_cons hzl];congr 1;rw[List.getElem?_eq_getElem hzl] at hbc;simpa using hbc
   have hd0:=hd;have hch:=hl.drop z;rw[hd] at hch ⊢
   obtain ⟨hin,hnf,-⟩:=hch;have hbu:=hin.lt;have hpos:=hin.pos;have hfl:=hin.fill;have hdl:=zRT (next:=zWQ (l.drop (z+1))) hin.len hin.fill;have hnx32:zWQ (l.drop (z+1))<4294967296:=by
    have:=hl.drop (z+1)
    cases hq:l.drop (z+1) with
    | nil=>simp[zWQ]
    | cons y m=>rw[hq] at this;have:=this.1.lt;simp only[zWQ];omega
   have hrd:=xYD B' G s hp ho b hbu hin.use;rw[show ovl s.put (p.at_+256*b) 256=zRS c (zWQ (l.drop (z+1))) cs from hin.is] at hrd
   generalize hnxt:zWQ (l.drop (z+1))=next at *
   have k0:=take32_c G (zRS c next cs) [] 0 256 0 0 true (by omega) (by omega);have k4:=yJR G (zRS c next cs) [] 4 256 0 0 true (by omega) (by omega);have k6:=yJR G (zRS c next cs) [] 6 256 0 0 true (by omega) (by omega);rw[hdl,tbl_take0 c next cs hnx32 hdl,zWH,List.append_nil] at k0
   rw[hdl,tbl_take4 c next cs (by omega) hdl,zWH,List.append_nil] at k4
   rw[hdl,tbl_take6 c next cs (by omega) hdl,zWH,List.append_nil] at k6
   have e1:((b+1:Nat):Int) - 1=(b:Int):=by omega
   have hzn:ps.length≤p.n:=by rw[hlen];simp;omega
   repeat' (first|(simp (disch:=omega) only[zQK,e1])|refine zQQ 21778094686033998742530085058346812276423 ?_|refine zQW ?_|(refine stp ?_;simp only[go_sem,refOf_cons])|(refine EffW.at (hrd ) [] rfl (by (simp;done)) ?_;(try simp only[go_sem]))|(refine EffW.at (blocks_c (p:=p) B' G s ) [] rfl (by (simp;done)) ?_;(try simp only[go_sem]))|(refine Eff.at2 (k0 ) [T+1] rfl (by first|(simp;done)|fail) rfl ?_;(try simp only[go_sem]))|(refine Eff.at2 (k4 ) [T+1] rfl (by first|(simp;done)|fail) rfl ?_;(try simp only[go_sem]))|(refine Eff.at2 (k6 ) [T+1] rfl (by first|(simp;done)|fail) rfl ?_;(try simp only[go_sem]))|(simp only[go_sem])|(refine spl (fun h=>?_) (fun h=>?_)<;>first|omega|((try simp only[zZQ]);(try simp only[go_sem,h])))|fail)
   have hcl:c*cs.length≤248:=yRT hfl;refine zQM (fun z:Nat × Nat=>[(0,.ptr (some ⟨0,0⟩)),(2,.int .i64 c),(10,.int .i64 (248 / c:Nat)),(11,zVW T ps.length),(14,.int .u32 next),(20,.ptr (some ⟨T+2,0⟩)),(21,.slice (some ⟨T+1,8+c*z.1⟩) (248 - c*z.1) (248 - c*z.1)),(91,.int .u16 cs.length),(92,.int .u16 z.1)]) (fun z:Nat × Nat=>zVY (T+3) (zDV (T+1) 8 c z.1 z.2) 56 0++((T+2,.cells [.int .i64 b,accX (T+3) z.1 z.2,.bool false] 262 0 true 0)::(T+1,.cells (zQZ (zRS c next cs)) 5 0 true 0)::(zVY T (ptC ps) 262 3++stB (zXG p s) B'))) (fun z:Nat × Nat=>T+4) (fun z:Nat × Nat=>z.1≤cs.length∧(z.1≤z.2)) (fun z:Nat × Nat=>cs.length - z.1) ((0,0)) ?_ ?_ ?_ ?_ ?_
   ·rintro ⟨j,cap⟩ ⟨hj,hjc⟩
    refine ⟨by simp[zWP],?_,by show t≤T+4;omega⟩;rw[zXS (by simp) (zHM _ _ _ _ _ _ (by omega))];simp[zQJ (show T≤T+4 by omega) _ hps.below,accX_bel]
   ·exact ⟨Nat.zero_le _,Nat.le_refl _⟩
   ·simp only[go_sem,zQS]
   ·show zWG _ ((T+2,_)::_);simp only[go_sem,zWG,xXN]
   ·rintro ⟨j,cap⟩ ⟨hj,hjc⟩
    simp only at hj hjc ⊢
    have hpb:∀ i,zQX (T+i) (ptC ps)=True:=fun i=>eq_true (zQJ (Nat.le_add_right _ _) _ hps.below)
    have hrp:∀ i q,zZG (nam (T+i) q) (ptC ps)=ptC ps:=fun i q=>zWB hps.below
    have hrb:∀ j cap,zQX (T+4) (zDV (T+1) 8 c j cap)=True:=fun j cap=>eq_true (zHM _ _ _ _ _ _ (by omega))
    have hrx:∀ q j cap,zZG (nam (T+3) q) (zDV (T+1) 8 c j cap)=zDV (T+1) 8 c j cap:=fun q j cap=>zWB (i:=0) (zHM _ _ _ _ _ _ (by omega))
    rcases Nat.lt_or_ge j cs.length with hjl | hjl
    ·have m1:c*(j+1)=c*j+c:=Nat.mul_succ c j;have m2:c*(j+1)≤c*cs.length:=Nat.mul_le_mul_left c hjl;have m3:8+c*j+c=8+c*(j+1):=by omega
     have m4:248 - c*j - c=248 - c*(j+1):=by omega
     have hacc:∀ cX,zVY (T+3) (zDV (T+1) 8 c (j+1) cX) 56 0=[(T+3,.cells (zDV (T+1) 8 c (j+1) cX) 56 0 true 0)]:=fun cX=>zXR (by rw[zBB _ _ _ (by omega),List.length_append,zYW];omega)
     have hace:∀ cX,accX (T+3) (j+1) cX=.slice (some ⟨T+3,0⟩) (j+1) cX:=fun cX=>yFS (by omega)
     rcases j with _ | j
     ·rw[Nat.zero_add] at hacc hace
      have hr1:∀ cX,EV.slice (some ⟨T+1,8⟩) c c::zYH (cX - 1)=zDV (T+1) 8 c 1 cX:=fun cX=>rfl
      repeat' (first|(refine zVG ?_;unfold zJN;simp only[go_sem])|refine zQQ 21778094686033998742530085058346812276423 ?_|refine zQW ?_|(refine stp ?_;simp only[go_sem,rowX_zero,zVT,xXN])|(refine zWV (id:=21) mixed [(0,[]),(2,[]),(3,[]),(4,[]),(1,[]),(5,[]),(6,[]),(7,[]),(8,[]),(9,[])] (by kernel_rfl) ?_;simp only[go_sem])|(refine fun cX hX=>?_)|(simp (disch:=omega) only[zYP])|(refine spl (fun h=>?_) (fun h=>?_)<;>first|omega|try simp only[go_sem,h])|(refine zQT ?_ ?_;focus omega))
      (refine ⟨(1,cX),T+3,[T+14],?_,?_,rfl,rfl,?_,⟨?_,rfl,?_,?_,?_,?_,?_⟩⟩;rotate_left;(focus (simp only[];omega));(focus (simp only[go_sem,zQS]));(focus (omega));(focus simp);(focus (simp));(focus (simp only[];omega));(focus (simp[hacc,hace,hrb,hpb]));(focus (simp[hacc,hace,hrp,hrx,hr1]));(try simp only[]))
      exact ⟨hjl,hX⟩
     ·have hrl:=zBN (T+1) 8 c (j:=j+1) (cap:=cap) (by omega) hjc;have htk:=yYN (T+1) 8 c (j:=j+1) (cap:=cap) (by omega);have hac0:zVY (T+3) (zDV (T+1) 8 c (j+1) cap) 56 0=[(T+3,.cells (zDV (T+1) 8 c (j+1) cap) 56 0 true 0)]:=zXR (by rw[hrl];omega);have hae0:accX (T+3) (j+1) cap=.slice (some ⟨T+3,0⟩) (j+1) cap:=yFS (by omega);rw[hac0,hae0];rw[show j+1+1=j+2 from rfl] at hacc hace m3 m4
      rcases Nat.lt_or_ge (j+1) cap with hjcap | hjcap
      ·have hput:=rowX_put (T+1) 8 c (j:=j+1) (cap:=cap) (by omega) hjcap;rw[show j+1+1=j+2 from rfl] at hput
       repeat' (first|(refine zVG ?_;unfold zJN;simp only[go_sem,hrl,hput])|refine zQQ 21778094686033998742530085058346812276423 ?_|refine zQW ?_|(refine stp ?_;simp only[go_sem,m3,m4])|(refine zWV (id:=21) mixed [(0,[]),(2,[]),(3,[]),(4,[]),(1,[]),(5,[]),(6,[]),(7,[]),(8,[]),(9,[])] (by kernel_rfl) ?_;simp only[go_sem])|(simp (disch:=omega) only[zYP])|(refine spl (fun h=>?_) (fun h=>?_)<;>first|omega|try simp only[go_sem,h])|(refine zQT ?_ ?_;focus omega))
       (refine ⟨(j+2,cap),T+3,[T+3],?_,?_,rfl,rfl,?_,⟨?_,rfl,?_,?_,?_,?_,?_⟩⟩;rotate_left;(focus (simp only[];omega));(focus ((try simp only[go_sem,zQS]);((repeat' apply And.intro)<;>(rfl))));(focus (omega));(focus simp);(focus (simp));(focus (simp only[];omega));(focus (simp[hacc,hace,hrb,hpb]));(focus (simp[hacc,hace,hrp,hrx]));(try simp only[]))
       exact ⟨hjl,hjcap⟩
      ·have hr1:∀ cX,zNG (T+1) 8 c (j+1)++EV.slice (some ⟨T+1,8+c*(j+1)⟩) c c::zYH (cX - (j+2))=zDV (T+1) 8 c (j+2) cX:=fun cX=>by
        rw[zBB _ _ _ (by omega),zFK (T+1) 8 c (j+1),List.append_assoc];rfl
       repeat' (first|(refine zVG ?_;unfold zJN;simp only[go_sem,hrl,htk])|refine zQQ 21778094686033998742530085058346812276423 ?_|refine zQW ?_|(refine stp ?_;simp only[go_sem,m3,m4])|(refine zWV (id:=21) mixed [(0,[]),(2,[]),(3,[]),(4,[]),(1,[]),(5,[]),(6,[]),(7,[]),(8,[]),(9,[])] (by kernel_rfl) ?_;simp only[go_sem])|(refine fun cX hX=>?_)|(simp (disch:=omega) only[zYP])|(refine spl (fun h=>?_) (fun h=>?_)<;>first|omega|try simp only[go_sem,h])|(refine zQT ?_ ?_;focus omega))
       all_goals (skip)
       (refine ⟨(j+2,cX),T+3,[T+14],?_,?_,rfl,rfl,?_,⟨?_,rfl,?_,?_,?_,?_,?_⟩⟩;rotate_left;(focus (simp only[];omega));(focus ((try simp only[go_sem,zQS]);((repeat' apply And.intro)<;>(rfl))));(focus (omega));(focus simp);(focus (simp));(focus (simp only[];omega));(focus (simp[hacc,hace,hrb,hpb]));(focus (simp[hacc,hace,hrp,hrx,hr1]));(try simp only[]))
       exact ⟨hjl,hX⟩
    ·obtain rfl:j=cs.length:=by omega
     have hcap:=hjc;rw[zXR (b:=T+3) (by rw[zBN _ _ _ (by omega) hjc];omega),yFS (b:=T+3) (by omega),List.cons_append,List.nil_append]
     repeat' (first|refine zQQ 21778094686033998742530085058346812276423 ?_|refine zQW ?_|(refine stp ?_;simp only[go_sem])|(refine spl (fun h=>?_) (fun h=>?_)<;>first|omega|try simp only[go_sem,h])|fail)
     refine zWK (fun i:Nat=>[(0,.ptr (some ⟨0,0⟩)),(2,.int .i64 c),(10,.int .i64 (248 / c:Nat)),(11,zVW T ps.length),(14,.int .u32 next),(20,.ptr (some ⟨T+2,0⟩)),(107,.slice (some ⟨T+1,8+c*cs.length⟩) (248 - c*cs.length) (248 - c*cs.length)),(108,.int .i64 (248 - c*cs.length:Nat)),(109,.int .i64 i)]) (fun i:Nat=>(T+3,.cells (zDV (T+1) 8 c cs.length cap) 56 0 true 0)::(T+2,.cells [.int .i64 b,.slice (some ⟨T+3,0⟩) cs.length cap,.bool false] 262 0 true 0)::(T+1,.cells (zQZ (zRS c next cs)) 5 0 true 0)::(zVY T (ptC ps) 262 3++stB (zXG p s) B')) (fun i:Nat=>T+4) (fun i:Nat=>i≤248 - c*cs.length) (fun i:Nat=>248 - c*cs.length - i) (0) (fun z hz=>⟨by simp[zWP],by simp[hpb,hrb],by show t≤T+4;omega⟩) (by omega) (by simp only[go_sem,zQS];done) ?_ ?_
     ·simp only[go_sem,zWG]
     ·intro i hi
      rcases Nat.lt_or_ge i (248 - c*cs.length) with hil | hil
      ·have hz0:=tblB_zero (next:=next) hin.len hfl i hil
       repeat' (first|refine zQQ 21778094686033998742530085058346812276423 ?_|refine zQW ?_|(refine stp ?_;simp only[go_sem,hz0])|(simp (disch:=omega) only[zQK])|(refine spl (fun h=>?_) (fun h=>?_)<;>first|omega|try simp only[go_sem,h])|(refine zQT ?_ ?_;focus omega))
       (refine ⟨(i+1),?_,?_,rfl,rfl,?_,?_⟩;rotate_left;(focus (simp only[];omega));(focus ((try simp only[go_sem,zQS]);((repeat' apply And.intro)<;>(rfl))));(focus (simp only[go_sem,zWG]));(try simp only[]))
       omega
      ·obtain rfl:i=248 - c*cs.length:=by omega
       have hrp0:∀ q,zZG (nam T q) (ptC ps)=ptC ps:=fun q=>zWB (i:=0) hps.below
       have hrb2:∀ j,zQX (T+3) (zDV T 8 c j cap)=True:=fun j=>eq_true (zHM _ _ _ _ _ _ (by omega))
       by_cases hp0:ps=[]
       ·subst hp0;rw[show ptC []=[] from rfl,zVT,List.length_nil,zWY,List.nil_append]
        repeat' (first|refine zQQ 21778094686033998742530085058346812276423 ?_|(refine stp ?_;simp only[go_sem])|(refine zWV (id:=31) mixed [(0,[]),(1,[]),(2,[]),(3,[]),(4,[]),(5,[]),(6,[]),(7,[]),(10,[]),(14,[]),(8,[]),(9,[]),(11,[]),(12,[]),(13,[]),(15,[]),(16,[])] (by kernel_rfl) ?_;simp only[go_sem])|(refine spl (fun h=>?_) (fun h=>?_)<;>first|omega|try simp only[go_sem,h])|fail)
        have hN:=yGG (ps:=[]) (z:=z) hl hps hin hd0 hnxt h3 hrg hcap
        (refine ⟨(z+1,[]++[⟨b,.slice (some ⟨T+1,0⟩) cs.length cap,false⟩],yWT B' T c next cap cs,T+2),T,[T+1,T+3,T+22],?_,?_,rfl,rfl,?_,⟨?_,rfl,?_,?_,?_,?_,?_⟩⟩;rotate_left;(focus (simp only[];omega));(focus (simp only[go_sem,zQS,hnxt,zZK]));(focus (omega));(focus simp);(focus (simp));(focus (simp only[];omega));(focus (simp[Nat.add_assoc,yWT,zJG,xTS,hrb2]));(focus (simp[yWT,zJG,xTS,xYB]));(try simp only[]))
        exact ⟨hzl,hN.1,he.trans hN.2.1,hN.2.2⟩
       ·have hpl:0<ps.length:=List.length_pos_iff.2 hp0;have hpc:(ptC ps).length=ps.length*3:=by rw[zQF,Nat.mul_comm]
        obtain ⟨x,cs0,hx1,hx2,hx3,hx5⟩:=prev_part hl hzl hps hpl hd0;obtain ⟨r0,o0,cap0,C0,w0,f0,hxr,hx4⟩:=hx2;have hg1:=(zGQ hx1).2.1;rw[hxr,show 3*(ps.length - 1)+1=(ps.length - 1)*3+1 by omega] at hg1
        rw[zXR (b:=T) (by omega),zWZ (b:=T) hpl,List.cons_append,List.nil_append];have i1:((ps.length:Int) - 1).toNat=ps.length - 1:=by omega
        have i2:(ps.length - 1)*3+3≤ps.length*3:=by omega
        have i3:List.take (ps.length*3) (ptC ps)=ptC ps:=List.take_of_length_le (by omega)
        repeat' (first|refine zQQ 21778094686033998742530085058346812276423 ?_|(refine stp ?_;simp only[go_sem,i3,hpc])|(refine zWV (id:=31) mixed [(0,[]),(1,[]),(2,[]),(3,[]),(4,[]),(5,[]),(6,[]),(7,[]),(10,[]),(14,[]),(8,[]),(9,[]),(11,[]),(12,[]),(13,[]),(15,[]),(16,[])] (by kernel_rfl) ?_;simp only[go_sem])|(simp only[go_sem,i1,hg1])|(simp (disch:=omega) only[zQK])|(refine spl (fun h=>?_) (fun h=>?_)<;>first|omega|((try simp only[zKN]);(try simp only[go_sem,h])))|(refine zQT ?_ ?_;focus omega))
        have hN:=yGG (ps:=ps) (z:=z) hl hps hin hd0 hnxt h3 hrg hcap
        (refine ⟨(z+1,ps++[⟨b,.slice (some ⟨T+1,0⟩) cs.length cap,false⟩],yWT B' T c next cap cs,T+2),T,[T+1,T+3,T+22],?_,?_,rfl,rfl,?_,⟨?_,rfl,?_,?_,?_,?_,?_⟩⟩;rotate_left;(focus (simp only[];omega));(focus (simp only[go_sem,zQS,hnxt,zZK,List.length_append]));(focus (omega));(focus simp);(focus (simp));(focus (simp only[];omega));(focus (simp[Nat.add_assoc,yWT,zWS,zJG,zZV,hpb,hrb2]));(focus (simp[yWT,zWS,zJG,zZV,xYB,hrp0]));(try simp only[]))
        exact ⟨hzl,hN.1,he.trans hN.2.1,hN.2.2⟩
  ·obtain rfl:z=l.length:=by omega
   rw[List.drop_length]
   repeat' (first|refine zQQ 21778094686033998742530085058346812276423 ?_|(refine stp ?_;simp only[go_sem,refOf_nil])|fail)
   have hx:=StL.above (p:=p) (B:=B') (t':=T+1) (X:=zVY T (ptC ps) 262 3) (Nat.le_succ _) (zST (Nat.le_refl _)) yGF (yKX (by simp) (zQJ (Nat.le_succ _) _ hps.below));rw[← zTN];haveI:=hx.1;refine zWX hQ ?_ (Bg.below (t:=T+1)) ?_ ⟨_,_,ps,rfl,rfl,hx.1,he.trans hx.2,?_,⟨T,rfl,fun hne=>⟨hS.big,by simp,?_⟩,by simp⟩,?_⟩
   ·have h3:t≤T:=he.le;omega
   ·simp[EV.bel]
   ·have:=hps.mono hx.2
    rwa [List.take_length] at this
   ·rw[zXR (by rw[zQF];have:=List.length_pos_iff.2 hne;omega)];simp[lkp]
   ·rw[List.take_length] at hrg
    exact hrg.mono hx.2
end
section
variable {p:Gp} (B:List (Nat × EO)) {t:Nat}
def RowA (B:List (Nat × EO)) (t:Nat) (v:EV) (n:Nat) (c:List EV) (ty k:Nat):Prop:=
 ∃ r,v=zVW r n∧c.length=n*k∧r<t∧(n ≠ 0→AtB B t r (.cells c ty k true 0))
theorem RowA.cast {B:List (Nat × EO)} {t n n' ty k:Nat} {v:EV} {c c':List EV} (h:RowA B t v n c ty k) (hn:n=n') (hc:c=c'):RowA B t v n' c' ty k:=hn ▸ hc ▸ h
theorem Chain.lens {s:Gs} {c:Nat}:∀ {l:List TP},Chain p s c l→∀ x∈l,∀ y∈x.2,y.length=c
 | _::_,h,x,hx=>by
   cases hx with
   | head=>exact h.1.len
   | tail _ hx=>exact Chain.lens h.2.2 x hx
theorem Chain.fills {s:Gs} {c:Nat}:∀ {l:List TP},Chain p s c l→∀ x∈l,x.2.length≤248
 | _::_,h,x,hx=>by
   cases hx with
   | head=>exact Nat.le_trans h.1.fill (Nat.div_le_self _ _)
   | tail _ hx=>exact Chain.fills h.2.2 x hx
theorem zFB:∀ {l:List TP},(∀ x∈l,x.2.length≤248)→(l.flatMap (·.2)).length≤248*l.length
 | [],_=>by simp
 | x::l,h=>by
   have h1:=h x (.head _);have h2:=zFB fun y hy=>h y (.tail _ hy)
   rw[List.flatMap_cons,List.length_append,List.length_cons];omega
theorem zBT (T ty z:Nat) (l:List EV) (a:EV):zVY T (l++[a]) ty z=[(T,.cells (l++[a]) ty z true 0)]:=zXR (by simp)
theorem zRJ {B':List (Nat × EO)} {T ty k n:Nat} {c:List EV} [hS:StL p B' T] (hc:zQX (T+1) c) (hn:c.length=n*k) (hk:0<k) :
  StL p (zVY T c ty k++B') (T+1)∧Ext B' T (zVY T c ty k++B') (T+1)∧RowA (zVY T c ty k++B') (T+1) (zVW T n) n c ty k:=by
 have hx:=StL.above (p:=p) (B:=B') (t':=T+1) (X:=zVY T c ty k) (Nat.le_succ _) (zST (Nat.le_refl _)) yGF (yKX (by simp) hc);refine ⟨hx.1,hx.2,T,rfl,hn,by omega,fun h0=>⟨hS.big,by omega,?_⟩⟩;rw[zXR (by rw[hn];exact Nat.mul_pos (by omega) hk)];simp[lkp]
def xJV (ps:List Pt) (i:Nat):List EV:=(ps.take i).map fun x=>.int .i64 x.b
theorem blkE_succ {ps:List Pt} {i:Nat} {x:Pt} (h:ps[i]? = some x):xJV ps i++[.int .i64 x.b]=xJV ps (i+1):=by
 unfold xJV;rw[List.take_succ,h,List.map_append];rfl
theorem yTM {ps:List Pt} {i:Nat} (h:i≤ps.length):(xJV ps i).length=i:=by simp[xJV];omega
theorem yKW (ps:List Pt) (i k:Nat):zQX k (xJV ps i):=zTZ fun v hv=>by
 simp only[xJV,List.mem_map] at hv
 obtain ⟨_,_,rfl⟩:=hv;trivial
theorem blkE_ren (ps:List Pt) (i:Nat) (π:Nat→Nat):zZG π (xJV ps i)=xJV ps i:=by
 unfold xJV;generalize ps.take i=l
 induction l with
 | nil=>rfl
 | cons x l ih=>simp only[List.map_cons,zZG,ih];rfl
theorem PsV.get2 {B:List (Nat × EO)} {t:Nat} {l:List Pt} {m:List PL} (h:PsV B t l m) {i:Nat} (hi:i<l.length):∃ x y,l[i]? = some x∧m[i]? = some y∧x.b=y.b∧x.fresh=y.fresh∧RowV B t x.row y.cs:=by
 have hm:i<m.length:=by rw[← h.length];exact hi
 obtain ⟨x,h1,h2⟩:=h.get (i:=i) (y:=m[i]) (by simp[hm]);exact ⟨x,m[i],h1,by simp[hm],h2⟩
theorem PsV.blocks {B:List (Nat × EO)} {t:Nat}:∀ {l:List Pt} {m:List TP},PsV B t l (m.map zWM)→(l.map fun x=>EV.int .i64 x.b)=m.map fun x=>.int .i64 x.1
 | [],[],_=>rfl
 | x::l,y::m,h=>by
   have e:=h.1.1;simp only[List.map_cons,PsV.blocks h.2,e];rfl
 | [],_::_,h=>h.elim
 | _::_,[],h=>h.elim
theorem tblocks_c (G:List Gl) (s:Gs) [Big t] [hS0:StL p B t] (hp:p.ok) (ho:s.over=false) (hr:ovl s.put 64 8=zU 8) (c:Nat) (hc1:1≤c) (hc2:c≤62) (l:List TP) (hl:Chain p s c l) (hn:l.length≤p.n) :
  EffR G Tryz.prog 110 [.ptr (some ⟨0,0⟩),.int .u32 (zWQ l),.int .i64 c] (gnd p s B) t (fun v bl nx=>∃ B' v1,v=.tuple [v1,.int .i64 0]∧bl=gnd p s B'∧StL p B' nx∧Ext B t B' nx∧RowA B' nx v1 l.length (l.map fun x=>.int .i64 x.1) 3 1):=by
 have h1:=hp.big;have h2:=hp.fit;refine EffR.enter fun Q hQ=>?_
 refine zQV 34 [.tmp 6,.tmp 7] Tryz.func110 ?_
 repeat' (first|refine zQQ 15734727 ?_|(refine stp ?_;simp only[go_sem])|fail)
 refine EffR.at (yPP B G s hp ho hr c hc1 hc2 l hl hn) ?_
 rintro v bl nx ⟨B1,v1,ps,rfl,rfl,hS1,he1,hps,⟨r,rfl,hat,hrn⟩,hreg⟩
 haveI:=hS1;haveI:Big nx:=⟨hS1.big⟩;have hlen:ps.length=l.length:=by rw[hps.length,List.length_map]
 have h3:=he1.le;simp only[go_sem]
 repeat' (first|refine zQQ 15734727 ?_|refine zQW ?_|(refine stp ?_;simp only[go_sem])|fail)
 refine zQM (fun i:Nat=>[(9,.int .i64 0),(10,zVW nx i),(20,zVW r ps.length),(21,.int .i64 ps.length),(22,.int .i64 i)]) (fun i:Nat=>zVY nx (xJV ps i) 3 1++stB (zXG p s) B1) (fun i:Nat=>nx+1) (fun i:Nat=>i≤ps.length) (fun i:Nat=>ps.length - i) (0) ?_ ?_ ?_ ?_ ?_
 ·intro i hi;refine ⟨by simp[zWP,show r<nx+1 by omega],?_,by show t≤nx+1;omega⟩;rw[zXS (by simp) (yKW _ _ _),Bg.blBelow];trivial
 ·exact Nat.zero_le _
 ·simp only[go_sem,zQS,zWY]
 ·show zWG _ (stB (zXG p s) B1);simp only[go_sem]
 ·intro i hi;simp only at hi ⊢
  rcases Nat.lt_or_ge i ps.length with hil | hil
  ·have hA:=(hat (List.ne_nil_of_length_pos (by omega))).f (p:=p);obtain ⟨x,y,hx,-,-,-,r0,o0,cap0,C0,w0,f0,hxr,-⟩:=hps.get2 hil;have hpc:=zQF ps;have hs:=blkE_succ hx;have hg:=zGQ hx;have hg3:=zYX hx;rw[hxr] at hg3
   have hbl:=yTM hi;have hren:=blkE_ren ps (i+1);have hbb:=fun k=>eq_true (yKW ps (i+1) k)
   have hae:=zWZ (b:=r) (n:=ps.length) (by omega);rw[hae]
   repeat' (first|refine zQQ 15734727 ?_|refine zQW ?_|(refine stp ?_;simp only[go_sem,hA,hg3])|(refine zJJ (c:=xJV ps i) (by omega) (by first|(simp[hbl];done)|fail) (by first|(simp;done)|fail) (by first|(simp;done)|fail) (by omega) (by first|(simp;done)|fail) (by first|(simp[EV.one];done)|fail) (by simp;omega) ?_;(try simp only[go_sem,hs]))|(simp (disch:=omega) only[zQK])|(refine spl (fun h=>?_) (fun h=>?_)<;>first|omega|try simp only[go_sem,h])|(refine zQT ?_ ?_;focus omega))
   (refine ⟨i+1,nx,[nx+3],?_,?_,rfl,rfl,?_,⟨?_,rfl,?_,?_,?_,?_,?_⟩⟩;rotate_left;(focus (simp only[];omega));(focus (simp[go_sem,zQS,zZK,hrn]));(focus (omega));(focus simp);(focus (simp));(focus (simp only[];omega));(focus (simp[hbb]));(focus (simp[hren]));(try simp only[]))
   exact hil
  ·obtain rfl:i=ps.length:=by omega
   repeat' (first|refine zQQ 15734727 ?_|(refine stp ?_;simp only[go_sem])|(refine spl (fun h=>?_) (fun h=>?_)<;>first|omega|try simp only[go_sem,h])|fail)
   have hbl:=yTM hi;have hx:=zRJ (p:=p) (B':=B1) (T:=nx) (ty:=3) (k:=1) (n:=ps.length) (c:=xJV ps ps.length) (yKW _ _ _) (by omega) (by omega);haveI:=hx.1;have he:xJV ps ps.length=l.map fun x=>.int .i64 x.1:=by
    unfold xJV;rw[List.take_length];exact hps.blocks
   rw[← zTN];refine zWX hQ (by omega) (Bg.below (t:=nx+1)) (by simp[EV.bel]) ⟨_,_,rfl,rfl,hx.1,he1.trans hx.2.1,?_⟩;exact hx.2.2.cast hlen he
end
end Go.Proofs.YtncphnpndkjkaaaGreatDoor
