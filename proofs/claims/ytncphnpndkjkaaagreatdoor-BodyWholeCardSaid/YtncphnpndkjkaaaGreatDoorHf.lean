/-
  Own work: a part of the proof that the last text closes.
-/
import Derived.Test.YtncphnpndkjkaaaGreatDoorHe
namespace Go.Proofs.YtncphnpndkjkaaaGreatDoor
open Go.E
set_option linter.all false
set_option maxRecDepth 100000
set_option maxHeartbeats 16000000
section
variable {p:Gp} (B:List (Nat × EO)) {t:Nat}
end
section
variable {p:Gp} (B:List (Nat × EO)) {t:Nat}
theorem equal_o (G:List Gl) (A C a b:List UInt8) (o1 o2 z1 f1 z2 f2 c1 c2:Nat) (w1 w2:Bool) (hA:(A.drop o1).take a.length=a) (hC:(C.drop o2).take b.length=b) (hal:o1+a.length≤A.length) (hbl:o2+b.length≤C.length) (ha:a.length≤70000000) (hb:b.length≤70000000):Eff G Tryz.prog 182 [.slice (some ⟨0,o1⟩) a.length c1,.slice (some ⟨1,o2⟩) b.length c2] [(0,.cells (zQZ A) 5 z1 w1 f1),(1,.cells (zQZ C) 5 z2 w2 f2)] 2 (.bool (decide (a=b))) [(0,.cells (zQZ A) 5 z1 w1 f1),(1,.cells (zQZ C) 5 z2 w2 f2)] 2:=by
 unfold Eff;refine zQV 10 [.tmp 4] Tryz.func182 ?_
 repeat' (first|refine zQQ 19 ?_|(refine stp ?_;simp only[go_sem,zZP,zVQ,hA,hC,zQY,hal,hbl])|fail)
 exact zWW [] (by simp) (by simp) (by simp) (by simp) (by simp) (by simp) rfl (by simp) (by simp)
section
variable {B:List (Nat × EO)} {T d z f:Nat} {w:Bool} {D D':List UInt8}
theorem bytesE_inj {a b:List UInt8} (h:zQZ a=zQZ b):a=b:=by
 unfold zQZ at h
 exact List.map_inj_right (f:=fun x:UInt8=>EV.int .u8 x.toNat) (fun x y hxy=>by
  simp only[EV.int.injEq,true_and] at hxy
  exact UInt8.toNat_inj.1 (by omega)) |>.1 h
theorem AtB.turn_ne (hd:AtB B T d (.cells (zQZ D) 5 z w f)) {b:Nat} {o:EO} (hb:AtB B T b o) (hne:b ≠ d):AtB (setL B d (.cells (zQZ D') 5 z w f)) T b o:=⟨hb.hi,hb.lt,by rw[zWF,if_neg (Ne.symm hne)];exact hb.lk⟩
theorem AtB.turn (hd:AtB B T d (.cells (zQZ D) 5 z w f)):AtB (setL B d (.cells (zQZ D') 5 z w f)) T d (.cells (zQZ D') 5 z w f):=⟨hd.hi,hd.lt,by rw[zWF,if_pos rfl,hd.lk];rfl⟩
theorem AtB.uniq {b:Nat} {o o':EO} (h:AtB B T b o) (k:AtB B T b o'):o=o':=Option.some.inj (h.lk.symm.trans k.lk)
theorem CellV.turn (hd:AtB B T d (.cells (zQZ D) 5 z w f)) (hl:D'.length=D.length) {v:EV} {c:Cell} (h:CellV B T v c):∃ c':Cell,CellV (setL B d (.cells (zQZ D') 5 z w f)) T v c'∧c'.length=c.length:=by
 obtain ⟨d2,o,cap,D2,z2,w2,f2,h1,h2,h3,h4⟩:=h
 by_cases e:d2=d
 ·subst e;have hu:=h2.uniq hd;have e2:D2=D:=bytesE_inj (by injection hu);subst e2;have e3:((D'.drop o).take c.length).length=c.length:=by rw[List.length_take,List.length_drop];omega
  exact ⟨(D'.drop o).take c.length,⟨d2,o,cap,D',z,w,f,by rw[e3];exact h1,hd.turn,by rw[e3];omega,by rw[e3]⟩,e3⟩
 ·exact ⟨c,⟨d2,o,cap,D2,z2,w2,f2,h1,hd.turn_ne h2 e,h3,h4⟩,rfl⟩
theorem CellsV.turn (hd:AtB B T d (.cells (zQZ D) 5 z w f)) (hl:D'.length=D.length):∀ {vs:List EV} {cs:List Cell},CellsV B T vs cs→∃ cs',CellsV (setL B d (.cells (zQZ D') 5 z w f)) T vs cs'∧cs'.length=cs.length
 | [],[],_=>⟨[],trivial,rfl⟩
 | _::_,_::_,h=>by
   obtain ⟨c',h1,-⟩:=CellV.turn hd hl h.1;obtain ⟨cs',h2,h3⟩:=CellsV.turn hd hl h.2;exact ⟨c' :: cs',⟨h1,h2⟩,by simp[h3]⟩
 | [],_::_,h=>h.elim
 | _::_,[],h=>h.elim
theorem RowV.turn (hd:AtB B T d (.cells (zQZ D) 5 z w f)) (hl:D'.length=D.length) {v:EV} {cs:List Cell} (h:RowV B T v cs):∃ cs',RowV (setL B d (.cells (zQZ D') 5 z w f)) T v cs'∧cs'.length=cs.length:=by
 obtain ⟨r,o,cap,C,w2,f2,h1,h2,h3,h4⟩:=h;obtain ⟨cs',h5,h6⟩:=CellsV.turn hd hl h4;refine ⟨cs',⟨r,o,cap,C,w2,f2,by rw[h6];exact h1,hd.turn_ne h2 (fun e=>?_),by rw[h6];exact h3,by rw[h6];exact h5⟩,h6⟩;subst e;have:=h2.uniq hd;simp at this
theorem PsV.turn (hd:AtB B T d (.cells (zQZ D) 5 z w f)) (hl:D'.length=D.length):∀ {l:List Pt} {m:List PL},PsV B T l m→∃ m',PsV (setL B d (.cells (zQZ D') 5 z w f)) T l m'∧m'.map (·.b)=m.map (·.b)
 | [],[],_=>⟨[],trivial,rfl⟩
 | x::_,y::_,h=>by
   obtain ⟨cs',h1,-⟩:=RowV.turn hd hl h.1.2.2;obtain ⟨m',h2,h3⟩:=PsV.turn hd hl h.2;exact ⟨⟨y.b,cs',y.fresh⟩::m',⟨⟨h.1.1,h.1.2.1,h1⟩,h2⟩,by simp[h3]⟩
 | [],_::_,h=>h.elim
 | _::_,[],h=>h.elim
theorem PsV.swap {B':List (Nat × EO)} {T:Nat}:∀ {l:List Pt} {m:List PL} (_:PsV B' T l m) {i:Nat} {x:Pt} {y:PL} (_:l[i]? = some x) (_:m[i]? = some y) {cs:List Cell} (_:RowV B' T x.row cs),PsV B' T l (m.set i ⟨y.b,cs,y.fresh⟩)
 | _::_,_::_,h,0,x,y,h1,h2,cs,hr=>by
   simp at h1 h2;subst h1 h2
   exact ⟨⟨h.1.1,h.1.2.1,hr⟩,h.2⟩
 | _::_,_::_,h,i+1,x,y,h1,h2,cs,hr=>⟨h.1,PsV.swap h.2 (by simpa using h1) (by simpa using h2) hr⟩
 | [],_,h,i,x,y,h1,_,_,_=>by simp at h1
 | _::_,[],h,_,_,_,_,_,_,_=>h.elim
theorem OutV.turn (hd:AtB B T d (.cells (zQZ D) 5 z w f)) {v:EV} {ps:List Pt} (h:OutV B T v ps):OutV (setL B d (.cells (zQZ D') 5 z w f)) T v ps:=by
 obtain ⟨r,h1,h2,h3⟩:=h;refine ⟨r,h1,fun hn=>hd.turn_ne (h2 hn) (fun e=>?_),h3⟩;subst e;have:=(h2 hn).uniq hd;simp at this
theorem StL.turn [h:StL p B T] (hd:AtB B T d (.cells (zQZ D) 5 z w f)) (hz:(z:Nat)=0):StL p (setL B d (.cells (zQZ D') 5 z w f)) T where
 bg:=⟨zRB (o:=.cells (zQZ D') 5 z w f) (zMF _) h.bg.below,zTT h.bg.keys⟩
 big:=h.big
 has i hi:=by
  rw[zWF]
  split
  ·rename_i e;have:=hd.hi;omega
  ·exact h.has i hi
 line i hi:=by
  rw[zWF]
  split
  ·rename_i e
   subst e;have:=h.line i hi;rw[hd.lk] at this
   simp at this
  ·exact h.line i hi
 top:=h.top
end
theorem tblB_put {c next at_:Nat} {cs:List Cell} {b:Cell} (hl:∀ x∈cs,x.length=c) (hb:b.length=c) (hat:at_<cs.length):yPW (zRS c next cs) (8+c*at_) b=zRS c next (cs.set at_ b):=by
 have e:cs=cs.take at_++cs[at_]::cs.drop (at_+1):=by
  conv=>lhs;rw[← List.take_append_drop at_ cs,List.drop_eq_getElem_cons hat]
 have h1:(cs.take at_).length=at_:=by rw[List.length_take];omega
 have hx:(cs[at_]).length=c:=hl _ (List.getElem_mem _);have ha:∀ x∈cs.take at_,x.length=c:=fun x hx=>hl x (List.take_subset _ _ hx)
 generalize cs[at_]=x at *
 generalize cs.take at_=l at *
 generalize cs.drop (at_+1)=m at *
 subst e;have hf:=zHQ ha;rw[h1] at hf
 rw[List.set_append_right _ _ (by omega),h1,Nat.sub_self,List.set_cons_zero];unfold yPW zRS;simp only[List.flatten_append,List.flatten_cons,List.length_append,List.length_cons];have e1:∀ (H:List UInt8),H.length=8→∀ R,List.take (8+c*at_) (H++(l.flatten++R))=H++l.flatten:=fun H hH R=>by
  rw[← List.append_assoc,List.take_left' (by simp[hH,hf])]
 have e2:∀ (H:List UInt8),H.length=8→∀ R,List.drop (8+c*at_+b.length) (H++(l.flatten++(x++R)))=R:=fun H hH R=>by
  rw[← List.append_assoc,← List.append_assoc,List.drop_left' (by simp[hH,hf,hx,hb];omega)]
 have hH:∀ n:Nat,(leB 4 next++leB 2 n++leB 2 c).length=8:=fun n=>by simp
 have h2:=e1 _ (hH (l.length+(m.length+1))) (x++(m.flatten++zU (248 - c*(l.length+(m.length+1)))));have h3:=e2 _ (hH (l.length+(m.length+1))) (m.flatten++zU (248 - c*(l.length+(m.length+1))));simp only[List.append_assoc] at h2 h3 ⊢
 rw[h2,h3];simp only[List.append_assoc]
theorem tblB_get {c next at_:Nat} {cs:List Cell} (hl:∀ x∈cs,x.length=c) (hat:at_<cs.length):((zRS c next cs).drop (8+c*at_)).take c=cs[at_]:=by
 have e:cs=cs.take at_++cs[at_]::cs.drop (at_+1):=by
  conv=>lhs;rw[← List.take_append_drop at_ cs,List.drop_eq_getElem_cons hat]
 have h1:(cs.take at_).length=at_:=by rw[List.length_take];omega
 have hx:(cs[at_]).length=c:=hl _ (List.getElem_mem _);have ha:∀ x∈cs.take at_,x.length=c:=fun x hx=>hl x (List.take_subset _ _ hx)
 generalize cs[at_]=x at *
 generalize cs.take at_=l at *
 generalize cs.drop (at_+1)=m at *
 subst e;have hf:=zHQ ha;rw[h1] at hf
 unfold zRS;simp only[List.flatten_append,List.flatten_cons];generalize hH:leB 4 next++leB 2 (l++x::m).length++leB 2 c=H;have hHl:H.length=8:=by rw[← hH];simp
 rw[show H++(l.flatten++(x++m.flatten)++zU (248 - c*(l++x::m).length))=(H++l.flatten)++(x++(m.flatten++zU (248 - c*(l++x::m).length))) by simp only[List.append_assoc],List.drop_left' (by rw[List.length_append];omega),List.take_left' hx]
theorem xVV (l:List TP) (k:Nat):zBW (l.map zWM) k=zWQ (l.drop (k+1)):=by
 unfold zBW;rw[List.getElem?_map,← List.head?_drop]
 cases l.drop (k+1) with
 | nil=>rfl
 | cons x m=>simp[zWM,zWQ]
theorem nextOf_b {m m':List PL} (h:m.map (·.b)=m'.map (·.b)) (k:Nat):zBW m k=zBW m' k:=by
 have e:(m[k+1]?).map (·.b)=(m'[k+1]?).map (·.b):=by rw[← List.getElem?_map,← List.getElem?_map,h]
 unfold zBW
 revert e
 cases m[k+1]? <;> cases m'[k+1]? <;> simp
 intro e;rw[e]
theorem set_same {α:Type} {l:List α} {k:Nat} {x:α} (h:l[k]? = some x):l.set k x=l:=by
 obtain ⟨q,e⟩:=List.getElem?_eq_some_iff.1 h;rw[← e];exact List.set_getElem_self q
theorem Chain.get {s:Gs} {c:Nat} {l:List TP} (h:Chain p s c l) {k:Nat} {x:TP} (hk:l[k]? = some x):PartIn p s c (zWQ (l.drop (k+1))) x.1 x.2:=by
 have hl:=(List.getElem?_eq_some_iff.1 hk).1;have:=h.drop k;rw[List.drop_eq_getElem_cons hl,(List.getElem?_eq_some_iff.1 hk).2] at this
 exact this.1
theorem tput_c (G:List Gl) (s:Gs) [Big t] [hS0:StL p B t] (hp:p.ok) (ho:s.over=false) (hr:ovl s.put 64 8=zU 8) (c:Nat) (hc1:1≤c) (hc2:c≤62) (l:List TP) (hl:Chain p s c l) (hn:l.length≤p.n) (i k q:Nat) (hi:i≤70000000000) (hf:zBK (l.map zWM) i=some (k,q)) (v:EV) (b:Cell) (hv:CellV B t v b) (hb:b.length=c) (blk:Nat) (cs:List Cell) (hk:l[k]? = some (blk,cs)) (hq:q<cs.length) :
  EffR G Tryz.prog 152 [.ptr (some ⟨0,0⟩),.int .u32 (zWQ l),.int .i64 c,.int .i64 i,v] (gnd p s B) t (fun v bl nx=>∃ B' s',v=.int .i64 0∧bl=gnd p s' B'∧StL p B' nx∧Ext B t B' nx∧WrR p s s' blk (zRS c (zWQ (l.drop (k+1))) (cs.set q b))):=by
 have h1:=hp.big;have h2:=hp.fit;obtain ⟨db,ob,capb,Db,zb,wb,fb,rfl,hdb,hbl,hbe⟩:=hv;refine EffR.enter fun Q hQ=>?_
 refine zQV 64 [.tmp 10] Tryz.func152 ?_
 repeat' (first|refine zQQ 281767051328543 ?_|(refine stp ?_;simp only[go_sem])|(refine EffR.at (yPP B G s hp ho hr c hc1 hc2 l hl hn) ?_)|(simp only[go_sem])|fail)
 rintro v bl nx ⟨B1,v1,ps,rfl,rfl,hS1,he1,hps,hout,hreg⟩
 haveI:=hS1;haveI:Big nx:=⟨hS1.big⟩;have h3:=he1.le;have hlm:(l.map zWM).length=l.length:=List.length_map ..;have hfi:=find_c (p:=p) B1 G s ps (l.map zWM) hps v1 hout i hi (by omega);rw[hf] at hfi
 repeat' (first|refine zQQ 281767051328543 ?_|(refine stp ?_;simp only[go_sem])|(refine EffR.at hfi ?_)|(simp only[go_sem])|fail)
 rintro v bl nx' ⟨rfl,rfl,rfl⟩
 simp only[xWW];obtain ⟨r,rfl,hat,hrn⟩:=hout;have hlen:=hps.length;have hkl:=(List.getElem?_eq_some_iff.1 hk).1;have hA:=(hat (List.ne_nil_of_length_pos (by omega))).f (p:=p);have hin:=hl.get hk;obtain ⟨x,y,hx,hy,hxb,hxf,-⟩:=hps.get2 (i:=k) (by omega);rw[List.getElem?_map,hk] at hy
 obtain rfl:y=zWM (blk,cs):=by simpa using hy.symm
 obtain ⟨r0,d,nn,cap,⟨hcap,htd⟩,hxr,hrow,hdd⟩:=hreg k x (blk,cs) hx hk;simp only at hin hrow hdd hcap hxr
 have hpos:=hin.pos;have hR:=hrow.f (p:=p);have hD:=hdd.f (p:=p);have hDb:=(hdb.mono he1).f (p:=p);have hg:=(zGQ hx).2.1;rw[hxr,Nat.mul_comm] at hg
 have hpc:=zQF ps;have hae:=zWZ (b:=r) (n:=ps.length) (by omega);have hgq:(zDV d 8 c cs.length cap)[q]? = some (.slice (some ⟨d,8+c*q⟩) c c):=by
  rw[zBB _ _ _ hpos,List.getElem?_append_left (by rw[zYW];omega)];unfold zNG;rw[List.getElem?_map,List.getElem?_range hq];rfl
 rw[hae];have hcl:=hin.len (cs[q]'hq) (List.getElem_mem _);have hfl:=yRT hin.fill;have hqc:c*(q+1)≤c*cs.length:=Nat.mul_le_mul_left c hq;rw[Nat.mul_succ] at hqc
 have hdl:=zRT (next:=nn) hin.len hin.fill;have hDq:((zRS c nn cs).drop (8+c*q)).take (cs[q]'hq).length=cs[q]'hq:=by
  rw[hcl];exact tblB_get hin.len hq
 have hdbt:=hdb.lt;have hne:(d=db)=False:=eq_false (by omega);have hne2:(db=d)=False:=eq_false (by omega);have heq:=equal_o G (zRS c nn cs) Db (cs[q]'hq) b (8+c*q) ob 0 0 zb fb c capb true wb hDq hbe (by rw[hcl,hdl];omega) hbl (by omega) (by omega);rw[hcl,hb] at heq
 have hbl2:(ob+c≤Db.length)=True:=eq_true (by omega);have hbe2:List.take c (List.drop ob Db)=b:=by rw[← hb];exact hbe
 have htk:List.take c (zQZ b)=zQZ b:=by rw[← hb];exact zSM b
 have hput:=tblB_put (next:=nn) hin.len hb hq;have hdlen:(zRS c nn (cs.set q b)).length=(zRS c nn cs).length:=by
  rw[hdl,zRT (fun x hx=>?_) (by rw[List.length_set];exact hin.fill)]
  rcases List.mem_or_eq_of_mem_set hx with h' | h'
  ·exact hin.len x h'
  ·rw[h'];exact hb
 have i1:8+c*q+c≤256:=by omega
 repeat' (first|refine zQQ 281767051328543 ?_|(refine stp ?_;simp only[go_sem,hA,hg,hR,hgq,hb,hD,hDb,zZP,zVQ,zQY,hdl,hbl2,hbe2,htk,Nat.min_self,yWK,hput,i1])|(refine Eff.atR (heq ) rfl [d,db] rfl (by first|(simp[hD,hDb,hne];done)|fail) rfl ?_;(try simp only[go_sem]))|(refine spl (fun h=>?_) (fun h=>?_)<;>((try simp only[go_sem,h])))|(refine zQT ?_ ?_;focus omega))
 ·have he:cs[q]'hq=b:=by assumption
  refine zWX hQ h3 (Bg.below (t:=nx')) (by simp[EV.bel]) ⟨B1,s,rfl,rfl,hS1,he1,WrR.same _ _ _ ?_⟩;rw[hin.is,← he,List.set_getElem_self]
 ·haveI hS2:StL p (setL B1 d (.cells (zQZ (zRS c nn (cs.set q b))) 5 0 true 0)) nx':=StL.turn hdd rfl;obtain ⟨m',hm1,hm2⟩:=PsV.turn hdd hdlen hps;have hlc:∀ x∈cs.set q b,x.length=c:=fun x hx=>by
   rcases List.mem_or_eq_of_mem_set hx with h' | h'
   ·exact hin.len x h'
   ·rw[h'];exact hb
  have hsl:(cs.set q b).length=cs.length:=List.length_set ..;have hrk:RowV (setL B1 d (.cells (zQZ (zRS c nn (cs.set q b))) 5 0 true 0)) nx' x.row (cs.set q b):=by
   refine ⟨r0,0,cap,zDV d 8 c cs.length cap,true,0,by rw[hsl];exact hxr,hdd.turn_ne hrow (fun e=>?_),⟨by rw[zBN _ _ _ hpos hcap,hsl];omega,by omega⟩,?_⟩
   ·subst e;have:=hrow.uniq hdd;simp at this
   ·rw[List.drop_zero,hsl,yYN _ _ _ hpos];have hf:=zHQ hlc;rw[hsl] at hf
    have:=yVB (D:=zRS c nn (cs.set q b)) hdd.turn (cs.set q b) 8 hlc (by rw[hdlen,hdl,hsl];omega) (by
     unfold zRS;rw[List.drop_left' (by simp),hsl,List.take_left' hf])
    rwa [hsl] at this
  obtain ⟨y',hy'⟩:∃ y',m'[k]? = some y':=by
   have:=hm1.length;exact ⟨m'[k]'(by omega),List.getElem?_eq_getElem _⟩
  have hm3:=hm1.swap hx hy' hrk;have hyb:y'.b=blk:=by
   have e:(m'[k]?).map (·.b)=((l.map zWM)[k]?).map (·.b):=by rw[← List.getElem?_map,← List.getElem?_map,hm2]
   rw[hy',List.getElem?_map,hk] at e
   simpa [zWM] using e
  have hmb:(m'.set k ⟨y'.b,cs.set q b,y'.fresh⟩).map (·.b)=(l.map zWM).map (·.b):=by
   rw[List.map_set,hm2];refine set_same ?_;rw[hyb,List.getElem?_map,List.getElem?_map,hk];rfl
  have htw:=xJH (setL B1 d (.cells (zQZ (zRS c nn (cs.set q b))) 5 0 true 0)) G s hp ho c hc1 hc2 ps _ hm3 _ (OutV.turn hdd ⟨r,rfl,hat,hrn⟩) k blk ⟨y'.b,cs.set q b,y'.fresh⟩ (by rw[List.getElem?_set_self];have:=hm1.length;omega) hyb hin.lt hin.use hlc (by show 1≤(cs.set q b).length;omega) (by show (cs.set q b).length≤_;rw[hsl];exact hin.fill) (fun z hz=>?_) (by have:=hm3.length;omega)
  ·rw[hae,nextOf_b hmb,xVV] at htw
   rw[zYF _ hdd.hi]
   repeat' (first|(refine EffR.at htw ?_)|(simp only[go_sem])|fail)
   rintro v bl nx ⟨s',rfl,rfl,rfl,hwr⟩
   repeat' (first|(refine stp ?_;simp only[go_sem])|fail)
   exact zWX hQ h3 (Bg.below (t:=nx)) (by simp[EV.bel]) ⟨_,s',rfl,rfl,hS2,⟨h3,fun i hi=>by rw[zWF,if_neg (by omega)];exact he1.same i hi⟩,hwr⟩
  ·have e:((m'.set k ⟨y'.b,cs.set q b,y'.fresh⟩)[k+1]?).map (·.b)=((l.map zWM)[k+1]?).map (·.b):=by rw[← List.getElem?_map,← List.getElem?_map,hmb]
   rw[hz,List.getElem?_map] at e
   cases hk2:l[k+1]? with
   | none=>rw[hk2] at e;simp at e
   | some w=>
     rw[hk2] at e
     have:=(hl.get hk2).lt;simp[zWM] at e
     omega
end
section
variable {p:Gp}
structure GsOK (p:Gp) (s:Gs):Prop where
 nd:s.taken.Nodup
 low:∀ b,b<s.least→b∈s.taken
 lt:∀ b∈s.taken,b<p.n
 least:s.least≤p.n
def zRW:List PL→List Nat
 | []=>[]
 | y::l=>if y.b = -1 then zRW l else y.b.toNat::zRW l
def zRD:List PL→Nat
 | []=>0
 | y::l=>if y.b = -1 then zRD l+1 else zRD l
theorem zTK (a l:List PL):zRW (a++l)=zRW a++zRW l:=by
 induction a with
 | nil=>rfl
 | cons y a ih=>simp only[List.cons_append,zRW,ih];split<;>rfl
theorem zBD (a l:List PL):zRD (a++l)=zRD a+zRD l:=by
 induction a with
 | nil=>simp[zRD]
 | cons y a ih=>simp only[List.cons_append,zRD,ih];split<;>omega
theorem xJN {s:Gs} (h:GsOK p s) {b:Nat} (hb:zBH p s=some b):GsOK p (zHS s b):=by
 obtain ⟨h1,h2,h3,h4⟩:=zHH hb;refine ⟨?_,fun c hc=>?_,fun c hc=>?_,h2⟩
 ·show (s.taken++[b]).Nodup;rw[List.nodup_append];exact ⟨h.nd,by simp,fun a ha c hc e=>by simp at hc;subst hc;subst e;exact h3 ha⟩
 ·show c∈s.taken++[b];have:c<b+1:=hc
  rcases Nat.lt_or_ge c s.least with q | q
  ·exact List.mem_append_left _ (h.low c q)
  ·rcases Nat.lt_or_ge c b with q2 | q2
   ·exact List.mem_append_left _ (h4 c q q2)
   ·exact List.mem_append_right _ (by simp;omega)
 ·rcases List.mem_append.1 hc with q | q
  ·exact h.lt c q
  ·simp at q;omega
theorem giveS_OK {s:Gs} (h:GsOK p s) (b:Nat):GsOK p (zDJ s b):=by
 refine ⟨h.nd.erase b,fun c hc=>?_,fun c hc=>h.lt c (List.mem_of_mem_erase hc),Nat.le_trans (Nat.min_le_left _ _) h.least⟩;have:c<min s.least b:=hc;exact (List.mem_erase_of_ne (by omega)).2 (h.low c (by omega))
theorem xQM {s:Gs} (h:GsOK p s) {b c:Nat}:c∈(zDJ s b).taken↔c ≠ b∧c∈s.taken:=h.nd.mem_erase_iff
theorem zPT:∀ (l:List PL) (s:Gs),GsOK p s→(∀ b∈zRW l,b∈s.taken)→(zRW l).Nodup→∀ s1 l1,zVJ p s l=(s1,some l1) →
  ∃ nw,s1.taken=s.taken++nw∧GsOK p s1∧(zZR l1).Nodup∧(∀ b,b∈zZR l1↔b∈zRW l∨b∈nw)∧s1.put=s.put∧s1.over=s.over∧nw.length=zRD l
 | [],s,hs,_,_,s1,l1,e=>by
   simp only[zVJ,Prod.mk.injEq,Option.some.injEq] at e
   obtain ⟨rfl,rfl⟩:=e;exact ⟨[],by simp,hs,by simp[zZR],by simp[zZR,zRW],rfl,rfl,rfl⟩
 | y::l,s,hs,ho,hn,s1,l1,e=>by
   simp only[zVJ] at e
   by_cases hb:y.b = -1
   ·rw[if_pos hb] at e
    simp only[zRW,if_pos hb] at ho hn ⊢
    simp only[zRD,if_pos hb]
    cases hq:zBH p s with
    | none=>rw[hq] at e;simp at e
    | some b=>
      rw[hq] at e
      simp only[Prod.mk.injEq,Option.map_eq_some_iff] at e
      obtain ⟨e1,l2,e2,rfl⟩:=e;obtain ⟨nw,h1,h2,h3,h4,h5,h6,h7⟩:=zPT l (zHS s b) (xJN hs hq) (fun c hc=>List.mem_append_left _ (ho c hc)) hn s1 l2 (by rw[← e1,← e2]);have h1':s1.taken=s.taken++(b::nw):=by rw[h1];show (s.taken++[b])++nw=_;simp
      have hbs:=(zHH hq).2.2.1;have hnd:=h2.nd;rw[h1'] at hnd
      have hbn:b ∉ nw:=(List.nodup_cons.1 (List.nodup_append.1 hnd).2.1).1;refine ⟨b::nw,h1',h2,?_,fun c=>?_,h5,h6,by simp[h7]⟩
      ·show (b::zZR l2).Nodup;refine List.nodup_cons.2 ⟨fun hc=>?_,h3⟩
       rcases (h4 b).1 hc with q | q
       ·exact hbs (ho b q)
       ·exact hbn q
      ·show c∈b::zZR l2↔_;rw[List.mem_cons,h4,List.mem_cons]
       constructor
       ·rintro (q | q | q)
        ·exact .inr (.inl q)
        ·exact .inl q
        ·exact .inr (.inr q)
       ·rintro (q | q | q)
        ·exact .inr (.inl q)
        ·exact .inl q
        ·exact .inr (.inr q)
   ·rw[if_neg hb] at e
    simp only[zRW,if_neg hb] at ho hn ⊢
    simp only[zRD,if_neg hb];simp only[Prod.mk.injEq,Option.map_eq_some_iff] at e
    obtain ⟨e1,l2,e2,rfl⟩:=e;obtain ⟨nw,h1,h2,h3,h4,h5,h6,h7⟩:=zPT l s hs (fun c hc=>ho c (List.mem_cons_of_mem _ hc)) (List.nodup_cons.1 hn).2 s1 l2 (by rw[← e1,← e2]);have hnd:=h2.nd;rw[h1] at hnd
    refine ⟨nw,h1,h2,?_,fun c=>?_,h5,h6,h7⟩
    ·show (y.b.toNat::zZR l2).Nodup;refine List.nodup_cons.2 ⟨fun hc=>?_,h3⟩
     rcases (h4 _).1 hc with q | q
     ·exact (List.nodup_cons.1 hn).1 q
     ·exact (List.nodup_append.1 hnd).2.2 _ (ho _ (List.mem_cons_self ..)) _ q rfl
    ·show c∈y.b.toNat::zZR l2↔_;rw[List.mem_cons,h4,List.mem_cons,or_assoc]
theorem zFH (us:List Nat):∀ (l:List PL) (s:Gs),GsOK p s→(zZR l).Nodup→(∀ b∈zZR l,b∈s.taken) →
  GsOK p (zKD us s l)∧(∀ b,b∈(zKD us s l).taken↔b∈s.taken∧(b∈us∨b ∉ zZR l))∧(zKD us s l).put=s.put∧(zKD us s l).over=s.over
 | [],s,hs,_,_=>⟨hs,by simp[zKD,zZR],rfl,rfl⟩
 | y::l,s,hs,hn,ht=>by
   have hn':y.b.toNat ∉ zZR l∧(zZR l).Nodup:=List.nodup_cons.1 hn;have ht':∀ b∈zZR l,b∈s.taken:=fun b hb=>ht b (List.mem_cons_of_mem _ hb)
   simp only[zKD]
   by_cases hm:y.b.toNat∈us
   ·rw[if_pos hm];obtain ⟨h1,h2,h3,h4⟩:=zFH us l s hs hn'.2 ht';refine ⟨h1,fun b=>?_,h3,h4⟩;rw[h2];show _↔b∈s.taken∧(b∈us∨b ∉ y.b.toNat::zZR l);rw[List.mem_cons];refine and_congr_right fun _=>⟨fun h=>?_,fun h=>?_⟩
    ·rcases h with h | h
     ·exact .inl h
     ·by_cases e:b=y.b.toNat
      ·exact .inl (e ▸ hm)
      ·exact .inr fun q=>q.elim e h
    ·exact h.imp id fun q w=>q (.inr w)
   ·rw[if_neg hm];obtain ⟨h1,h2,h3,h4⟩:=zFH us l (zDJ s y.b.toNat) (giveS_OK hs _) hn'.2 (fun b hb=>(xQM hs).2 ⟨fun e=>hn'.1 (e ▸ hb),ht' b hb⟩);refine ⟨h1,fun b=>?_,h3,h4⟩;rw[h2,xQM hs];show _↔b∈s.taken∧(b∈us∨b ∉ y.b.toNat::zZR l);rw[List.mem_cons]
    constructor
    ·rintro ⟨⟨q1,q2⟩,q3⟩
     exact ⟨q2,q3.imp id fun w q=>q.elim q1 w⟩
    ·rintro ⟨q1,q2⟩
     refine ⟨⟨fun e=>?_,q1⟩,q2.imp id fun w q=>w (.inr q)⟩
     rcases q2 with q2 | q2
     ·exact hm (e ▸ q2)
     ·exact q2 (.inl e)
theorem yGM:∀ (n:Nat) (l:List Nat),(∀ b,b<n→b∈l)→n≤l.length
 | 0,_,_=>Nat.zero_le _
 | n+1,l,h=>by
   have hm:=h n (Nat.lt_succ_self n);have:=yGM n (l.erase n) fun b hb=>(List.mem_erase_of_ne (by omega)).2 (h b (by omega))
   rw[List.length_erase_of_mem hm] at this
   have:=List.length_pos_of_mem hm;omega
theorem zSS:∀ (l:List PL) (s:Gs),GsOK p s→∀ s1,zVJ p s l=(s1,none)→p.n<s.taken.length+zRD l
 | [],s,hs,s1,e=>by simp[zVJ] at e
 | y::l,s,hs,s1,e=>by
   simp only[zVJ] at e
   by_cases hb:y.b = -1
   ·rw[if_pos hb] at e
    simp only[zRD,if_pos hb]
    cases hq:zBH p s with
    | none=>
      have:=yGM p.n s.taken fun b hb=>by
       rcases Nat.lt_or_ge b s.least with q | q
       ·exact hs.low b q
       ·exact yGW hq b q hb
      omega
    | some b=>
      rw[hq] at e
      simp only[Prod.mk.injEq,Option.map_eq_none_iff] at e
      have:=zSS l (zHS s b) (xJN hs hq) s1 (by rw[← e.1,← e.2]);have e3:(zHS s b).taken.length=s.taken.length+1:=by show (s.taken++[b]).length=_;simp
      omega
   ·rw[if_neg hb] at e
    simp only[zRD,if_neg hb];simp only[Prod.mk.injEq,Option.map_eq_none_iff] at e
    exact zSS l s hs s1 (by rw[← e.1,← e.2])
theorem zYQ {fill:Nat} (P:List PL→List PL→Prop) (h1:∀ a y l,(∀ q,a.getLast? = some q→fill<q.cs.length+y.cs.length)→P a (y::l)→P (a++[y]) l) (h2:∀ a q y l,q.cs.length+y.cs.length≤fill→P (a++[q]) (y::l)→P (a++[zTM q y]) l):∀ (l a:List PL),P a l→P (zXB fill a l) []
 | [],a,h=>h
 | y::l,a,h=>by
   simp only[zXB]
   rcases List.eq_nil_or_concat a with rfl | ⟨a,q,rfl⟩
   ·exact zYQ P h1 h2 l [y] (h1 [] y l (fun q e=>by simp at e) h)
   ·rw[List.concat_eq_append] at h ⊢
    rw[List.getLast?_concat,List.dropLast_concat];simp only
    split
    ·rename_i hf
     exact zYQ P h1 h2 l _ (h2 a q y l hf h)
    ·rename_i hf
     exact zYQ P h1 h2 l _ (h1 _ y l (fun q' e=>by rw[List.getLast?_concat] at e;cases e;omega) h)
def NF (fill:Nat):List PL→Prop
 | []=>True
 | [_]=>True
 | x::y::l=>fill<x.cs.length+y.cs.length∧NF fill (y::l)
theorem NF_app {fill:Nat} {y:PL}:∀ {a:List PL},NF fill a→(∀ q,a.getLast? = some q→fill<q.cs.length+y.cs.length)→NF fill (a++[y])
 | [],_,_=>trivial
 | [x],_,h=>⟨h x rfl,trivial⟩
 | x::z::a,h,k=>⟨h.1,NF_app (a:=z::a) h.2 fun q e=>k q (by rw[List.getLast?_cons_cons];exact e)⟩
theorem NF_more {fill:Nat} {q q':PL} (hq:q.cs.length≤q'.cs.length):∀ {a:List PL},NF fill (a++[q])→NF fill (a++[q'])
 | [],_=>trivial
 | [x],h=>⟨by have:=h.1;omega,trivial⟩
 | x::z::a,h=>⟨h.1,NF_more (a:=z::a) hq h.2⟩
theorem settle_NF (fill:Nat) (l:List PL):NF fill (zXB fill [] l):=
 zYQ (fun a _=>NF fill a) (fun a y l h1 h2=>NF_app h2 h1) (fun a q y l hf h=>NF_more (by simp[zTM]) h) l [] trivial
theorem settle_cs (fill:Nat) (l:List PL):(zXB fill [] l).flatMap (·.cs)=l.flatMap (·.cs):=by
 have:=zYQ (fill:=fill) (fun a m=>a.flatMap (·.cs)++m.flatMap (·.cs)=l.flatMap (·.cs)) (fun a y l h1 h2=>by rw[← h2];simp) (fun a q y l hf h=>by rw[← h];simp[zTM]) l [] rfl
 simpa using this
theorem zJY (fill:Nat) (Q:PL→Prop) (hj:∀ q y,q.cs.length+y.cs.length≤fill→Q q→Q y→Q (zTM q y)) (l:List PL) (hl:∀ y∈l,Q y):∀ y∈zXB fill [] l,Q y:=by
 have:=zYQ (fill:=fill) (fun a m=>(∀ y∈a,Q y)∧∀ y∈m,Q y) (fun a y l _ h2=>⟨fun z hz=>by
   rcases List.mem_append.1 hz with q | q
   ·exact h2.1 z q
   ·simp at q;subst q;exact h2.2 _ (List.mem_cons_self ..),fun z hz=>h2.2 z (List.mem_cons_of_mem _ hz)⟩)
  (fun a q y l hf h=>⟨fun z hz=>by
   rcases List.mem_append.1 hz with w | w
   ·exact h.1 z (List.mem_append_left _ w)
   ·simp at w;subst w;exact hj q y hf (h.1 q (by simp)) (h.2 y (List.mem_cons_self ..)),fun z hz=>h.2 z (List.mem_cons_of_mem _ hz)⟩) l [] ⟨fun y hy=>absurd hy (by simp),hl⟩
 exact this.1
theorem zPP (fill:Nat) (l:List PL):(zRW (zXB fill [] l)).Sublist (zRW l)∧zRD (zXB fill [] l)≤zRD l:=by
 have:=zYQ (fill:=fill) (fun a m=>(zRW (a++m)).Sublist (zRW l)∧zRD (a++m)≤zRD l) (fun a y l _ h2=>by simpa using h2)
  (fun a q y l _ h=>by
   obtain ⟨h1,h2⟩:=h;simp only[zTK,zBD,zRW,zRD,List.append_assoc,zTM] at h1 h2 ⊢
   refine ⟨List.Sublist.trans (List.Sublist.append (List.Sublist.refl _) ?_) h1,Nat.le_trans (Nat.add_le_add_left ?_ _) h2⟩
   ·split<;>split<;>simp_all
   ·split<;>split<;>simp_all<;>omega) l [] ⟨List.Sublist.refl _,Nat.le_refl _⟩
 simpa using this
def yFB (y:PL):TP:=(y.b.toNat,y.cs)
theorem xYF (l:List PL):zWQ (l.map yFB)=yDP l:=by cases l<;>rfl
theorem Chain.of {s:Gs} {c:Nat}:∀ {l:List PL},(∀ (k:Nat) (y:PL),l[k]? = some y→PartIn p s c (zWQ ((l.map yFB).drop (k+1))) y.b.toNat y.cs)→NF (248 / c) l→Chain p s c (l.map yFB)
 | [],_,_=>trivial
 | y::l,h,hn=>by
   refine ⟨by simpa using h 0 y rfl,?_,Chain.of (fun k z hz=>by simpa using h (k+1) z (by simpa using hz)) ?_⟩
   ·cases l with
    | nil=>trivial
    | cons z l=>exact hn.1
   ·cases l with
    | nil=>trivial
    | cons z l=>exact hn.2
theorem yMV:∀ (l:List PL) (s:Gs),(∀ y∈l,y.b = -1∨0≤y.b)→∀ l1,(zVJ p s l).2=some l1→∀ y∈l1,0≤y.b
 | [],s,h,l1,e,y,hy=>by simp only[zVJ,Option.some.injEq] at e;subst e;simp at hy
 | x::l,s,h,l1,e,y,hy=>by
   have hl:=fun y hy=>h y (List.mem_cons_of_mem _ hy)
   have hx:=h x (List.mem_cons_self ..);simp only[zVJ] at e
   split at e
   ·cases hq:zBH p s with
    | none=>rw[hq] at e;simp at e
    | some c=>
      rw[hq] at e
      simp only[Option.map_eq_some_iff] at e
      obtain ⟨l2,e2,rfl⟩:=e
      rcases List.mem_cons.1 hy with rfl | hy
      ·exact Int.natCast_nonneg _
      ·exact yMV l (zHS s c) hl l2 e2 y hy
   ·rename_i hb
    simp only[Option.map_eq_some_iff] at e
    obtain ⟨l2,e2,rfl⟩:=e
    rcases List.mem_cons.1 hy with rfl | hy
    ·exact hx.resolve_left hb
    ·exact yMV l s hl l2 e2 y hy
theorem NF_cs {fill:Nat}:∀ {l m:List PL},l.map (·.cs)=m.map (·.cs)→NF fill m→NF fill l
 | [],_,_,_=>trivial
 | [_],_,_,_=>trivial
 | _::_::_,[],h,_=>by simp at h
 | _::_::_,[_],h,_=>by simp at h
 | x::y::l,a::b::m,h,k=>by
   simp only[List.map_cons,List.cons.injEq] at h
   refine ⟨by rw[h.1,h.2.1];exact k.1,NF_cs (l:=y::l) (m:=b::m) ?_ k.2⟩;simp only[List.map_cons,List.cons.injEq];exact h.2
theorem nextOf_tp {l:List PL} (h:∀ y∈l,0≤y.b) (k:Nat):zBW l k=zWQ ((l.map yFB).drop (k+1)):=by
 unfold zBW;rw[← List.map_drop,← List.head?_drop]
 cases hq:l.drop (k+1) with
 | nil=>rfl
 | cons x m=>
   have:=h x (List.mem_of_mem_drop (by rw[hq];exact List.mem_cons_self ..));simp only[List.head?_cons,List.map_cons,yFB,zWQ];omega
structure TabOK (p:Gp) (s:Gs) (c:Nat) (was:List Nat) (cells:List Cell) (s':Gs) (l:List TP):Prop where
 chain:Chain p s' c l
 cells:l.flatMap (·.2)=cells
 nd:(l.map (·.1)).Nodup
 ok:GsOK p s'
 taken:∀ b,b∈s'.taken↔(b∈s.taken∧b ∉ was)∨b∈l.map (·.1)
 mine:∀ b∈l.map (·.1),b∈was∨b ∉ s.taken
 rd:∀ b,b ∉ l.map (·.1)→Go.Proofs.YtncphnpndkjkaaaGreatDoor.rd p s' b=Go.Proofs.YtncphnpndkjkaaaGreatDoor.rd p s b
 over:s'.over=s.over
 low:∀ y,y<p.at_→zDY s'.put y=zDY s.put y
theorem plan_ok {s s1 s':Gs} {c:Nat} {l:List TP} {pl l1:List PL} (hc1:1≤c) (hs:GsOK p s) (hl:Chain p s c l) (hnd:(l.map (·.1)).Nodup) (hpc:∀ y∈pl,1≤y.cs.length∧y.cs.length≤248 / c∧∀ x∈y.cs,x.length=c) (hpb:∀ y∈pl,y.b = -1∨0≤y.b) (ho:∀ b∈zRW pl,b∈l.map (·.1)) (hon:(zRW pl).Nodup)
  (hf:zVJ p s (zXB (248 / c) [] pl)=(s1,some l1)) (hw:WrA p (zKD (zZR l1) s1 (l.map zWM)) s' c l1 l1.length):TabOK p s c (l.map (·.1)) (pl.flatMap (·.cs)) s' (l1.map yFB):=by
 obtain ⟨ho2,-⟩:=zPP (248 / c) pl;have hb2:∀ y∈zXB (248 / c) [] pl,y.b = -1∨0≤y.b:=zJY _ (fun y=>y.b = -1∨0≤y.b) (fun q y _ h1 h2=>by simp only[zTM];split<;>assumption) pl hpb;have hc2:∀ y∈zXB (248 / c) [] pl,1≤y.cs.length∧y.cs.length≤248 / c∧∀ x∈y.cs,x.length=c:=zJY _ (fun y=>1≤y.cs.length∧y.cs.length≤248 / c∧∀ x∈y.cs,x.length=c) (fun q y hf h1 h2=>by
  simp only[zTM,List.length_append];refine ⟨by omega,hf,fun x hx=>?_⟩
  rcases List.mem_append.1 hx with w | w
  ·exact h1.2.2 x w
  ·exact h2.2.2 x w) pl hpc
 have hwas:zZR (l.map zWM)=l.map (·.1):=by simp[zZR,zWM]
 have htk:∀ b∈l.map (·.1),b∈s.taken:=fun b hb=>by
  obtain ⟨x,hx,rfl⟩:=List.mem_map.1 hb;obtain ⟨k,hk,e⟩:=List.mem_iff_getElem.1 hx;exact (hl.get (k:=k) (x:=x) (by rw[← e];exact List.getElem?_eq_getElem hk)).use
 obtain ⟨nw,h1,h2,h3,h4,h5,h6,h7⟩:=zPT _ s hs (fun b hb=>htk b (ho b (ho2.subset hb))) (ho2.nodup hon) s1 l1 hf;obtain ⟨g1,g2,g3,g4⟩:=zFH (zZR l1) (l.map zWM) s1 h2 (hwas ▸ hnd) (fun b hb=>by rw[h1];exact List.mem_append_left _ (htk b (hwas ▸ hb)));have hmb:(l1.map yFB).map (·.1)=zZR l1:=by simp[zZR,yFB]
 have hcm:=yYW (p:=p) _ s l1 (by rw[hf]);have hl1:∀ b∈zZR l1,b∈s1.taken:=fun b hb=>by
  rw[h1]
  rcases (h4 b).1 hb with q | q
  ·exact List.mem_append_left _ (htk b (ho b (ho2.subset q)))
  ·exact List.mem_append_right _ q
 have hbn:=yMV (p:=p) _ s hb2 l1 (by rw[hf]);have hcy:∀ y∈l1,1≤y.cs.length∧y.cs.length≤248 / c∧∀ x∈y.cs,x.length=c:=fun y hy=>by
  have:y.cs∈(zXB (248 / c) [] pl).map (·.cs):=hcm ▸ List.mem_map.2 ⟨y,hy,rfl⟩;obtain ⟨y',q1,q2⟩:=List.mem_map.1 this;rw[← q2];exact hc2 y' q1
 have hNF:NF (248 / c) l1:=NF_cs hcm (settle_NF _ _);have hno:∀ b,b ∉ zZR l1→∀ j y,j<l1.length→l1[j]? = some y→y.b.toNat ≠ b:=fun b hb j y _ hy e=>hb (List.mem_map.2 ⟨y,List.mem_of_getElem? hy,e⟩)
 have hput:(zKD (zZR l1) s1 (l.map zWM)).put=s.put:=g3.trans h5;refine ⟨Chain.of (fun k y hy=>?_) hNF,?_,by rw[hmb];exact h3,?_,fun b=>?_,fun b hb=>?_,fun b hb=>?_,by rw[hw.over,g4,h6],fun y hy=>by rw[hw.low y hy,hput]⟩
 ·have hm:=List.mem_of_getElem? hy;have hmB:y.b.toNat∈zZR l1:=List.mem_map.2 ⟨y,hm,rfl⟩;obtain ⟨q1,q2,q3⟩:=hcy y hm;refine ⟨h2.lt _ (hl1 _ hmB),by rw[hw.taken];exact (g2 _).2 ⟨hl1 _ hmB,.inl hmB⟩,?_,q1,q2,q3⟩;rw[hw.here k y (List.getElem?_eq_some_iff.1 hy).1 hy,nextOf_tp hbn]
 ·rw[← settle_cs (248 / c) pl,List.flatMap_def,List.flatMap_def,← hcm,List.map_map];rfl
 ·exact ⟨by rw[hw.taken];exact g1.nd,fun b hb=>by rw[hw.taken];exact g1.low b (by rw[← hw.least];exact hb),fun b hb=>g1.lt b (by rw[← hw.taken];exact hb),by rw[hw.least];exact g1.least⟩
 ·rw[hw.taken,g2,hmb,h1,hwas,List.mem_append]
  constructor
  ·rintro ⟨q1,q2⟩
   rcases q2 with q2 | q2
   ·exact .inr q2
   ·rcases q1 with q1 | q1
    ·exact .inl ⟨q1,q2⟩
    ·exact .inr ((h4 b).2 (.inr q1))
  ·rintro (⟨q1,q2⟩ | q)
   ·exact ⟨.inl q1,.inr q2⟩
   ·refine ⟨?_,.inl q⟩;have:=hl1 b q
    rwa [h1,List.mem_append] at this
 ·rw[hmb] at hb
  rcases (h4 b).1 hb with q | q
  ·exact .inl (ho b (ho2.subset q))
  ·refine .inr fun w=>?_
   have hnd':=h2.nd;rw[h1] at hnd'
   exact (List.nodup_append.1 hnd').2.2 _ w _ q rfl
 ·rw[hmb] at hb
  rw[hw.else_ b (hno b hb)];unfold Go.Proofs.YtncphnpndkjkaaaGreatDoor.rd;rw[hput]
end
section
variable {p:Gp} (B:List (Nat × EO)) {t:Nat}
def yMM (i n a:Nat) (cs:List Cell):List Cell:=cs.take (i - a)++cs.drop (i+n - a)
def zYG (i n:Nat):Nat→List PL→List PL
 | _,[]=>[]
 | a,y::l=>(if yMM i n a y.cs=[] then [] else [⟨y.b,yMM i n a y.cs,false⟩])++zYG i n (a+y.cs.length) l
theorem yDB (i n:Nat):∀ (l m:List PL) (a:Nat),zYG i n a (l++m)=zYG i n a l++zYG i n (a+tot l) m
 | [],m,a=>by simp[zYG,tot]
 | y::l,m,a=>by
   simp only[List.cons_append,zYG,yDB i n l m,List.append_assoc,tot]
   congr 3
   simp;omega
theorem RowV.reg {B:List (Nat × EO)} {t r cap:Nat} {v:EV} {cs:List Cell} {C:List EV} (h:RowV B t v cs) (hv:v=.slice (some ⟨r,0⟩) cs.length cap) (hr:AtB B t r (.cells C 56 0 true 0)):CellsV B t (C.take cs.length) cs∧cs.length≤C.length:=by
 obtain ⟨r',o,cap',C',w,f,h1,h2,h3,h4⟩:=h;rw[hv] at h1
 simp only[EV.slice.injEq,Option.some.injEq,true_and] at h1
 obtain ⟨⟨rfl,rfl⟩,-⟩:=h1;have:=hr.uniq h2;simp only[EO.cells.injEq,true_and] at this
 obtain ⟨rfl,-⟩:=this;rw[List.drop_zero] at h4
 exact ⟨h4,by omega⟩
theorem yWZ {r:Nat} {o:EO}:∀ {B:List (Nat × EO)},lkp B r=some o→setL B r o=B
 | (b,x)::B,h=>by
   simp only[lkp,setL] at h ⊢
   split
   ·rename_i e;rw[if_pos e] at h;cases h;rfl
   ·rename_i e;rw[if_neg e] at h;rw[yWZ h]
theorem zRQ (c:List EV) (o:Nat):zZH c o []=c:=by simp[zZH]
theorem yZP {B':List (Nat × EO)} {T:Nat} [hS:StL p B' T] {e1 e2:List EV} {c1 c2:List Cell} (h1:CellsV B' T e1 c1) (h2:CellsV B' T e2 c2) (cX:Nat) (hX:c1.length+c2.length≤cX) :
  StL p ((T,.cells (e1++e2++zYH (cX - (c1.length+c2.length))) 56 0 true 0)::B') (T+1)∧Ext B' T ((T,.cells (e1++e2++zYH (cX - (c1.length+c2.length))) 56 0 true 0)::B') (T+1)∧RowV ((T,.cells (e1++e2++zYH (cX - (c1.length+c2.length))) 56 0 true 0)::B') (T+1) (.slice (some ⟨T,0⟩) (c1.length+c2.length) cX) (c1++c2):=by
 have l1:=h1.length;have l2:=h2.length;have hx:=StL.above (p:=p) (B:=B') (t:=T) (t':=T+1) (X:=[(T,.cells (e1++e2++zYH (cX - (c1.length+c2.length))) 56 0 true 0)]) (by omega) (by simp) (by simp[zWN,lkp]) (by
  simp[zQJ (Nat.le_succ T) _ h1.below,zQJ (Nat.le_succ T) _ h2.below,zVS])
 refine ⟨hx.1,hx.2,T,0,cX,e1++e2++zYH (cX - (c1.length+c2.length)),true,0,by rw[List.length_append],⟨hS.big,by omega,by simp[lkp]⟩,⟨by simp[l1,l2],by rw[List.length_append];exact hX⟩,?_⟩;rw[List.drop_zero,List.take_left' (by rw[List.length_append,l1,l2,List.length_append])];exact (h1.mono hx.2).append (h2.mono hx.2)
theorem zSQ (fill:Nat) (l:List PL):(zXB fill [] l).length≤l.length:=by
 have:=zYQ (fill:=fill) (fun a m=>a.length+m.length≤l.length) (fun a y m _ h=>by simp at h ⊢;omega) (fun a q y m _ h=>by simp at h ⊢;omega) l [] (by simp)
 simpa using this
theorem yYY:∀ {l:List TP},(∀ x∈l,x.2.length≤248)→tot (l.map zWM)≤248*l.length
 | [],_=>by simp[tot]
 | x::l,h=>by
   have h1:=h x (List.mem_cons_self ..);have h2:=yYY fun y hy=>h y (List.mem_cons_of_mem _ hy)
   simp only[List.map_cons,List.length_cons];have:tot (zWM x::l.map zWM)=x.2.length+tot (l.map zWM):=by simp[tot,zWM]
   omega
theorem yPV {i n c:Nat}:∀ {l:List PL} {a:Nat},(∀ y∈l,y.cs.length≤248 / c∧∀ x∈y.cs,x.length=c)→∀ y∈zYG i n a l,1≤y.cs.length∧y.cs.length≤248 / c∧∀ x∈y.cs,x.length=c
 | [],_,_,y,hy=>by simp[zYG] at hy
 | z::l,a,h,y,hy=>by
   simp only[zYG] at hy
   rcases List.mem_append.1 hy with q | q
   ·split at q
    ·simp at q
    ·rename_i hne
     simp at q
     subst q;obtain ⟨q1,q2⟩:=h z (List.mem_cons_self ..);have hz:(yMM i n a z.cs).length≤z.cs.length:=by
      unfold yMM;rw[List.length_append,List.length_take,List.length_drop];omega
     refine ⟨List.length_pos_iff.2 hne,by simp only;omega,fun x hx=>q2 x ?_⟩
     rcases List.mem_append.1 hx with w | w
     ·exact List.take_subset _ _ w
     ·exact List.drop_subset _ _ w
   ·exact yPV (fun y hy=>h y (List.mem_cons_of_mem _ hy)) y q
theorem yPK {i n:Nat}:∀ {l:List PL} {a:Nat},∀ y∈zYG i n a l,∃ z∈l,y.b=z.b
 | [],_,y,hy=>by simp[zYG] at hy
 | z::l,a,y,hy=>by
   simp only[zYG] at hy
   rcases List.mem_append.1 hy with q | q
   ·split at q
    ·simp at q
    ·simp at q;subst q;exact ⟨z,List.mem_cons_self ..,rfl⟩
   ·obtain ⟨w,h1,h2⟩:=yPK y q;exact ⟨w,List.mem_cons_of_mem _ h1,h2⟩
theorem xQW (y:PL) (l:List PL):zRW (y::l)=zRW [y]++zRW l:=zTK [y] l
theorem yPZ {i n:Nat}:∀ {l:List PL} {a:Nat},(zRW (zYG i n a l)).Sublist (zRW l)
 | [],_=>by simp[zYG]
 | z::l,a=>by
   simp only[zYG];rw[zTK,xQW];refine List.Sublist.append ?_ yPZ
   split
   ·exact List.nil_sublist _
   ·exact List.Sublist.refl _
theorem zBQ (l:List TP):zRW (l.map zWM)=l.map (·.1):=by
 induction l with
 | nil=>rfl
 | cons x l ih=>
   simp only[List.map_cons,zRW,zWM,ih];rw[if_neg (by omega)];simp
theorem yKP (i n:Nat):∀ (l:List PL) (a:Nat),(zYG i n a l).length≤l.length
 | [],_=>by simp[zYG]
 | z::l,a=>by
   simp only[zYG,List.length_append,List.length_cons];have:=yKP i n l (a+z.cs.length)
   split<;>simp<;>omega
theorem tdel_c (G:List Gl) (s:Gs) [Big t] [hS0:StL p B t] (hp:p.ok) (ho:s.over=false) (hs:GsOK p s) (hr:ovl s.put 64 8=zU 8) (c:Nat) (hc1:1≤c) (hc2:c≤62) (l:List TP) (hl:Chain p s c l) (hn:l.length≤p.n) (hnd:(l.map (·.1)).Nodup) (i n:Nat) (hn1:1≤n) (hin:i+n≤tot (l.map zWM)) :
  EffR G Tryz.prog 153 [.ptr (some ⟨0,0⟩),.int .u32 (zWQ l),.int .i64 c,.int .i64 i,.int .i64 n] (gnd p s B) t (fun v bl nx=>∃ B' s',bl=gnd p s' B'∧StL p B' nx∧Ext B t B' nx ∧
   match zVJ p s (zXB (248 / c) [] (zYG i n 0 (l.map zWM))) with
   | (s1,none)=>v=.tuple [.int .u32 0,.int .i64 7]∧s'=s1
   | (s1,some l1)=>v=.tuple [.int .u32 (yDP l1),.int .i64 0]∧WrA p (zKD (zZR l1) s1 (l.map zWM)) s' c l1 l1.length):=by
 have h1:=hp.big;have h2:=hp.fit;have hlm:(l.map zWM).length=l.length:=List.length_map ..;have htb:tot (l.map zWM)≤248*l.length:=yYY (Chain.fills hl);refine EffR.enter fun Q hQ=>?_
 refine zQV 113 [.tmp 10,.tmp 11] Tryz.func153 ?_
 repeat' (first|refine zQQ 19807040629669466309247499295 ?_|(refine stp ?_;simp only[go_sem])|(refine EffR.at (yPP B G s hp ho hr c hc1 hc2 l hl hn) ?_)|(simp only[go_sem])|fail)
 rintro v bl nx ⟨B1,v1,ps,rfl,rfl,hS1,he1,hps,hout,hreg⟩
 haveI:=hS1;haveI:Big nx:=⟨hS1.big⟩;have h3:=he1.le;have hcount:=count_c (p:=p) B1 G s ps (l.map zWM) hps v1 hout (by omega) (by omega)
 repeat' (first|refine zQQ 19807040629669466309247499295 ?_|(refine stp ?_;simp only[go_sem])|(refine EffR.at hcount ?_)|(simp only[go_sem])|fail)
 rintro v bl nx' ⟨rfl,rfl,rfl⟩
 obtain ⟨r,rfl,hat,hrn⟩:=hout;have hlen:=hps.length
 repeat' (first|refine zQQ 19807040629669466309247499295 ?_|refine zQW ?_|(refine stp ?_;simp only[go_sem])|(simp (disch:=omega) only[zQK])|(refine spl (fun h=>?_) (fun h=>?_)<;>first|omega|((try simp only[zZQ]);(try simp only[go_sem,h])))|fail)
 refine zQM (fun z:Nat × List Pt × List PL × List (Nat × EO) × Nat=>[(0,.ptr (some ⟨0,0⟩)),(2,.int .i64 c),(3,.int .i64 i),(4,.int .i64 n),(12,zVW r ps.length),(15,zVW z.2.2.2.2 z.2.1.length),(16,.int .i64 (tot ((l.map zWM).take z.1))),(56,zVW r ps.length),(57,.int .i64 ps.length),(58,.int .i64 z.1)]) (fun z:Nat × List Pt × List PL × List (Nat × EO) × Nat=>zVY z.2.2.2.2 (ptC z.2.1) 262 3++stB (zXG p s) z.2.2.2.1) (fun z:Nat × List Pt × List PL × List (Nat × EO) × Nat=>z.2.2.2.2+1) (fun z:Nat × List Pt × List PL × List (Nat × EO) × Nat=>z.1≤ps.length∧StL p z.2.2.2.1 z.2.2.2.2∧Ext B1 nx' z.2.2.2.1 z.2.2.2.2∧PsV z.2.2.2.1 z.2.2.2.2 z.2.1 z.2.2.1∧z.2.2.1=zYG i n 0 ((l.map zWM).take z.1)∧z.2.1.length≤z.1) (fun z:Nat × List Pt × List PL × List (Nat × EO) × Nat=>ps.length - z.1) ((0,[],[],B1,nx')) ?_ ?_ ?_ ?_ ?_
 ·rintro ⟨k,ops,opl,B',T⟩ ⟨hk,hS,he,hop,hpl,hoi⟩
  haveI:=hS;have h4:nx'≤T:=he.le;refine ⟨by simp[zWP,show r<T+1 by omega],?_,by show t≤T+1;omega⟩;rw[zXS (by simp) (zQJ (by simp) _ hop.below),Bg.blBelow];trivial
 ·exact ⟨Nat.zero_le _,hS1,Ext.refl _ _,trivial,rfl,Nat.zero_le _⟩
 ·simp only[go_sem,zQS,zWY,List.length_nil,tot];rfl
 ·show zWG _ (stB (zXG p s) B1);simp only[go_sem]
 ·rintro ⟨k,ops,opl,B',T⟩ ⟨hk,hS,he,hop,hpl,hoi⟩
  simp only at hk hS he hop hpl hoi ⊢
  haveI:=hS;haveI:Big T:=⟨hS.big⟩;have h4:nx'≤T:=he.le;have hopl:=hop.length
  rcases Nat.lt_or_ge k ps.length with hkl | hkl
  ·have hA:=((hat (List.ne_nil_of_length_pos (by omega))).mono he).f (p:=p);obtain ⟨x,y,hx,hy,hxb,hxf,hrv⟩:=hps.get2 hkl;obtain ⟨tp,htp⟩:∃ tp,l[k]? = some tp:=⟨l[k]'(by omega),List.getElem?_eq_getElem _⟩;obtain ⟨blk,cs⟩:=tp;rw[List.getElem?_map,htp] at hy
   obtain rfl:y=zWM (blk,cs):=by simpa using hy.symm
   obtain ⟨r0,d,nn,cap0,⟨hcap,htd⟩,hxr,hrow,hdd⟩:=hreg k x (blk,cs) hx htp;have hpin:=hl.get htp;simp only at hpin hrow hdd hcap hxr
   have hpc:=zQF ps;have hg3:=zYX hx;rw[hxr] at hg3
   have hR:=(hrow.mono he).f (p:=p);have hrT:r<T:=by omega
   have hr0T:r0<T:=by have:=hrow.lt;omega
   have hae:=zWZ (b:=r) (n:=ps.length) (by omega);obtain ⟨a,ha⟩:∃ a,tot ((l.map zWM).take k)=a:=⟨_,rfl⟩;obtain ⟨F,hF⟩:∃ F,min (i - a) cs.length=F:=⟨_,rfl⟩;obtain ⟨W,hW⟩:∃ W,min (i+n - a) cs.length=W:=⟨_,rfl⟩;have hFW:F≤W∧W≤cs.length:=by omega
   have e1:min (max ((i:Int) - a) 0) cs.length=F:=by omega
   have e2:min (max ((i:Int)+n - a) 0) cs.length=W:=by omega
   have hfl:=hpin.fill;have hf248:248 / c≤248:=Nat.div_le_self _ _;have hC:=RowV.reg hrv hxr hrow;simp only[zWM] at hC
   generalize zDV d 8 c cs.length cap0=C at *
   have hcF:CellsV B1 nx' (C.take F) (cs.take F):=by have:=hC.1.take F;rwa [List.take_take,Nat.min_eq_left (by omega)] at this
   have hcW:CellsV B1 nx' ((C.drop W).take (cs.length - W)) (cs.drop W):=by have:=hC.1.drop W;rwa [List.drop_take] at this
   have htk:=zDG (l.map zWM) k;rw[ha] at htk
   have w1:IntKind.i64.wrap ((i:Int) - a)=(i:Int) - a:=zQK (by omega) (by omega);have w2:IntKind.i64.wrap ((i:Int)+n - a)=(i:Int)+n - a:=zQK (by omega) (by omega);have i1:(W+(cs.length - W)≤C.length)=True:=eq_true (by omega);have hl2:((C.drop W).take (cs.length - W)).length=cs.length - W:=by rw[hcW.length,List.length_drop]
   have hone:=hcW.one;have hpco:(ptC ops).length=ops.length*3:=by rw[zQF,Nat.mul_comm]
   have hopone:=hop.one;have hss:setL (zVY T (ptC ops) 262 3++stB (zXG p s) B') r0 (.cells C 56 0 true 0)=zVY T (ptC ops) 262 3++stB (zXG p s) B':=yWZ (by rw[zXW,zVF (zST (Nat.le_refl _)) hr0T,hR.1];rfl);have hcut:yMM i n a cs=cs.take F++cs.drop W:=by
    unfold yMM;rw[← hF,← hW]
    congr 1
    ·rcases Nat.le_total (i - a) cs.length with q | q
     ·rw[Nat.min_eq_left q]
     ·rw[Nat.min_eq_right q,List.take_of_length_le q,List.take_length]
    ·rcases Nat.le_total (i+n - a) cs.length with q | q
     ·rw[Nat.min_eq_left q]
     ·rw[Nat.min_eq_right q,List.drop_of_length_le q,List.drop_length]
   have hky:(l.map zWM)[k]? = some (zWM (blk,cs)):=by rw[List.getElem?_map,htp];rfl
   have hts:tot ((l.map zWM).take (k+1))=a+cs.length:=by rw[yQM hky,ha];rfl
   have hpn:zYG i n 0 ((l.map zWM).take (k+1))=opl++if yMM i n a cs=[] then [] else [⟨blk,yMM i n a cs,false⟩]:=by
    rw[zKB hky,yDB,← hpl,ha,Nat.zero_add]
    by_cases hz:yMM i n a cs=[]<;>simp[zYG,zWM,hz]
   have hrpo:∀ q,zZG (nam T q) (ptC ops)=ptC ops:=fun q=>zWB (i:=0) hop.below
   have hbpo:∀ k,zQX (T+k) (ptC ops)=True:=fun k=>eq_true (zQJ (Nat.le_add_right _ _) _ hop.below)
   have hrev:(∀ q,zZG (nam T q) (List.take F C)=List.take F C)∧∀ q,zZG (nam T q) (List.take (cs.length - W) (List.drop W C))=List.take (cs.length - W) (List.drop W C):=⟨fun q=>zWB (i:=0) (hcF.mono he).below,fun q=>zWB (i:=0) (hcW.mono he).below⟩;have hbev:(∀ k,zQX (T+k) (List.take F C)=True)∧∀ k,zQX (T+k) (List.take (cs.length - W) (List.drop W C))=True:=⟨fun k=>eq_true (zQJ (Nat.le_add_right _ _) _ (hcF.mono he).below),fun k=>eq_true (zQJ (Nat.le_add_right _ _) _ (hcW.mono he).below)⟩;have hlF:(cs.take F).length=F:=by rw[List.length_take];omega
   have hlW:(cs.drop W).length=cs.length - W:=List.length_drop ..;have hxb':x.b=(blk:Int):=hxb;rw[hae,ha]
   rcases Nat.lt_or_ge W cs.length with hWl | hWl
   ·have i5:(cs.length - W=0)=False:=eq_false (by omega)
    repeat' (first|(refine zVG (ts:=#[105,105]) ?_;unfold zJN;simp only[go_sem,hR,hR,i1,hl2,i5])|refine zQQ 19807040629669466309247499295 ?_|refine zQW ?_|(refine stp ?_;simp only[go_sem,hA,hg3,e1,w1,Int.toNat_natCast])|(refine zWV (id:=18) mixed [(0,[]),(2,[]),(3,[]),(5,[]),(7,[]),(1,[]),(4,[]),(6,[]),(8,[]),(9,[]),(10,[])] (by kernel_rfl) ?_;simp only[go_sem,hR,Int.toNat_natCast])|(refine fun cX hX=>?_)|(refine zJJ (c:=ptC ops) (by omega) (by omega) (by first|(simp;done)|fail) (by first|(simp;done)|fail) (by omega) (by first|(simp;done)|fail) (by first|(simp[EV.one];done)|fail) (by simp;omega) ?_;(try simp only[go_sem]))|(simp only[go_sem,e2,Int.toNat_natCast])|(simp (disch:=omega) only[zQK])|(refine spl (fun h=>?_) (fun h=>?_)<;>first|omega|try simp only[go_sem,h])|(refine zQT ?_ ?_;focus omega))
    (refine ⟨(k+1,ops++[⟨x.b,.slice (some ⟨T,0⟩) (F+(cs.length - W)) cX,false⟩],opl++[⟨blk,yMM i n a cs,false⟩],(T,.cells (List.take F C++List.take (cs.length - W) (List.drop W C)++zYH (cX - (F+(cs.length - W)))) 56 0 true 0)::B',T+1),T,[T+13,T+15],?_,?_,rfl,rfl,?_,⟨?_,rfl,?_,?_,?_,?_,?_⟩⟩;rotate_left;(focus (simp only[];omega));(focus (simp only[go_sem,zQS,hrT,hts,Int.natCast_add,zZK,List.length_append]));(focus (omega));(focus simp);(focus (simp));(focus (simp only[];omega));(focus (simp[Nat.add_assoc,zWS,zJG,zZV,hbpo,hbev,zVS]));(focus (simp[zWS,zJG,zZV,hrpo,hrev]));(try simp only[]))
    have hrn:=yZP (p:=p) (hcF.mono he) (hcW.mono he) cX (by rw[hlF,hlW];exact hX);rw[hlF,hlW] at hrn
    have hcne:yMM i n a cs ≠ []:=by
     rw[hcut];intro e;have:=congrArg List.length e;rw[List.length_append,hlF,hlW] at this
     simp at this;omega
    refine ⟨hkl,hrn.1,he.trans hrn.2.1,(hop.mono hrn.2.1).append ⟨⟨hxb',rfl,by rw[hcut];exact hrn.2.2⟩,trivial⟩,by rw[hpn,if_neg hcne],by rw[List.length_append];simp;omega⟩
   ·repeat' (first|refine zQQ 19807040629669466309247499295 ?_|refine zQW ?_|(refine stp ?_;simp only[go_sem,hA,hg3,hR,e1,w1,i1,hl2,hone,Int.toNat_natCast])|(refine zWV (id:=18) mixed [(0,[]),(2,[]),(3,[]),(5,[]),(7,[]),(1,[]),(4,[]),(6,[]),(8,[]),(9,[]),(10,[])] (by kernel_rfl) ?_;simp only[go_sem,hR,Int.toNat_natCast])|(refine zJJ (c:=ptC ops) (by omega) (by omega) (by first|(simp;done)|fail) (by first|(simp;done)|fail) (by omega) (by first|(simp;done)|fail) (by first|(simp[EV.one];done)|fail) (by simp;omega) ?_;(try simp only[go_sem]))|(simp only[go_sem,e2,Int.toNat_natCast])|(simp (disch:=omega) only[zQK])|(refine spl (fun h=>?_) (fun h=>?_)<;>first|omega|((try simp only[go_sem,zRQ,hss,h])))|(refine zQT ?_ ?_;focus omega))
    all_goals (have hW2:cs.drop W=[]:=List.drop_of_length_le hWl)
    ·(refine ⟨(k+1,ops++[⟨x.b,.slice (some ⟨r0,0⟩) F F,false⟩],opl++[⟨blk,yMM i n a cs,false⟩],B',T),T,[T+14],?_,?_,rfl,rfl,?_,⟨?_,rfl,?_,?_,?_,?_,?_⟩⟩;rotate_left;(focus (simp only[];omega));(focus (simp[go_sem,zQS,hrT,hts,Int.natCast_add,zZK,List.length_append]));(focus (omega));(focus simp);(focus (simp));(focus (simp only[];omega));(focus (simp[zWS,zJG,zZV,hbpo];omega));(focus (simp[hr0T,zWS,zJG,zZV,hrpo]));(try simp only[]))
     have hcne:yMM i n a cs ≠ []:=by
      rw[hcut];intro e;have:=congrArg List.length e;rw[List.length_append,hlF] at this
      simp at this;omega
     refine ⟨hkl,hS,he,hop.append ⟨⟨hxb',rfl,?_⟩,trivial⟩,by rw[hpn,if_neg hcne],by rw[List.length_append];simp;omega⟩;rw[hcut,hW2,List.append_nil];refine ⟨r0,0,F,C,true,0,by rw[hlF],hrow.mono he,⟨by rw[hlF];omega,by rw[hlF];exact Nat.le_refl _⟩,?_⟩;rw[List.drop_zero,hlF];exact hcF.mono he
    ·(refine ⟨(k+1,ops,opl,B',T),T,[T],?_,?_,rfl,rfl,?_,⟨?_,rfl,?_,?_,?_,?_,?_⟩⟩;rotate_left;(focus (simp only[];omega));(focus (simp[go_sem,zQS,hrT,hts,Int.natCast_add]));(focus (omega));(focus simp);(focus (simp));(focus (simp only[];omega));(focus (simp[hbpo]));(focus (simp[hrpo]));(try simp only[]))
     have hF0:F=0:=by omega
     have hcne:yMM i n a cs=[]:=by rw[hcut,hW2,hF0];rfl
     exact ⟨hkl,hS,he,hop,by rw[hpn,if_pos hcne,List.append_nil],by omega⟩
  ·obtain rfl:k=ps.length:=by omega
   have hfill:=fill_c G c hc1 hc2;have hf248:248 / c≤248:=Nat.div_le_self _ _;have hpl2:opl=zYG i n 0 (l.map zWM):=by rw[hpl,List.take_of_length_le (by omega)]
   have hcsl:∀ y∈l.map zWM,y.cs.length≤248 / c∧∀ x∈y.cs,x.length=c:=fun y hy=>by
    obtain ⟨x,hx,rfl⟩:=List.mem_map.1 hy;obtain ⟨k,hk,e⟩:=List.mem_iff_getElem.1 hx;have:=hl.get (k:=k) (x:=x) (by rw[← e];exact List.getElem?_eq_getElem hk);exact ⟨this.fill,this.len⟩
   have hlen1:=yPV (i:=i) (n:=n) (c:=c) (a:=0) hcsl;have hx:=zRJ (p:=p) (B':=B') (T:=T) (ty:=262) (k:=3) (n:=ops.length) (c:=ptC ops) (zQJ (Nat.le_succ _) _ hop.below) (by rw[zQF];omega) (by omega);haveI:=hx.1;haveI:Big (T+1):=⟨hx.1.big⟩;have hset:=yJT (p:=p) (zVY T (ptC ops) 262 3++B') G s (248 / c) hf248 ops opl (hop.mono hx.2.1) (zVW T ops.length) hx.2.2.out (fun y hy=>⟨(hlen1 y (hpl2 ▸ hy)).1,(hlen1 y (hpl2 ▸ hy)).2.1⟩) (by omega)
   repeat' (first|refine zQQ 19807040629669466309247499295 ?_|(refine stp ?_;simp only[go_sem])|(refine Pure.at (hfill) (by simp) (by simp) rfl ?_;(try simp only[go_sem]))|(rw[← zTN];refine EffR.at hset ?_)|(simp only[go_sem])|(refine spl (fun h=>?_) (fun h=>?_)<;>first|omega|try simp only[go_sem,h])|fail)
   rintro v bl nx2 ⟨B2,ops2,rfl,hS2,he2,hop2,r2,rfl,hat2,hr2,hr2'⟩
   haveI:=hS2;haveI:Big nx2:=⟨hS2.big⟩;have h5:=he2.le;have heA:=(he.trans hx.2.1).trans he2;rw[hpl2] at hop2
   have hst:=zPP (248 / c) (zYG i n 0 (l.map zWM));have hpd:=yPZ (i:=i) (n:=n) (l:=l.map zWM) (a:=0);rw[zBQ] at hpd
   have hmem:∀ z∈l.map zWM,∃ b:Nat,z.b=b∧b<p.n∧b∈s.taken:=fun z hz=>by
    obtain ⟨x,hx,rfl⟩:=List.mem_map.1 hz;obtain ⟨k,hk,e⟩:=List.mem_iff_getElem.1 hx;have:=hl.get (k:=k) (x:=x) (by rw[← e];exact List.getElem?_eq_getElem hk);exact ⟨x.1,rfl,this.lt,this.use⟩
   have hcar:=yFZ B2 G s hp ho hs.least c hc1 hc2 ps (l.map zWM) (hps.mono heA) r (fun hn=>(hat hn).mono heA) (by omega) ops2 (zXB (248 / c) [] (zYG i n 0 (l.map zWM))) hop2 r2 hat2 hr2 (by omega)
    (zJY _ (fun y=>y.b = -1∨∃ b:Nat,y.b=b∧b<p.n∧b∈s.taken) (fun q y _ q1 q2=>by simp only[zTM];split<;>assumption) _ (fun y hy=>by
     obtain ⟨z,q1,q2⟩:=yPK y hy;rw[q2];exact .inr (hmem z q1)))
    (fun y hy=>by obtain ⟨b,q1,-,q3⟩:=hmem y hy;exact ⟨b,q1,q3⟩) (by rw[show zZR (l.map zWM)=l.map (·.1) by simp[zZR,zWM]];exact hnd)
    (zJY _ (fun y=>1≤y.cs.length∧y.cs.length≤248 / c∧∀ x∈y.cs,x.length=c) (fun q y hf q1 q2=>by
     simp only[zTM,List.length_append];refine ⟨by omega,hf,fun x hx=>?_⟩
     rcases List.mem_append.1 hx with w | w
     ·exact q1.2.2 x w
     ·exact q2.2.2 x w) _ hlen1)
    (by have:=zSQ (248 / c) (zYG i n 0 (l.map zWM));have:=yKP i n (l.map zWM) 0;omega) (by omega)
    (fun s1 l1 hf=>by
     obtain ⟨nw,-,-,q3,-⟩:=zPT _ s hs (fun b hb=>by
      obtain ⟨x,hx,rfl⟩:=List.mem_map.1 ((hst.1.trans hpd).subset hb);obtain ⟨b,q1,-,q3⟩:=hmem (zWM x) (List.mem_map.2 ⟨x,hx,rfl⟩);have q4:x.1=b:=by have:(x.1:Int)=b:=q1;omega
      rw[q4];exact q3) ((hst.1.trans hpd).nodup hnd) s1 l1 hf
     exact q3)
   repeat' (first|(refine EffR.at hcar ?_)|(simp only[go_sem])|fail)
   rintro v bl nx3 ⟨B3,s',rfl,rfl,hS3,hsame,hres⟩
   have hxt:Ext B t B3 nx3:=⟨by omega,fun i hi=>(hsame i (by omega)).trans ((he1.trans heA).same i hi)⟩
   cases hfg:zVJ p s (zXB (248 / c) [] (zYG i n 0 (l.map zWM))) with
   | mk s1 o=>
     rw[hfg] at hres
     cases o with
     | none=>
       obtain ⟨rfl,rfl⟩:=hres
       repeat' (first|(refine stp ?_;simp only[go_sem])|(simp only[go_sem])|fail)
       refine zWX hQ (by omega) (Bg.below (t:=nx3)) (by simp[EV.bel]) ⟨B3,_,rfl,hS3,hxt,?_⟩;rw[hfg];exact ⟨rfl,rfl⟩
     | some l1=>
       obtain ⟨rfl,hw⟩:=hres
       repeat' (first|(refine stp ?_;simp only[go_sem])|(simp only[go_sem])|fail)
       refine zWX hQ (by omega) (Bg.below (t:=nx3)) (by simp[EV.bel]) ⟨B3,_,rfl,hS3,hxt,?_⟩;rw[hfg];exact ⟨rfl,hw⟩
theorem xPZ (i n:Nat):∀ (l:List PL) (a:Nat),(zYG i n a l).flatMap (·.cs)=(l.flatMap (·.cs)).take (i - a)++(l.flatMap (·.cs)).drop (i+n - a)
 | [],_=>by simp[zYG]
 | y::l,a=>by
   simp only[zYG,List.flatMap_append,List.flatMap_cons,xPZ i n l];have e:(if yMM i n a y.cs=[] then [] else [(⟨y.b,yMM i n a y.cs,false⟩:PL)]).flatMap (·.cs)=yMM i n a y.cs:=by
    by_cases hz:yMM i n a y.cs=[]<;>simp[hz]
   rw[e,List.take_append,List.drop_append];unfold yMM;have e1:i - (a+y.cs.length)=i - a - y.cs.length:=by omega
   have e2:i+n - (a+y.cs.length)=i+n - a - y.cs.length:=by omega
   rw[e1,e2]
   rcases Nat.lt_or_ge (i - a) y.cs.length with q | q
   ·rw[show i - a - y.cs.length=0 by omega];simp
   ·rw[show List.drop (i+n - a) y.cs=[] from List.drop_of_length_le (by omega)];simp
theorem zMR:∀ (n:Nat) (l:List Nat),l.Nodup→(∀ b∈l,b<n)→l.length≤n
 | 0,[],_,_=>Nat.le_refl _
 | 0,b::l,_,h=>absurd (h b (List.mem_cons_self ..)) (by omega)
 | n+1,l,hn,h=>by
   have:=zMR n (l.erase n) (hn.erase n) fun b hb=>by
    have h1:=h b (List.mem_of_mem_erase hb);have h2:=(hn.mem_erase_iff.1 hb).1;omega
   rw[List.length_erase] at this
   split at this<;>omega
theorem GsOK.len {s:Gs} (h:GsOK p s):s.taken.length≤p.n:=zMR _ _ h.nd h.lt
theorem xVK:∀ {l:List PL},(∀ y∈l,0≤y.b)→zRD l=0
 | [],_=>rfl
 | y::l,h=>by
   have:=h y (List.mem_cons_self ..);simp only[zRD];rw[if_neg (by omega),xVK fun y hy=>h y (List.mem_cons_of_mem _ hy)]
theorem yFF (G:List Gl) (s:Gs) [Big t] [hS0:StL p B t] (hp:p.ok) (ho:s.over=false) (hs:GsOK p s) (hr:ovl s.put 64 8=zU 8) (c:Nat) (hc1:1≤c) (hc2:c≤62) (l:List TP) (hl:Chain p s c l) (hn:l.length≤p.n) (hnd:(l.map (·.1)).Nodup) (i n:Nat) (hn1:1≤n) (hin:i+n≤tot (l.map zWM)) :
  EffR G Tryz.prog 153 [.ptr (some ⟨0,0⟩),.int .u32 (zWQ l),.int .i64 c,.int .i64 i,.int .i64 n] (gnd p s B) t (fun v bl nx=>∃ B' s',bl=gnd p s' B'∧StL p B' nx∧Ext B t B' nx ∧
   ∃ lt,v=.tuple [.int .u32 (zWQ lt),.int .i64 0]∧TabOK p s c (l.map (·.1)) ((l.flatMap (·.2)).take i++(l.flatMap (·.2)).drop (i+n)) s' lt):=by
 refine EffR.mono (tdel_c B G s hp ho hs hr c hc1 hc2 l hl hn hnd i n hn1 hin) ?_
 rintro v bl nx ⟨B',s',h1,h2,h3,h4⟩
 refine ⟨B',s',h1,h2,h3,?_⟩;have hcsl:∀ y∈l.map zWM,(∃ b:Nat,y.b=b)∧y.cs.length≤248 / c∧∀ x∈y.cs,x.length=c:=fun y hy=>by
  obtain ⟨x,hx,rfl⟩:=List.mem_map.1 hy;obtain ⟨k,hk,e⟩:=List.mem_iff_getElem.1 hx;have:=hl.get (k:=k) (x:=x) (by rw[← e];exact List.getElem?_eq_getElem hk);exact ⟨⟨x.1,rfl⟩,this.fill,this.len⟩
 have hpd:=yPZ (i:=i) (n:=n) (l:=l.map zWM) (a:=0);rw[zBQ] at hpd
 have hnn:∀ y∈zYG i n 0 (l.map zWM),0≤y.b:=fun y hy=>by
  obtain ⟨z,q1,q2⟩:=yPK y hy;obtain ⟨⟨b,q3⟩,-⟩:=hcsl z q1;rw[q2,q3];exact Int.natCast_nonneg _
 cases hfg:zVJ p s (zXB (248 / c) [] (zYG i n 0 (l.map zWM))) with
 | mk s1 o=>
   rw[hfg] at h4
   cases o with
   | none=>
     have:=zSS _ s hs s1 hfg;have q:=(zPP (248 / c) (zYG i n 0 (l.map zWM))).2;have q2:zRD (zYG i n 0 (l.map zWM))=0:=xVK hnn;have:=hs.len;omega
   | some l1=>
     obtain ⟨rfl,hw⟩:=h4;refine ⟨l1.map yFB,by rw[xYF],?_⟩;have:=plan_ok hc1 hs hl hnd (yPV fun y hy=>(hcsl y hy).2) (fun y hy=>.inr (hnn y hy)) (fun b hb=>hpd.subset hb) (hpd.nodup hnd) hfg hw;rw[xPZ] at this
     simpa [zWM,List.flatMap_map] using this
end
section
variable {p:Gp} (B:List (Nat × EO)) {t:Nat}
def zVZ (fill:Nat):Nat→Int→List Cell→List PL
 | 0,_,_=>[]
 | n+1,b,cs=>if cs=[] then [] else ⟨b,cs.take fill,false⟩::zVZ fill n (-1) (cs.drop fill)
def zJX (fill:Nat) (l:List PL) (i:Nat) (ins:List Cell):List PL:=
 match l with
 | []=>zVZ fill ins.length (-1) ins
 | _::_=>
   let q:=match zBK l i with
    | some q=>q
    | none=>(l.length - 1,(l.getLast?.map fun (y:PL)=>y.cs.length).getD 0)
   match l[q.1]? with
   | some y=>l.take q.1++zVZ fill (y.cs.length+ins.length) y.b (y.cs.take q.2++ins++y.cs.drop q.2)++l.drop (q.1+1)
   | none=>l
theorem zBV:∀ {l:List PL} {i:Nat} {q:Nat × Nat},zBK l i=some q→∃ y,l[q.1]? = some y∧q.2<y.cs.length∧tot (l.take q.1)+q.2=i
 | [],i,q,h=>by simp[zBK] at h
 | y::l,i,q,h=>by
   simp only[zBK] at h
   split at h
   ·rename_i hi
    cases h
    exact ⟨y,rfl,hi,by simp[tot]⟩
   ·simp only[Option.map_eq_some_iff] at h
    obtain ⟨q',h1,rfl⟩:=h;obtain ⟨z,h2,h3,h4⟩:=zBV h1;refine ⟨z,by simpa using h2,h3,?_⟩;have:tot ((y::l).take (q'.1+1))=y.cs.length+tot (l.take q'.1):=by simp[tot]
    show tot ((y::l).take (q'.1+1))+q'.2=i;omega
theorem yVQ:∀ {l:List PL} {i:Nat},zBK l i=none→tot l≤i
 | [],i,_=>by simp[tot]
 | y::l,i,h=>by
   simp only[zBK] at h
   split at h
   ·cases h
   ·rename_i hi
    simp only[Option.map_eq_none_iff] at h
    have:=yVQ h;have:tot (y::l)=y.cs.length+tot l:=by simp[tot]
    omega
theorem EffR.toW {G:List Gl} {P:Program} {g:FuncId} {args:List EV} {v0:EV} (h:EffR G P g args B t (fun v bl nx=>v=v0∧bl=B∧nx=t)):EffW G P g args t [] B 0 v0 [] B 0:=by
 unfold EffW Eff;refine ECalls.mono h ?_
 rintro x s ⟨π,x0,s0,hC,v,rfl,hg,rfl,rfl,rfl⟩
 refine ⟨π,_,s0,hC,rfl,?_⟩
 cases s0
 simp only at hg
 subst hg;rfl
theorem lessL_self {l:List (Nat × EO)} {n:Nat} {G:List Gl} (hk:zWN l) (hb:blBelow n l):zWG ⟨l,n,G⟩ l:=yNN fun i o hm=>by
 have h1:=(zXY hb hm).1;unfold ES.get;rw[if_pos h1];exact zJR hk hm
theorem yTH (fill:Nat) (hf:1≤fill):∀ (n m:Nat) (b:Int) (cs:List Cell),cs.length≤n→cs.length≤m→zVZ fill n b cs=zVZ fill m b cs
 | 0,0,_,_,_,_=>rfl
 | 0,m+1,b,cs,h,_=>by
   have:cs=[]:=List.eq_nil_of_length_eq_zero (by omega);simp[zVZ,this]
 | n+1,0,b,cs,_,h=>by
   have:cs=[]:=List.eq_nil_of_length_eq_zero (by omega);simp[zVZ,this]
 | n+1,m+1,b,cs,h1,h2=>by
   simp only[zVZ]
   by_cases hc:cs=[]
   ·simp[hc]
   ·rw[if_neg hc,if_neg hc];have:1≤cs.length:=List.length_pos_iff.2 hc;rw[yTH fill hf n m (-1) (cs.drop fill) (by rw[List.length_drop];omega) (by rw[List.length_drop];omega)]
theorem yTB {fill:Nat} (hf:1≤fill):∀ (n:Nat) (b:Int) (cs:List Cell),cs.length≤n→(zVZ fill n b cs).flatMap (·.cs)=cs
 | 0,b,cs,h=>by
   have:cs=[]:=List.eq_nil_of_length_eq_zero (by omega);subst this;rfl
 | n+1,b,cs,h=>by
   simp only[zVZ]
   by_cases hc:cs=[]
   ·subst hc;rfl
   ·rw[if_neg hc];have:1≤cs.length:=List.length_pos_iff.2 hc;rw[List.flatMap_cons,yTB hf n (-1) _ (by rw[List.length_drop];omega)];exact List.take_append_drop fill cs
theorem yVH {fill c:Nat} (hf:1≤fill):∀ (n:Nat) (b:Int) (cs:List Cell),(∀ x∈cs,x.length=c)→∀ y∈zVZ fill n b cs,1≤y.cs.length∧y.cs.length≤fill∧∀ x∈y.cs,x.length=c
 | 0,b,cs,h,y,hy=>by simp[zVZ] at hy
 | n+1,b,cs,h,y,hy=>by
   simp only[zVZ] at hy
   by_cases hc:cs=[]
   ·rw[if_pos hc] at hy;simp at hy
   ·rw[if_neg hc] at hy
    have h1:1≤cs.length:=List.length_pos_iff.2 hc
    rcases List.mem_cons.1 hy with rfl | hy
    ·refine ⟨?_,?_,fun x hx=>h x (List.take_subset _ _ hx)⟩<;>simp only[List.length_take]<;>omega
    ·exact yVH hf n (-1) _ (fun x hx=>h x (List.drop_subset _ _ hx)) y hy
theorem yVS {fill:Nat}:∀ (n:Nat) (b:Int) (cs:List Cell),(zRW (zVZ fill n b cs)).Sublist (if b = -1 then [] else [b.toNat])∧∀ y∈zVZ fill n b cs,y.b = -1∨y.b=b
 | 0,b,cs=>⟨List.nil_sublist _,fun y hy=>by simp[zVZ] at hy⟩
 | n+1,b,cs=>by
   simp only[zVZ]
   by_cases hc:cs=[]
   ·rw[if_pos hc];exact ⟨List.nil_sublist _,fun y hy=>by simp at hy⟩
   ·rw[if_neg hc];obtain ⟨h1,h2⟩:=yVS n (-1) (cs.drop fill);rw[if_pos rfl,List.sublist_nil] at h1
    refine ⟨?_,fun y hy=>?_⟩
    ·by_cases hb:b = -1
     ·simp only[zRW,if_pos hb];rw[h1];exact List.Sublist.refl _
     ·simp only[zRW,if_neg hb];rw[h1];exact List.Sublist.refl _
    ·rcases List.mem_cons.1 hy with rfl | hy
     ·exact .inr rfl
     ·exact .inl ((h2 y hy).elim id id)
theorem zNJ {fill:Nat}:∀ (n:Nat) (b:Int) (cs:List Cell),(zVZ fill n b cs).length≤n
 | 0,b,cs=>by simp[zVZ]
 | n+1,b,cs=>by
   simp only[zVZ]
   split
   ·simp
   ·have:=zNJ (fill:=fill) n (-1) (cs.drop fill)
    simp;omega
def RowZ (B:List (Nat × EO)) (t:Nat) (v:EV) (cs:List Cell):Prop:=
 ∃ r o cap C z w f,v=.slice (some ⟨r,o⟩) cs.length cap∧AtB B t r (.cells C 56 z w f)∧(o+cs.length≤C.length∧cs.length≤cap)∧CellsV B t ((C.drop o).take cs.length) cs
def zJZ (l:List PL) (i:Nat):Nat × Nat:=match zBK l i with
 | some q=>q
 | none=>(l.length - 1,(l.getLast?.map fun (y:PL)=>y.cs.length).getD 0)
theorem yDN {l:List PL} {i:Nat} (hl:l ≠ []) (hi:i≤tot l):∃ y,l[(zJZ l i).1]? = some y∧(zJZ l i).2≤y.cs.length∧tot (l.take (zJZ l i).1)+(zJZ l i).2=i:=by
 unfold zJZ
 cases hq:zBK l i with
 | some q=>
   obtain ⟨y,h1,h2,h3⟩:=zBV hq;exact ⟨y,h1,Nat.le_of_lt h2,h3⟩
 | none=>
   have h1:=yVQ hq
   rcases List.eq_nil_or_concat l with rfl | ⟨m,y,rfl⟩
   ·exact absurd rfl hl
   ·rw[List.concat_eq_append] at *
    have e:tot (m++[y])=tot m+y.cs.length:=by simp[tot]
    refine ⟨y,by simp,by simp,?_⟩;simp;omega
theorem zFR (fill:Nat) {l:List PL} (hl:l ≠ []) (i:Nat) (ins:List Cell) {y:PL} (hy:l[(zJZ l i).1]? = some y):zJX fill l i ins=l.take (zJZ l i).1++zVZ fill (y.cs.length+ins.length) y.b (y.cs.take (zJZ l i).2++ins++y.cs.drop (zJZ l i).2)++l.drop ((zJZ l i).1+1):=by
 cases l with
 | nil=>exact absurd rfl hl
 | cons z m=>
   unfold zJX;simp only
   change (match (z::m)[(zJZ (z::m) i).1]? with | some y=>_ | none=>_)=_
   rw[hy];rfl
theorem split_at {l:List PL} {k:Nat} {y:PL} (h:l[k]? = some y):l=l.take k++y::l.drop (k+1):=by
 have hl:=(List.getElem?_eq_some_iff.1 h).1
 conv=>lhs;rw[← List.take_append_drop k l,List.drop_eq_getElem_cons hl]
 rw[(List.getElem?_eq_some_iff.1 h).2]
theorem xPX {fill c:Nat} (hf:1≤fill) {l:List PL} {i:Nat} (hi:i≤tot l) {ins:List Cell} (hic:∀ x∈ins,x.length=c) (hl:∀ y∈l,1≤y.cs.length∧y.cs.length≤fill∧∀ x∈y.cs,x.length=c) (hb:∀ y∈l,0≤y.b) :
  (∀ y∈zJX fill l i ins,1≤y.cs.length∧y.cs.length≤fill∧∀ x∈y.cs,x.length=c)∧(∀ y∈zJX fill l i ins,y.b = -1∨∃ z∈l,y.b=z.b)∧(zRW (zJX fill l i ins)).Sublist (zRW l)∧(zJX fill l i ins).length≤l.length+fill+ins.length∧(zJX fill l i ins).flatMap (·.cs)=(l.flatMap (·.cs)).take i++ins++(l.flatMap (·.cs)).drop i:=by
 by_cases hn:l=[]
 ·subst hn;have hi0:i=0:=by simpa [tot] using hi
  subst hi0;obtain ⟨h1,h2⟩:=yVS (fill:=fill) ins.length (-1) ins;rw[if_pos rfl] at h1
  refine ⟨yVH hf _ _ _ hic,fun y hy=>.inl ((h2 y hy).elim id id),h1,?_,?_⟩
  ·have:=zNJ (fill:=fill) ins.length (-1) ins;show (zVZ fill ins.length (-1) ins).length≤_;omega
  ·show (zVZ fill ins.length (-1) ins).flatMap (·.cs)=_;rw[yTB hf _ _ _ (Nat.le_refl _)];simp
 ·obtain ⟨y,h1,h2,h3⟩:=yDN hn hi;rw[zFR fill hn i ins h1];have hs:=split_at h1;generalize (zJZ l i).1=k at *
  generalize (zJZ l i).2=n at *
  have hym:=List.mem_of_getElem? h1;obtain ⟨hy1,hy2,hy3⟩:=hl y hym;have hyb:=hb y hym;obtain ⟨o1,o2⟩:=yVS (fill:=fill) (y.cs.length+ins.length) y.b (y.cs.take n++ins++y.cs.drop n);rw[if_neg (by omega)] at o1
  have hcl:(y.cs.take n++ins++y.cs.drop n).length=y.cs.length+ins.length:=by simp;omega
  refine ⟨fun z hz=>?_,fun z hz=>?_,?_,?_,?_⟩
  ·rcases List.mem_append.1 hz with hz | hz
   ·rcases List.mem_append.1 hz with hz | hz
    ·exact hl z (List.take_subset _ _ hz)
    ·refine yVH hf _ _ _ (fun x hx=>?_) z hz
     rcases List.mem_append.1 hx with hx | hx
     ·rcases List.mem_append.1 hx with hx | hx
      ·exact hy3 x (List.take_subset _ _ hx)
      ·exact hic x hx
     ·exact hy3 x (List.drop_subset _ _ hx)
   ·exact hl z (List.drop_subset _ _ hz)
  ·rcases List.mem_append.1 hz with hz | hz
   ·rcases List.mem_append.1 hz with hz | hz
    ·exact .inr ⟨z,List.take_subset _ _ hz,rfl⟩
    ·exact (o2 z hz).imp id fun e=>⟨y,hym,e⟩
   ·exact .inr ⟨z,List.drop_subset _ _ hz,rfl⟩
  ·have e:zRW l=zRW (l.take k)++([y.b.toNat]++zRW (l.drop (k+1))):=by
    conv=>lhs;rw[hs,zTK,xQW]
    simp only[zRW];rw[if_neg (by omega)]
   rw[e,zTK,zTK,List.append_assoc];exact List.Sublist.append (List.Sublist.refl _) (List.Sublist.append o1 (List.Sublist.refl _))
  ·have:=zNJ (fill:=fill) (y.cs.length+ins.length) y.b (y.cs.take n++ins++y.cs.drop n);have h4:=(List.getElem?_eq_some_iff.1 h1).1;simp only[List.length_append,List.length_take,List.length_drop];omega
  ·rw[List.flatMap_append,List.flatMap_append,yTB hf _ _ _ (by omega)];have ht:∀ m:List PL,(m.flatMap (·.cs)).length=tot m:=fun m=>by simp[tot,List.length_flatMap]
   have e:l.flatMap (·.cs)=(l.take k).flatMap (·.cs)++(y.cs++(l.drop (k+1)).flatMap (·.cs)):=by
    conv=>lhs;rw[hs]
    rw[List.flatMap_append,List.flatMap_cons]
   rw[e,← h3,← ht];generalize (l.take k).flatMap (·.cs)=a;generalize (l.drop (k+1)).flatMap (·.cs)=d;rw[List.take_length_add_append,List.drop_length_add_append,List.take_append_of_le_length h2,List.drop_append_of_le_length h2];simp
end
end Go.Proofs.YtncphnpndkjkaaaGreatDoor
