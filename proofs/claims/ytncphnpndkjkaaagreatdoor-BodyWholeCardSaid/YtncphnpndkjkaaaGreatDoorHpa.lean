/-
  Own work: a part of the proof that the last text closes.
-/
import Derived.Test.YtncphnpndkjkaaaGreatDoorHp
namespace Go.Proofs.YtncphnpndkjkaaaGreatDoor
open Go.E
set_option linter.all false
set_option maxRecDepth 100000
set_option maxHeartbeats 16000000
section
def delX (f g o:Nat) (x:Ck):List Ck:=
 if min (g - o) x.T.length≤f - o then [x]
 else if min (g - o) x.T.length - (f - o)<x.T.length then [⟨x.T.take (f - o)++x.T.drop (min (g - o) x.T.length),f - o,x.b⟩] else []
def yZW (f g:Nat):Nat→List Ck→List Ck
 | _,[]=>[]
 | o,x::l=>delX f g o x++yZW f g (o+x.T.length) l
theorem xRF (f g:Nat):∀ (l m:List Ck) (o:Nat),yZW f g o (l++m)=yZW f g o l++yZW f g (o+zVM l) m
 | [],m,o=>rfl
 | x::l,m,o=>by
   rw[List.cons_append,yZW,yZW,xRF f g l m,yYP,List.append_assoc,Nat.add_assoc]
theorem delP_succ {f g:Nat} {l:List Ck} {i:Nat} {x:Ck} (h:l[i]? = some x):yZW f g 0 (l.take (i+1))=yZW f g 0 (l.take i)++delX f g (zVM (l.take i)) x:=by
 rw[List.take_succ,h,xRF,Nat.zero_add];simp[yZW]
theorem delX_flat (f g o:Nat) (x:Ck) (h:f<g):zQP (delX f g o x)=x.T.take (f - o)++x.T.drop (g - o):=by
 unfold delX;have hd:x.T.drop (min (g - o) x.T.length)=x.T.drop (g - o):=by
  rcases Nat.le_total (g - o) x.T.length with q | q
  ·rw[Nat.min_eq_left q]
  ·rw[Nat.min_eq_right q,List.drop_length,List.drop_of_length_le q]
 rw[hd]
 split
 ·rename_i h1
  rcases Nat.lt_or_ge (f - o) (g - o) with q | q
  ·rw[List.take_of_length_le (by omega),List.drop_of_length_le (by omega)];simp[zQP]
  ·have e1:g - o=0:=by omega
   have e2:f - o=0:=by omega
   rw[e1,e2];simp[zQP]
 ·split
  ·simp[zQP]
  ·rename_i h1 h2
   have e2:f - o=0:=by omega
   rw[e2,List.drop_of_length_le (by omega)];rfl
theorem xXX (f g:Nat) (h:f<g):∀ (l:List Ck) (o:Nat),zQP (yZW f g o l)=(zQP l).take (f - o)++(zQP l).drop (g - o)
 | [],o=>by simp[yZW,zQP]
 | x::l,o=>by
   rw[yZW,yWF,delX_flat f g o x h,xXX f g h l,yHW,List.take_append,List.drop_append,show f - (o+x.T.length)=f - o - x.T.length by omega,show g - (o+x.T.length)=g - o - x.T.length by omega];simp only[List.append_assoc]
   congr 1
   rcases Nat.le_total (f - o) x.T.length with q | q
   ·rw[show f - o - x.T.length=0 by omega,List.take_zero,List.nil_append,List.nil_append]
   ·rw[List.drop_of_length_le (l:=x.T) (by omega),List.nil_append,List.nil_append]
theorem delX_part (f g o:Nat) (x:Ck) (hp:1≤x.T.length) (hf:x.f≤x.T.length):∀ y∈delX f g o x,y.b=x.b∧1≤y.T.length∧y.T.length≤x.T.length∧y.f≤y.T.length:=by
 intro y hy;unfold delX at hy
 split at hy
 ·obtain rfl:=List.mem_singleton.1 hy;exact ⟨rfl,hp,Nat.le_refl _,hf⟩
 ·split at hy
  ·obtain rfl:=List.mem_singleton.1 hy;refine ⟨rfl,?_,?_,?_⟩<;>simp only[List.length_append,List.length_take,List.length_drop]<;>omega
  ·cases hy
theorem delX_old (f g o:Nat) (x:Ck) (hb:0≤x.b):(zRW ((delX f g o x).map zJD)).Sublist [x.b.toNat]∧zRD ((delX f g o x).map zJD)=0∧(delX f g o x).length≤1:=by
 unfold delX
 split
 ·refine ⟨?_,?_,Nat.le_refl _⟩
  ·rw[List.map_cons,zHP (by exact hb)];exact List.Sublist.refl _
  ·rw[List.map_cons,zTJ (by exact hb)];rfl
 ·split
  ·refine ⟨?_,?_,Nat.le_refl _⟩
   ·rw[List.map_cons,zHP (by exact hb)];exact List.Sublist.refl _
   ·rw[List.map_cons,zTJ (by exact hb)];rfl
  ·exact ⟨List.nil_sublist _,rfl,Nat.zero_le _⟩
theorem yMG (f g:Nat):∀ (l:List Ck) (o:Nat),(∀ x∈l,0≤x.b)→(zRW ((yZW f g o l).map zJD)).Sublist (zZN l)∧zRD ((yZW f g o l).map zJD)=0∧(yZW f g o l).length≤l.length
 | [],o,_=>⟨List.Sublist.refl _,rfl,Nat.le_refl _⟩
 | x::l,o,hb=>by
   obtain ⟨h1,h2,h3⟩:=yMG f g l (o+x.T.length) fun y hy=>hb y (List.mem_cons_of_mem _ hy)
   obtain ⟨k1,k2,k3⟩:=delX_old f g o x (hb x (List.mem_cons_self ..));rw[yZW,List.map_append,zTK,zBD,k2,h2,List.length_append,List.length_cons];exact ⟨List.Sublist.append k1 h1,rfl,by omega⟩
theorem xRM (f g:Nat):∀ (l:List Ck) (o:Nat),∀ y∈yZW f g o l,∃ x∈l,∃ o',y∈delX f g o' x
 | [],_,y,hy=>by cases hy
 | x::l,o,y,hy=>by
   rw[yZW] at hy
   rcases List.mem_append.1 hy with q | q
   ·exact ⟨x,List.mem_cons_self ..,o,q⟩
   ·obtain ⟨z,hz,o',h⟩:=xRM f g l _ y q;exact ⟨z,List.mem_cons_of_mem _ hz,o',h⟩
theorem delP_ok {p:Gp} {s:Gs} {ps:List Ck} {tb:List TP} (h:TxOK p s ps tb) {f g:Nat} (hf:f<g) :
  PlOK ps (yZW f g 0 ps)∧zQP (yZW f g 0 ps)=(zQP ps).take f++(zQP ps).drop g∧zRD ((yZW f g 0 ps).map zJD)=0∧(yZW f g 0 ps).length≤ps.length:=by
 obtain ⟨h1,h2,h3⟩:=yMG f g ps 0 fun y hy=>(h.part y hy).nn
 have hfl:=xXX f g hf ps 0;rw[Nat.sub_zero,Nat.sub_zero] at hfl
 have hm:∀ y∈yZW f g 0 ps,∃ x∈ps,y.b=x.b∧1≤y.T.length∧y.T.length≤x.T.length∧y.f≤y.T.length:=fun y hy=>by
  obtain ⟨x,hx,o,hyx⟩:=xRM f g ps 0 y hy;exact ⟨x,hx,delX_part f g o x (h.part x hx).pos (h.part x hx).gap y hyx⟩
 refine ⟨⟨fun y hy=>?_,fun y hy=>?_,fun y hy=>?_,fun y hy=>?_,h1.nodup (List.nodup_append.1 h.nd).2.1,?_⟩,hfl,h2,h3⟩
 ·obtain ⟨x,hx,e,-⟩:=hm y hy;exact .inr ⟨x.b.toNat,by have:=(h.part x hx).nn;omega,mem_blkC.2 ⟨x,hx,rfl⟩⟩
 ·obtain ⟨x,hx,-,e,-⟩:=hm y hy;exact e
 ·obtain ⟨x,hx,-,-,e,-⟩:=hm y hy;have:=(h.part x hx).fill;omega
 ·obtain ⟨x,hx,-,-,-,e⟩:=hm y hy;exact e
 ·have:=h.sum;rw[← zQD,hfl,List.length_append,List.length_take,List.length_drop,zQD];omega
end
section
theorem settled0_c (G:List Gl):E.Pure G Tryz.prog 116 [.slice none 0 0] (.slice none 0 0):=by
 refine zXP fun V hV=>?_
 refine zQV 67 [.tmp 2] Tryz.func116 ?_
 repeat' (first|refine zQQ 2251799830463005 ?_|refine zQW ?_|(refine stp ?_;simp only[go_sem])|(refine zZM 2251799830463005 1 ?_;simp only[go_sem])|fail)
 (refine zQH (by simp[EV.bel]) ?_;rw[hV])
variable {p:Gp} (B:List (Nat × EO)) {t:Nat}
theorem wr0_c (G:List Gl) (s:Gs) [Big t] [hS0:StL p B t] (hp:p.ok) (ho:s.over=false) (hls:s.least≤p.n) (x rp:Nat) (ref:Nat) (v2:EV) (ps:List Ck)
  (hx:AtB B t x (.cells [.ptr (some ⟨0,0⟩),.int .u32 ref,zVW rp ps.length,v2] 196 0 true 0)) (hat:ps ≠ []→AtB B t rp (.cells (ckC ps) 192 3 true 0)) (hrp:rp<t)
  (hpn:ps.length≤1000000) (hwok:∀ y∈ps,∃ b:Nat,y.b=b∧b∈s.taken) (hwnd:(zZN ps).Nodup) :
  EffW G Tryz.prog 117 [.ptr (some ⟨x,0⟩),.slice none 0 0] t [] (gnd p s B) 0 (.int .i64 0) [] (gnd p (zKD [] s (ps.map zJD)) B) 0:=by
 have h1:=hp.big;have h2:=hp.fit;have hat0:=hp.at0;have hxt:=hx.lt;have hX:=hx.f (p:=p);refine EffW.enter fun Q hQ=>?_
 simp only[gnd,List.nil_append,Nat.add_zero];refine zQV 142 [.tmp 4] Tryz.func117 ?_
 repeat' (first|refine zQQ 697578872959655947512624442496585980406771 ?_|refine zQW ?_|(refine stp ?_;simp only[go_sem])|((refine zYK ?_);simp only[go_sem])|fail)
 refine zZM 697578872959655947512624442496585980406771 1 ?_;simp only[go_sem]
 repeat' (first|refine zQQ 697578872959655947512624442496585980406771 ?_|refine zQW ?_|(refine stp ?_;simp only[go_sem,hX])|fail)
 refine zQM (fun z:Nat × Gs=>[(0,.ptr (some ⟨x,0⟩)),(1,.slice none 0 0),(5,.map (some t)),(6,.map (some (t+1))),(64,zVW rp ps.length),(65,.int .i64 ps.length),(66,.int .i64 z.1)]) (fun z:Nat × Gs=>(t+1,.map (usE []))::(t,.map (usE []))::stB (zXG p z.2) B) (fun z:Nat × Gs=>t+2) (fun z:Nat × Gs=>z.1≤ps.length∧zKD [] z.2 ((ps.drop z.1).map zJD)=zKD [] s (ps.map zJD)∧z.2.over=false∧z.2.least≤p.n∧(∀ y∈ps.drop z.1,∃ b:Nat,y.b=b∧b∈z.2.taken)) (fun z:Nat × Gs=>ps.length - z.1) ((0,s)) ?_ ?_ ?_ ?_ ?_
 ·rintro ⟨j,sj⟩ -
  refine ⟨by simp[zWP,show rp<t+2 by omega,show x<t+2 by omega],by simp[zXM],by show t≤t+2;omega⟩
 ·exact ⟨Nat.zero_le _,rfl,ho,hls,fun y hy=>hwok y hy⟩
 ·simp only[go_sem,zQS]
 ·show zWG _ ((t+1,.map (usE []))::(t,.map (usE []))::stB (zXG p s) B);simp only[go_sem,zWG,show usE []=[] from rfl]
 ·rintro ⟨j,sj⟩ ⟨hj,hgv,hjo,hjl,hjt⟩
  simp only at hj hgv hjo hjl hjt ⊢
  rcases Nat.lt_or_ge j ps.length with hjw | hjw
  ·have hWA:=(hat (List.ne_nil_of_length_pos (by omega))).f (p:=p);obtain ⟨y,hy⟩:∃ y,ps[j]? = some y:=⟨ps[j],List.getElem?_eq_getElem _⟩;have hg3:=zRV hy;have hwe:=zWZ (b:=rp) (n:=ps.length) (by omega);have hd:ps.drop j=y::ps.drop (j+1):=by
    rw[List.drop_eq_getElem_cons hjw];congr 1;rw[List.getElem?_eq_getElem hjw] at hy;simpa using hy
   obtain ⟨b,hyb,hbt⟩:=hjt y (by rw[hd];exact List.mem_cons_self ..);rw[hd] at hgv hjt
   simp only[List.map_cons,zKD,zJD,hyb,Int.toNat_natCast] at hgv
   rw[hwe];have hfu:=zGZ b [];rw[if_neg (by simp)] at hfu hgv
   have hgive:=give_c B G sj hp hjo (by omega) b hbt
   repeat' (first|refine zQQ 697578872959655947512624442496585980406771 ?_|refine zQW ?_|(refine stp ?_;simp only[go_sem,hWA,hg3,hyb])|(refine zWV (id:=19) mixed [(0,[]),(1,[]),(2,[]),(4,[]),(3,[]),(5,[]),(6,[]),(7,[])] (by kernel_rfl) ?_;simp only[go_sem,hX])|(refine EffW.at (hgive ) [] rfl (by (simp;done)) ?_;(try simp only[go_sem]))|((refine zXN ?_;unfold zGR);simp only[go_sem,hfu,zKH])|(simp (disch:=omega) only[zQK])|(refine spl (fun h=>?_) (fun h=>?_)<;>first|omega|try simp only[go_sem,h])|(refine zQT ?_ ?_;focus omega))
   (refine ⟨(j+1,zDJ sj b),t,[t,t+1],?_,?_,rfl,rfl,?_,⟨?_,rfl,?_,?_,?_,?_,?_⟩⟩;rotate_left;(focus (simp only[];omega));(focus (simp[go_sem,zQS,hrp,hxt]));(focus (omega));(focus simp);(focus (simp));(focus (simp only[];omega));(focus (simp[zXM,zDJ]));(focus (simp[zPB,zDJ]));(try simp only[]))
   refine ⟨hjw,hgv,hjo,?_,fun y' hy'=>?_⟩
   ·have:(zDJ sj b).least≤sj.least:=Nat.min_le_left _ _;omega
   ·obtain ⟨b',q1,q2⟩:=hjt y' (List.mem_cons_of_mem _ hy');refine ⟨b',q1,(List.mem_erase_of_ne fun e=>?_).2 q2⟩;have hdn:(zZN (ps.drop j)).Nodup:=hwnd.sublist ((List.drop_sublist _ _).map _);rw[hd] at hdn
    refine (List.nodup_cons.1 hdn).1 ?_;refine List.mem_map.2 ⟨y',hy',?_⟩;simp only[q1,hyb,e]
  ·obtain rfl:j=ps.length:=by omega
   rw[List.drop_length] at hgv
   simp only[List.map_nil,zKD] at hgv
   repeat' (first|refine zQQ 697578872959655947512624442496585980406771 ?_|refine zQW ?_|(refine stp ?_;simp only[go_sem])|(refine zZM 697578872959655947512624442496585980406771 1 ?_;simp only[go_sem])|(refine spl (fun h=>?_) (fun h=>?_)<;>first|omega|try simp only[go_sem,h])|fail)
   rw[← hgv] at hQ
   (refine zQN hQ [] ?_ ?_ ?_<;>(simp))
theorem ccarryN_c (G:List Gl) (s:Gs) [Big t] [hS0:StL p B t] (hp:p.ok) (ho:s.over=false) (hs:GsOK p s) (hr:ovl s.put 64 8=zU 8) (ps:List Ck) (tb:List TP) (hx:TxOK p s ps tb) (hps:ps ≠ []) (x rp:Nat) (v2:EV)
  (hxa:AtB B t x (.cells [.ptr (some ⟨0,0⟩),.int .u32 (zWQ tb),zVW rp ps.length,v2] 196 0 true 0)) (hat:AtB B t rp (.cells (ckC ps) 192 3 true 0)) :
  EffR G Tryz.prog 82 [.ptr (some ⟨x,0⟩),.slice none 0 0] (gnd p s B) t (fun v bl nx=>∃ B' s',bl=gnd p s' B'∧StL p B' nx∧Ext B t B' nx∧EdQ p s (tb.map (·.1)++zZN ps) [] 0 v s'):=by
 have h1:=hp.big;have h2:=hp.fit;have hxt:=hxa.lt;have hrpt:=hat.lt;have hln:=hx.len;have hps0:0<ps.length:=List.length_pos_iff.2 hps;have hpl:PlOK ps []:=⟨by simp,by simp,by simp,by simp,List.nodup_nil,by simp[zVM]⟩;have hs0:zXF 0 []=[]:=yQD (by simp);have hfk:zVD p s (zXF 0 [])=(s,some []):=by rw[hs0];rfl
 have hmid:=mid_ok hs hx hpl hfk (WrC.zero _ _);have hwr:=wr0_c (p:=p) (t:=t) B G s hp ho hs.least x rp (zWQ tb) v2 ps hxa (fun _=>hat) hrpt (by omega) (fun y hy=>⟨y.b.toNat,by have:=(hx.part y hy).nn;omega,(hx.part y hy).use⟩) (List.nodup_append.1 hx.nd).2.1;have hmo:(zKD [] s (ps.map zJD)).over=false:=by have:=hmid.over;rw[← ho];exact this
 have hmr:ovl (zKD [] s (ps.map zJD)).put 64 8=zU 8:=by rw[← hr];exact yWP fun k hk=>hmid.low _ (by have:=hp.at0;omega)
 have hset:=settled0_c G;refine EffR.enter fun Q hQ=>?_
 refine zQV 26 [.tmp 4,.tmp 5] Tryz.func82 ?_;have hX:=hxa.f (p:=p);obtain ⟨s2,hs2⟩:∃ s2,zKD [] s (ps.map zJD)=s2:=⟨_,rfl⟩;have hmid2:MidC p s ps tb [] s2 []:=by rw[← hs2];exact hmid
 rw[hs2] at hwr hmo hmr
 have hcW:=yVN (p:=p) (t:=t) B G s2 ps (zVW rp ps.length) (by rw[zWZ hps0];exact .inr ⟨rp,ps.length,[],3,rfl,by rw[List.append_nil];exact hat,Nat.le_refl _⟩)
  (fun y hy=>⟨⟨y.b.toNat,by have:=(hx.part y hy).nn;omega,by have:=(hx.part y hy).lt;omega⟩,(hx.part y hy).fill⟩) (by omega)
 repeat' (first|refine zQQ 8307 ?_|(refine stp ?_;simp only[go_sem,hX])|(refine Pure.at (hset) (by simp) (by simp) rfl ?_;(try simp only[go_sem]))|(refine EffW.at (hwr ) [] rfl (by first|(simp[hxt,zQR hxt];done)|fail) ?_;(try simp only[go_sem]))|(refine EffR.at hcW ?_)|(simp only[go_sem])|fail)
 rintro v bl nx ⟨B3,evW,rfl,hS3,he3,⟨rW,rfl,hlW,hrW,hatW⟩,hcvW,hgeW⟩
 haveI:=hS3;haveI:Big nx:=⟨hS3.big⟩;have h3:=he3.le;have hWl:evW.length=ps.length:=by rw[hcvW.length];simp[zKQ]
 have hcM:=yVN (p:=p) (t:=nx) B3 G s2 [] (.slice none 0 0) (.inl ⟨rfl,rfl⟩) (fun y hy=>absurd hy (by simp)) (by simp)
 repeat' (first|(refine EffR.at hcM ?_)|(simp only[go_sem])|fail)
 rintro v bl nx2 ⟨B4,evM,rfl,hS4,he4,⟨rM,rfl,hlM,hrM,hatM⟩,hcvM,hgeM⟩
 haveI:=hS4;haveI:Big nx2:=⟨hS4.big⟩;have h4:=he4.le;have hMl:evM.length=0:=by rw[hcvM.length];simp[zKQ]
 have cW:(zKQ ps).length=ps.length:=by simp[zKQ]
 have hrw:=rowsN_c (p:=p) (t:=nx2) B4 G s2 hp hmo hmid2.ok hmr x rp ps.length v2 tb hmid2.chain (List.nodup_append.1 hx.nd).1 (by omega) ((hxa.mono he3).mono he4) rW evW (zKQ ps) (hcvW.mono he4) ((hatW (by omega)).mono he4) hx.cells (by omega);rw[zWZ (b:=rW) (n:=evW.length) (by omega),show evW.length=(zKQ ps).length by omega,hMl,zWY]
 repeat' (first|(refine EffR.at hrw ?_)|(simp only[go_sem])|fail)
 rintro v bl nx3 ⟨B5,s5,rfl,hS5,he5,tb',rfl,htab⟩
 haveI:=hS5;have h5:=he5.le
 repeat' (first|(refine stp ?_;simp only[go_sem])|(simp only[go_sem])|fail)
 exact zWX hQ (by omega) (Bg.below (t:=nx3)) (by simp[EV.bel,zQX]) ⟨B5,s5,rfl,hS5,(he3.trans he4).trans he5,.inl ⟨[],tb',rfl,ed_ok hx hpl hmid2 htab⟩⟩
end
end Go.Proofs.YtncphnpndkjkaaaGreatDoor
