/-
  Own work: a part of the proof that the last text closes.
-/
import Derived.Test.YtgajmgkhlkghjaaGreatDoorHpd
import Derived.Test.YtgajmgkhlkghjaaGreatDoorHt
import Derived.Laws.AppendOwn
namespace Go.Proofs.YtgajmgkhlkghjaaGreatDoor
set_option linter.all false
set_option maxRecDepth 100000
set_option maxHeartbeats 16000000
section
open Go.E
theorem noFitC_len:∀ (l:List Ck),noFitC l→253*(l.length / 2)≤totC l
 | [],_=>Nat.zero_le _
 | [x],_=>by show 253*(1 / 2)≤_;omega
 | x::y::l,h=>by
   have h1:noFitC l:=by
    cases l with
    | nil=>trivial
    | cons z l=>exact h.2.2
   have ih:=noFitC_len l h1;have h2:=h.1;have e1:=totC_cons x (y::l);have e2:=totC_cons y l;simp only[List.length_cons];omega
theorem chain_len {p:Gp} {s:Gs}:∀ (l:List TP),Chain p s 16 l→16*(l.length / 2)≤(l.flatMap (·.2)).length
 | [],_=>Nat.zero_le _
 | [x],_=>by show 16*(1 / 2)≤_;omega
 | (b,cs)::(b2,cs2)::l,h=>by
   have ih:=chain_len l h.2.2.2.2;have h2:248 / 16<cs.length+cs2.length:=h.2.1;simp only[List.length_cons,List.flatMap_cons,List.length_append];omega
structure OneOK (p:Gp) (s:Gs) (ps:List Ck) (tb:List TP):Prop where
 tx:TxOK p s ps tb
 ok:GsOK p s
 over:s.over=false
 low:ovl s.put 64 8=zU 8
 own:∀ b∈s.taken,b∈tb.map (·.1)++blkC ps
 len:totC ps≤4000
theorem OneOK.few {p:Gp} {s:Gs} {ps:List Ck} {tb:List TP} (h:OneOK p s ps tb):s.taken.length≤34:=by
 have h1:=nodup_sub_len h.ok.nd h.own;have h2:=noFitC_len ps h.tx.fit;have h3:=chain_len tb h.tx.chain
 have h4:=h.len;rw[h.tx.cells,List.length_map] at h3
 rw[List.length_append,List.length_map,show (blkC ps).length=ps.length by simp[blkC]] at h1
 omega
theorem EdOK.one {p:Gp} {s s':Gs} {T:List UInt8} {ps ps':List Ck} {tb tb':List TP} (h:OneOK p s ps tb) (hat:72≤p.at_) (k:EdOK p s (tb.map (·.1)++blkC ps) T s' ps' tb') (hl:T.length≤4000):OneOK p s' ps' tb' where
 tx:=k.tx
 ok:=k.ok
 over:=k.over.trans h.over
 low:=(ovl_same fun i hi=>k.low _ (by omega)).trans h.low
 own b hb:=by
  rcases (k.taken b).1 hb with q | q
  ·exact absurd (h.own b q.1) q.2
  ·exact q
 len:=by rw[← flatC_length,k.flat];exact hl
variable {p:Gp} (B:List (Nat × EO)) {t:Nat}
theorem edited_c (G:List Gl) (s:Gs) [Big t] [hS0:StL p B t] (hp:p.ok) (hn:60≤p.n) (ps:List Ck) (tb:List TP) (h1:OneOK p s ps tb) (e:Ed) (he:e.ok) :
  EffR G Tryz.prog 18 [.ptr (some ⟨0,0⟩),.int .u32 (refOf tb),.str (flatC ps),.agg (edE e)] (gnd p s B) t (fun v bl nx=>∃ s',bl=gnd p s' B∧nx=t∧∃ ps' tb',v=.tuple [.int .u32 (refOf tb'),.str (flatC ps'),.bool true]∧OneOK p s' ps' tb'):=by
 have hat0:=hp.at0;have hbig:=hp.big;have ht11:11≤t:=hS0.big;have hL:=flatC_length ps;have hlen:=h1.len;obtain ⟨T,hT⟩:∃ T,flatC ps=T:=⟨_,rfl⟩;rw[hT] at hL ⊢
 have hw1:=withinI_c G e.at_ (T.length+1) (by omega) (by omega) he.1.1 he.1.2;have ha:(e.at_ % ((T.length+1:Nat):Int)).toNat≤T.length:=by
  have q:=Int.emod_lt_of_pos e.at_ (show (0:Int)<((T.length+1:Nat):Int) by omega);omega
 generalize (e.at_ % ((T.length+1:Nat):Int)).toNat=a at hw1 ha
 have hw2:=withinI_c G e.n (T.length - a+1) (by omega) (by omega) he.2.1 he.2.2;have ho:(e.n % ((T.length - a+1:Nat):Int)).toNat≤T.length - a:=by
  have q:=Int.emod_lt_of_pos e.n (show (0:Int)<((T.length - a+1:Nat):Int) by omega);omega
 generalize (e.n % ((T.length - a+1:Nat):Int)).toNat=o at hw2 ho
 have hk0:T.length - o+([]:List UInt8).length≤4000:=by show T.length - o+0≤4000;omega
 have ew1:(T.length:Int)+1=((T.length+1:Nat):Int):=by omega
 have ew2:(T.length:Int) - (a:Int)+1=((T.length - a+1:Nat):Int):=by omega
 refine EffR.enter fun Q hQ=>?_
 refine zQV 78 [.tmp 8,.tmp 9,.tmp 10] Tryz.func18 ?_
 repeat' (first|(refine esem_holdR 4 ?_)|refine zQQ 36037601701953423 ?_|(refine stp ?_;simp only[go_sem,ew1,edE])|(refine Pure.at (hw1) (by simp) (by simp) rfl ?_;(try simp only[go_sem]))|(refine Pure.at (hw2) (by simp) (by simp) rfl ?_;(try simp only[go_sem]))|(simp only[go_sem,ew2])|(simp (disch:=omega) only[zQK])|fail)
 refine ⟨?_⟩;refine esem_cut2 (fun x:List UInt8=>[(0,.ptr (some ⟨0,0⟩)),(1,.int .u32 (refOf tb)),(2,.str T),(11,.int .i64 a),(12,.int .i64 o),(13,.str x)]) (fun _=>(t,.cells (edE e) 33 0 true 0)::stB (objs p s) B) (fun _=>t+1) (fun x=>x.length≤800) ?_ ?_ (fun x hx800=>?_)
 ·intro x _;exact ⟨by simp[frBel],by simp[blBelow,EO.bel,zQX,EV.bel,Bg.blBelow,edE],by omega⟩
 ·repeat' (first|(refine stp ?_;simp only[go_sem,edE])|(refine spl (fun h=>?_) (fun h=>?_)<;>((try simp only[go_sem,h])))|(refine zQP ?_ ?_;focus omega))
  ·skip
   simp only[KeptX];exact ⟨e.w.take 800,(List.length_take_le 800 _),by simp,by simp,by simp[go_sem,zWQ],by simp[go_sem,lessL]⟩
  ·refine esem_skip ?_;simp only[KeptX];exact ⟨e.w,(by omega),by simp,by simp,by simp[go_sem,zWQ],by simp[go_sem,lessL]⟩
 repeat' (first|(refine esem_holdR 6 ?_)|refine zQQ 36037601701953423 ?_|(simp only[go_sem])|fail)
 refine ⟨?_⟩;refine esem_cut2 (fun x:List UInt8=>[(0,.ptr (some ⟨0,0⟩)),(1,.int .u32 (refOf tb)),(2,.str T),(11,.int .i64 a),(12,.int .i64 o),(13,.str x)]) (fun _=>(t,.cells (edE e) 33 0 true 0)::stB (objs p s) B) (fun _=>t+1) (fun x=>x.length≤800∧T.length - o+x.length≤4000) ?_ ?_ (fun x hxl=>?_)
 ·intro x _;exact ⟨by simp[frBel],by simp[blBelow,EO.bel,zQX,EV.bel,Bg.blBelow,edE],by omega⟩
 ·repeat' (first|(refine stp ?_;simp only[go_sem,edE])|(simp (disch:=omega) only[zQK])|(refine spl (fun h=>?_) (fun h=>?_)<;>((try simp only[go_sem,h])))|fail)
  ·skip
   simp only[KeptX];exact ⟨[],⟨Nat.zero_le _,hk0⟩,by simp,by simp,by simp[go_sem,zWQ],by simp[go_sem,lessL]⟩
  ·refine esem_skip ?_;simp only[KeptX];exact ⟨x,⟨hx800,by omega⟩,by simp,by simp,by simp[go_sem,zWQ],by simp[go_sem,lessL]⟩
 obtain ⟨hx8,hx4⟩:=hxl;have hD:=cdeleteD_c B G s hp h1.over h1.ok h1.low ps tb h1.tx a (a+o) (by omega) (by omega);have ea:(a:Int)+(o:Int)=((a+o:Nat):Int):=by omega
 rw[hT] at hD
 repeat' (first|refine zQQ 36037601701953423 ?_|(refine stp ?_;simp only[go_sem,ea,edE])|(refine EffR.atW hD ?_ ?_ ?_)|(simp only[go_sem])|(simp (disch:=omega) only[zQK])|fail)
 ·simp[zQX,EV.bel]
 ·rintro v B' n ⟨s',rfl,rfl,ps',tb',rfl,-⟩
  exact ⟨rfl,by simp[EV.bel,zQX],inferInstance⟩
 ·rintro v B' ⟨s1,rfl,ps1,tb1,rfl,hE1⟩ - hB1
  haveI:=hB1;have hl1:(T.take a++T.drop (a+o)).length=T.length - o:=by rw[List.length_append,List.length_take,List.length_drop];omega
  have h2:=hE1.one h1 (by omega) (by omega);have hfew:=h2.few;have hf1:=hE1.flat
  have ht1:=flatC_length ps1;rw[hf1] at ht1
  have hI:=cinsertD_c B G s1 hp h2.over h2.ok h2.low ps1 tb1 h2.tx a x (by omega) (by omega)
  repeat' (first|refine zQQ 36037601701953423 ?_|(refine stp ?_;simp only[go_sem])|(refine EffR.atW hI ?_ ?_ ?_)|(simp only[go_sem])|fail)
  ·simp[zQX,EV.bel]
  ·rintro v B' n ⟨s',rfl,rfl,hq,-⟩
   exact ⟨rfl,by rcases hq with ⟨_,_,rfl,-⟩ | ⟨rfl,-⟩<;>simp[EV.bel,zQX],inferInstance⟩
  ·rintro v B' ⟨s2,rfl,hq,-⟩ - hB2
   haveI:=hB2
   rcases hq with ⟨ps2,tb2,rfl,hE2⟩ | ⟨-,hq⟩
   ·have hta:(T.take a).length=a:=by rw[List.length_take];omega
    rw[hf1,List.take_left' hta,List.drop_left' hta] at hE2
    have h3:=hE2.one h2 (by omega) (by simp only[List.length_append,List.length_take,List.length_drop];omega);have hf2:=hE2.flat
    repeat' (first|refine zQQ 36037601701953423 ?_|(refine stp ?_;simp only[go_sem])|(refine drawQ (id:=12) mixed [(0,[]),(1,[]),(2,[]),(4,[]),(6,[]),(7,[]),(8,[]),(9,[]),(12,[]),(13,[]),(14,[]),(3,[]),(5,[]),(10,[]),(11,[]),(15,[]),(16,[])] (by kernel_rfl) ?_;simp only[go_sem,ea,List.length_append,List.length_take,List.length_drop])|(simp only[go_sem])|(simp (disch:=omega) only[zQK])|(refine zQP ?_ ?_;focus omega))
    refine done_gnd hQ (B':=gnd p s2 B) (by omega) (by simp[EV.bel,zQX]) ⟨s2,rfl,rfl,ps2,tb2,?_,h3⟩;rw[hf2]
   ·exfalso;omega
end
section
open Go.E
section
variable {p:Gp} (B:List (Nat × EO)) {t:Nat}
theorem giveA_app (a b:List Nat) (s:Gs):giveA (a++b) s=giveA b (giveA a s):=List.foldl_append ..
theorem giveA_taken (l:List Nat):∀ s:Gs,∀ b,b ∉ l→b∈s.taken→b∈(giveA l s).taken:=by
 induction l with
 | nil=>exact fun s b _ h=>h
 | cons a l ih=>
   intro s b hb h;rw[List.mem_cons,not_or] at hb
   exact ih (giveS s a) b hb.2 ((List.mem_erase_of_ne hb.1).2 h)
theorem giveA_own (l:List Nat):∀ s:Gs,s.taken.Nodup→∀ b∈(giveA l s).taken,b∈s.taken∧b ∉ l:=by
 induction l with
 | nil=>exact fun s _ b h=>⟨h,by simp⟩
 | cons a l ih=>
   intro s hs b hb;obtain ⟨h1,h2⟩:=ih (giveS s a) (hs.sublist List.erase_sublist) b hb;have h3:=(hs.mem_erase_iff (a:=b) (b:=a)).1 h1;exact ⟨h3.2,by rw[List.mem_cons,not_or];exact ⟨h3.1,h2⟩⟩
theorem cdrop_c (G:List Gl) (s:Gs) [Big t] [hS0:StL p B t] (hp:p.ok) (ho:s.over=false) (hr:ovl s.put 64 8=zU 8) (ps:List Ck) (tb:List TP) (hx:TxOK p s ps tb) :
  EffR G Tryz.prog 17 [.ptr (some ⟨0,0⟩),.int .u32 (refOf tb)] (gnd p s B) t (fun v bl nx=>∃ B',v=.int .i64 0∧bl=gnd p (giveA (blkC ps++tb.map (·.1)) s) B'∧StL p B' nx∧Ext B t B' nx):=by
 have h1:=hp.big;have h2:=hp.fit;have hln:=hx.len;refine EffR.enter fun Q hQ=>?_
 refine zQV 39 [.tmp 4] Tryz.func17 ?_
 repeat' (first|refine zQQ 8652981107 ?_|(refine stp ?_;simp only[go_sem])|(refine EffR.at (openT_c B G s hp ho hr ps tb hx) ?_)|(simp only[go_sem])|fail)
 rintro v bl nx ⟨B1,v1,rfl,rfl,hS1,he1,htx⟩
 haveI:=hS1;haveI:Big nx:=⟨hS1.big⟩;have h3:=he1.le;obtain ⟨x,r,v2,rfl,hxa,hat,hrt,-⟩:=htx;have hxt:=hxa.lt;have hX:=hxa.f (p:=p);have hml:(blkC ps).length=ps.length:=List.length_map ..;have hnd1:(blkC ps).Nodup:=(List.nodup_append.1 hx.nd).2.1
 repeat' (first|refine zQQ 8652981107 ?_|refine zQW ?_|(refine stp ?_;simp only[go_sem,hX])|fail)
 refine zWV (fun z:Nat × Gs=>[(0,.ptr (some ⟨0,0⟩)),(1,.int .u32 (refOf tb)),(22,accE r ps.length),(23,.int .i64 ps.length),(24,.int .i64 z.1)]) (fun z:Nat × Gs=>stB (objs p z.2) B1) (fun z:Nat × Gs=>nx) (fun z:Nat × Gs=>z.1≤ps.length∧giveA ((blkC ps).drop z.1) z.2=giveA (blkC ps) s∧z.2.over=false∧(∀ b∈(blkC ps).drop z.1,b∈z.2.taken)) (fun z:Nat × Gs=>ps.length - z.1) ((0,s)) ?_ ?_ ?_ ?_ ?_
 ·rintro ⟨i,si⟩ -
  exact ⟨by simp[frBel,hrt],(show blBelow nx (stB (objs p si) B1) from Bg.below (t:=nx)),h3⟩
 ·exact ⟨Nat.zero_le _,rfl,ho,fun b hb=>hx.blk_use hb⟩
 ·simp only[go_sem,zWQ]
 ·show lessL _ (stB (objs p s) B1);simp only[go_sem]
 ·rintro ⟨i,si⟩ ⟨hi,hg,hso,hst⟩
  simp only at hi hg hso hst ⊢
  rcases Nat.lt_or_ge i ps.length with hil | hil
  ·have hA:=(hat (List.ne_nil_of_length_pos (by omega))).f (p:=p);obtain ⟨y,hy⟩:∃ y,ps[i]? = some y:=⟨ps[i],List.getElem?_eq_getElem _⟩;have hg3:=ckC_take3 hy;have hpy:=hx.part y (List.mem_of_getElem? hy);have hae:=zWZ (b:=r) (n:=ps.length) (by omega);have hd:(blkC ps).drop i=y.b.toNat::(blkC ps).drop (i+1):=by
    have e:(blkC ps)[i]'(by omega)=y.b.toNat:=by
     obtain ⟨_,e⟩:=List.getElem?_eq_some_iff.1 hy;simp only[blkC,List.getElem_map,e]
    rw[List.drop_eq_getElem_cons (by omega),e]
   rw[hd] at hg hst
   have hbt:=hst _ (List.mem_cons_self ..);have hyb:y.b=((y.b.toNat:Nat):Int):=(Int.toNat_of_nonneg hpy.nn).symm;generalize y.b.toNat=b at *
   have hgive:=give_c B1 G si hp hso (by omega) b hbt;rw[hae]
   repeat' (first|refine zQQ 8652981107 ?_|refine zQW ?_|(refine stp ?_;simp only[go_sem,hA,hg3,hyb])|(refine EffW.at (hgive ) [] rfl (by (simp;done)) ?_;(try simp only[go_sem]))|(simp (disch:=omega) only[zQK])|(refine spl (fun h=>?_) (fun h=>?_)<;>first|omega|try simp only[go_sem,h])|(refine zQP ?_ ?_;focus omega))
   (refine ⟨(i+1,giveS si b),nx,[],?_,?_,rfl,rfl,?_,⟨?_,rfl,?_,?_,?_,?_,?_⟩⟩;rotate_left;(focus (simp only[];omega));(focus (simp[go_sem,zWQ,hrt]));(focus (omega));(focus simp);(focus (simp));(focus (simp only[];omega));(focus (simp[giveS]));(focus (simp[giveS]));(try simp only[]))
   refine ⟨hil,hg,hso,fun b' hb'=>(List.mem_erase_of_ne fun e=>?_).2 (hst b' (List.mem_cons_of_mem _ hb'))⟩;have hdn:((blkC ps).drop i).Nodup:=hnd1.sublist (List.drop_sublist _ _);rw[hd] at hdn
   exact (List.nodup_cons.1 hdn).1 (e ▸ hb')
  ·obtain rfl:i=ps.length:=by omega
   rw[List.drop_of_length_le (by omega)] at hg
   have hg':si=giveA (blkC ps) s:=hg;subst hg';have hgo:=giveA_over (blkC ps) s;have hdis:∀ b∈tb.map (·.1),b ∉ blkC ps:=fun b h h'=>(List.nodup_append.1 hx.nd).2.2 b h b h' rfl
   have hu1:∀ b∈tb.map (·.1),b∈(giveA (blkC ps) s).taken:=fun b h=>giveA_taken _ _ b (hdis b h) (hx.all_use b (List.mem_append_left _ h))
   have hrd:∀ b,rd p (giveA (blkC ps) s) b=rd p s b:=fun b=>by unfold rd;rw[hgo.2]
   have hch:Chain p (giveA (blkC ps) s) 16 tb:=hx.chain.mono fun b h=>⟨hu1 b h,hrd b⟩
   have htd:=tdrop_c (p:=p) B1 G (giveA (blkC ps) s) hp hso (by rw[hgo.2];exact hr) 16 (by omega) (by omega) tb hch (by omega) (List.nodup_append.1 hx.nd).1 hu1
   repeat' (first|refine zQQ 8652981107 ?_|(refine stp ?_;simp only[go_sem])|(refine EffR.at htd ?_)|(simp only[go_sem])|(refine spl (fun h=>?_) (fun h=>?_)<;>first|omega|try simp only[go_sem,h])|fail)
   rintro v bl nx' ⟨B2,rfl,rfl,hS2,he2⟩
   haveI:=hS2;have h4:=he2.le
   repeat' (first|(refine stp ?_;simp only[go_sem])|fail)
   rw[← giveA_app];exact zWJ hQ (by omega) (Bg.below (t:=nx')) (by simp[EV.bel]) ⟨_,rfl,rfl,hS2,he1.trans he2⟩
theorem giveA_none {s:Gs} {ps:List Ck} {tb:List TP} (h:OneOK p s ps tb):(giveA (blkC ps++tb.map (·.1)) s).taken=[]:=by
 refine List.eq_nil_iff_forall_not_mem.2 fun b hb=>?_
 obtain ⟨h1,h2⟩:=giveA_own _ s h.ok.nd b hb;have:=h.own b h1;rw[List.mem_append] at this h2
 exact h2 this.symm
end
end
section
open Go.E
section
variable {p:Gp} (B:List (Nat × EO)) {t:Nat}
def ixE (l:List Nat):List EV:=l.map fun (x:Nat)=>.int .i64 x
theorem ixE_below (l:List Nat) (k:Nat):zQX k (ixE l):=allBelow_of fun v hv=>by
 unfold ixE at hv
 obtain ⟨_,_,rfl⟩:=List.mem_map.1 hv;trivial
theorem ixE_ren (l:List Nat) (π:Nat→Nat):renL π (ixE l)=ixE l:=by
 induction l with
 | nil=>rfl
 | cons x l ih=>unfold ixE at ih ⊢;rw[List.map_cons,renL,ih];rfl
theorem cblocks_c (G:List Gl) (s:Gs) [Big t] [hS0:StL p B t] (hp:p.ok) (ho:s.over=false) (hr:ovl s.put 64 8=zU 8) (ps:List Ck) (tb:List TP) (hx:TxOK p s ps tb) :
  EffR G Tryz.prog 48 [.ptr (some ⟨0,0⟩),.int .u32 (refOf tb)] (gnd p s B) t (fun v bl nx=>∃ B' v1,v=.tuple [v1,.int .i64 0]∧bl=gnd p s B'∧StL p B' nx∧Ext B t B' nx∧RowA B' nx v1 (ps.length+tb.length) (ixE (blkC ps++tb.map (·.1))) 3 1):=by
 have h1:=hp.big;have h2:=hp.fit;have hln:=hx.len;have hsum:=hx.sum;refine EffR.enter fun Q hQ=>?_
 refine zQV 41 [.tmp 4,.tmp 5] Tryz.func48 ?_
 repeat' (first|refine zQQ 126092787 ?_|(refine stp ?_;simp only[go_sem])|(refine EffR.at (openT_c B G s hp ho hr ps tb hx) ?_)|(simp only[go_sem])|fail)
 rintro v bl nx ⟨B1,v1,rfl,rfl,hS1,he1,htx⟩
 haveI:=hS1;haveI:Big nx:=⟨hS1.big⟩;have h3:=he1.le;obtain ⟨x,r,v2,rfl,hxa,hat,hrt,hrow⟩:=htx;have hxt:=hxa.lt;have hX:=hxa.f (p:=p)
 repeat' (first|refine zQQ 126092787 ?_|refine zQW ?_|(refine stp ?_;simp only[go_sem,hX])|fail)
 refine zWV (fun i:Nat=>[(6,.ptr (some ⟨x,0⟩)),(8,accE nx i),(23,accE r ps.length),(24,.int .i64 ps.length),(25,.int .i64 i)]) (fun i:Nat=>accB nx (ixE (blkC (ps.take i))) 3 1++stB (objs p s) B1) (fun i:Nat=>nx+1) (fun i:Nat=>i≤ps.length) (fun i:Nat=>ps.length - i) (0) ?_ ?_ ?_ ?_ ?_
 ·intro i hi;refine ⟨by simp[frBel,EV.bel,show r<nx+1 by omega];omega,?_,by show t≤nx+1;omega⟩;rw[blBelow_acc (by simp) (ixE_below _ _),Bg.blBelow];trivial
 ·exact Nat.zero_le _
 ·simp only[go_sem,zWQ,accE_zero]
 ·show lessL _ (stB (objs p s) B1);simp only[go_sem]
 ·intro i hi;simp only at hi ⊢
  rcases Nat.lt_or_ge i ps.length with hil | hil
  ·have hA:=(hat (List.ne_nil_of_length_pos (by omega))).f (p:=p);obtain ⟨y,hy⟩:∃ y,ps[i]? = some y:=⟨ps[i],List.getElem?_eq_getElem _⟩;have hg3:=ckC_take3 hy;have hae:=zWZ (b:=r) (n:=ps.length) (by omega);have hbl:(ixE (blkC (ps.take i))).length=i:=by unfold ixE blkC;rw[List.length_map,List.length_map,List.length_take];omega
   have hpy:=hx.part y (List.mem_of_getElem? hy);have hyb:y.b=((y.b.toNat:Nat):Int):=(Int.toNat_of_nonneg hpy.nn).symm;have hs:ixE (blkC (ps.take (i+1)))=ixE (blkC (ps.take i))++[.int .i64 y.b.toNat]:=by rw[blkC_take_succ hy];unfold ixE;rw[List.map_append];rfl
   have hone:(ixE (blkC (ps.take i))).all EV.one=true:=by unfold ixE;rw[List.all_eq_true];intro v hv;obtain ⟨_,_,rfl⟩:=List.mem_map.1 hv;rfl
   have hren:∀ π,renL π (ixE (blkC (ps.take i)))=ixE (blkC (ps.take i)):=fun π=>ixE_ren _ _
   have hbb:∀ k,zQX k (ixE (blkC (ps.take i)))=True:=fun k=>eq_true (ixE_below _ k)
   have hltn:=hpy.lt;generalize y.b.toNat=b at *
   rw[hae]
   repeat' (first|refine zQQ 126092787 ?_|refine zQW ?_|(refine stp ?_;simp only[go_sem,hA,hg3,hyb])|(refine appTo_acc (c:=ixE (blkC (ps.take i))) (by omega) (by first|(simp[hbl];done)|fail) (by first|(simp;done)|fail) (by first|(simp;done)|fail) (by omega) (by first|(simp;done)|fail) (by first|(simp[EV.one];done)|fail) (by simp;omega) ?_;(try simp only[go_sem]))|(simp (disch:=omega) only[zQK])|(refine spl (fun h=>?_) (fun h=>?_)<;>first|omega|try simp only[go_sem,h])|(refine zQP ?_ ?_;focus omega))
   (refine ⟨i+1,nx,[nx+3],?_,?_,rfl,rfl,?_,⟨?_,rfl,?_,?_,?_,?_,?_⟩⟩;rotate_left;(focus (simp only[];omega));(focus (simp[go_sem,zWQ,accE_app1,hrt,hxt]));(focus (omega));(focus simp);(focus (simp));(focus (simp only[];omega));(focus (simp[hs,hbb]));(focus (simp[hs,hren]));(try simp only[]))
   exact hil
  ·obtain rfl:i=ps.length:=by omega
   rw[List.take_length];obtain ⟨r2,rfl,hcl,hr2,hat2⟩:=hrow
   by_cases h0:tb.length=0
   ·obtain rfl:tb=[]:=List.length_eq_zero_iff.1 h0;have hc:=hx.cells;rw[List.flatMap_nil] at hc
    obtain rfl:ps=[]:=List.map_eq_nil_iff.1 hc.symm;simp only[List.length_nil,accE_zero,blkC,ixE,List.map_nil,List.append_nil] at *
    repeat' (first|refine zQQ 126092787 ?_|(refine stp ?_;simp only[go_sem,hX])|fail)
    have hxx:=acc_above (p:=p) (B':=B1) (T:=nx) (ty:=3) (k:=1) (n:=0) (c:=[]) trivial rfl (by omega);haveI:=hxx.1;rw[← stB_acc];exact zWJ hQ (by omega) (Bg.below (t:=nx+1)) (by simp[EV.bel]) ⟨_,_,rfl,rfl,hxx.1,he1.trans hxx.2.1,0,rfl,rfl,by omega,fun h=>absurd rfl h⟩
   ·have hA2:=(hat2 h0).f (p:=p);have hbl:(ixE (blkC ps)).length=ps.length:=by unfold ixE blkC;rw[List.length_map,List.length_map]
    have hone:(ixE (tb.map (·.1))).all EV.one=true:=by unfold ixE;rw[List.all_eq_true];intro v hv;obtain ⟨_,_,rfl⟩:=List.mem_map.1 hv;rfl
    have hap:ixE (blkC ps++tb.map (·.1))=ixE (blkC ps)++ixE (tb.map (·.1)):=List.map_append ..;have hae:=zWZ (b:=r2) (n:=tb.length) (by omega);have hix:(tb.map fun x=>EV.int .i64 (x.1:Int))=ixE (tb.map (·.1)):=by unfold ixE;rw[List.map_map];rfl
    have hil2:(ixE (tb.map (·.1))).length=tb.length:=by unfold ixE;rw[List.length_map,List.length_map]
    have hps:ps.length+tb.length=(ps.length+tb.length - 1)+1:=by omega
    rw[hix] at hA2 hcl hat2
    generalize hI:ixE (tb.map (·.1))=I at *
    rw[hae] at hX
    have htk:I.take tb.length=I:=List.take_of_length_le (by omega)
    repeat' (first|refine zQQ 126092787 ?_|(refine stp ?_;simp only[go_sem,hX,hA2,hil2,htk])|(refine appTo_acc (c:=ixE (blkC ps)) (by omega) (by first|(simp[hbl];done)|fail) (by first|(simp;done)|fail) (by first|(simp;done)|fail) (by omega) (by first|(simp;done)|fail) (by omega) (by simp;omega) ?_;(try simp only[go_sem]))|(refine spl (fun h=>?_) (fun h=>?_)<;>first|omega|try simp only[go_sem,h])|fail)
    have hup:=StL.up (p:=p) (B:=B1) (T:=nx) (T':=nx+1) (by omega);haveI:=hup.1;haveI:Big (nx+1):=⟨hup.1.big⟩;have hlen:(ixE (blkC ps++tb.map (·.1))).length=ps.length+tb.length:=by rw[hap,List.length_append,hbl,hil2]
    have hxx:=acc_above (p:=p) (B':=B1) (T:=nx+1) (ty:=3) (k:=1) (n:=ps.length+tb.length) (c:=ixE (blkC ps++tb.map (·.1))) (ixE_below _ _) (by rw[hlen];omega) (by omega);have hac:accE (nx+1) (ps.length+tb.length)=.slice (some ⟨nx+1,0⟩) (ps.length+tb.length) (ps.length+tb.length):=zWZ (by omega);have hab:accB (nx+1) (ixE (blkC ps++tb.map (·.1))) 3 1=[(nx+1,.cells (ixE (blkC ps)++I) 3 1 true 0)]:=by rw[accB_pos (by rw[hlen];omega),hap]
    haveI:=hxx.1;have hst:(nx+1,EO.cells (ixE (blkC ps)++I) 3 1 true 0)::stB (objs p s) B1=stB (objs p s) (accB (nx+1) (ixE (blkC ps++tb.map (·.1))) 3 1++B1):=by rw[stB_acc,hab];rfl
    rw[hst,← hac];exact zWJ hQ (by omega) (Bg.below (t:=nx+2)) (by rw[hac];simp[EV.bel,zQX]) ⟨_,_,rfl,rfl,hxx.1,he1.trans (hup.2.trans hxx.2.1),hxx.2.2⟩
end
end
section
open Go.E Go.RowKit
theorem Rel.learn {ρ:Env} {s:ES} {w w':World} (h:Rel ρ s w) (hB:Below w.heap.size w w') (o:EO) (l:E.Loc) (hl:w.heap.size≤l.r)
  (hbr:BR (fun i=>if i=s.nx then some l else ρ i) w' l o) :
  Go1 ρ s w (fun i=>if i=s.nx then some l else ρ i) (s.new o) w':=by
 have hle:ρ.le (fun i=>if i=s.nx then some l else ρ i):=fun b l' hb=>by
  by_cases hx:b=s.nx
  ·rw[h.fresh b (by omega)] at hb;cases hb
  ·simp[hx,hb]
 have hold:∀ r,r<w.heap.size→w'.heap[r]? = w.heap[r]?:=hB.block;refine ⟨⟨?_,?_,?_,?_⟩,fun i hi=>by simp[show ¬ i=s.nx by omega],by simp[ES.new],h,fun b hb hn=>by rw[ES.get_new,if_neg (by omega)];exact hn,⟨hB.os,hB.tape,hB.output,hB.size,fun r hr _=>hold r hr⟩,?_,rfl⟩
 ·intro b o' l' hg hr;rw[ES.get_new] at hg
  by_cases hx:s.nx=b
  ·subst hx;simp at hg hr;subst hg;subst hr;exact hbr
  ·simp only[hx,if_false] at hg
   simp only[show ¬ b=s.nx from fun e=>hx e.symm,if_false] at hr
   have:=h.live b o' l' hg hr;exact this.mono hle (hold _ this.lt)
 ·intro i hi;have:¬ i=s.nx:=by simp only[ES.new] at hi;omega
  simp only[this,if_false];exact h.fresh i (by simp only[ES.new] at hi;omega)
 ·intro b b' o1 o2 l1 l2 hg hg' hr hr' hne hw;rw[ES.get_new] at hg hg'
  by_cases hx:s.nx=b
  ·subst hx;simp at hg hr;subst hg;subst hr
   simp only[hne,if_false] at hg'
   simp only[show ¬ b'=s.nx from fun e=>hne e.symm,if_false] at hr'
   have:=(h.live b' o2 l2 hg' hr').lt;omega
  ·simp only[hx,if_false] at hg
   simp only[show ¬ b=s.nx from fun e=>hx e.symm,if_false] at hr
   have h1:=(h.live b o1 l1 hg hr).lt
   by_cases hy:s.nx=b'
   ·subst hy;simp at hg' hr';subst hg';subst hr'
    omega
   ·simp only[hy,if_false] at hg'
    simp only[show ¬ b'=s.nx from fun e=>hy e.symm,if_false] at hr'
    exact h.sep b b' o1 o2 l1 l2 hg hg' hr hr' hne hw
 ·intro b o' hg;rw[ES.get_new] at hg
  by_cases hx:s.nx=b
  ·exact ⟨l,if_pos hx.symm⟩
  ·rw[if_neg hx] at hg
   obtain ⟨l',hl'⟩:=h.dom b o' hg;exact ⟨l',hle _ _ hl'⟩
 ·intro b o' l' hg hr;rw[ES.get_new] at hg
  by_cases hx:s.nx=b
  ·subst hx;simp at hr;subst hr
   exact .inr hl
  ·rw[if_neg hx] at hg
   simp only[show ¬ b=s.nx from fun e=>hx e.symm,if_false] at hr
   exact .inl ⟨b,o',l',hg,hr,rfl,id⟩
theorem ecalls_row {P:Program} {g:FuncId} {args:List EV} {s:ES} {Q:ER→ES→Prop} {t:TypeId} {R:List EV→Prop} (hf:∀ (args':Array Value) w,(callFunc g args').run P w=.ok (.enter g args') w)
  (h:∀ (ρ:Env) (w:World) (args':Array Value),Rel ρ s w→VRs ρ args args'.toList→Calls P g args' w fun e w'=>∃ v c xs,e=.returned v∧R c∧(∀ ρ,VRs ρ c xs)∧w'.ownsRow w.heap.size t 1 v c.length xs∧(v=.slice none 0 0↔c=[])∧Below w.heap.size w w')
  (hQ:∀ c,R c→Q (.ret (accE s.nx c.length)) (if c=[] then s else s.new (.cells c t 1 true 0))):ECalls P g args s Q:=by
 intro ρ w args' hR hA;rw[hf];refine CallsIn.mono ((callsIn_wide (n:=0)).2 (h ρ w args' hR hA)) ?_
 rintro e w' ⟨v,c,xs,rfl,hc,hxs,hrow,hnil,hB⟩
 have hq:=hQ c hc
 by_cases hc0:c=[]
 ·subst hc0;rw[if_pos rfl] at hq
  exact ⟨.ret (.slice none 0 0),s,ρ,⟨v,rfl,by rw[VR];exact ⟨rfl,rfl,hnil.2 rfl⟩⟩,hR.below hB,hq⟩
 ·rw[if_neg hc0] at hq
  have hpos:0<c.length:=List.length_pos_iff.2 hc0
  rcases hrow.2 with ⟨hv,-⟩ | ⟨r,cap,cur,rfl,hbase,hheap,hn,hcap,hsz,htake⟩
  ·exact absurd (hnil.1 hv) hc0
  ·rw[Nat.mul_one] at hsz htake
   have hbr:BR (fun i=>if i=s.nx then some ⟨r,0,c.length,cap,1⟩ else ρ i) w' ⟨r,0,c.length,cap,1⟩ (.cells c t 1 true 0):=by
    refine ⟨rfl,rfl,fun h=>absurd h (by decide),hn,cur,(0,0),hheap,⟨by simp only[];omega,fun _ q=>absurd q (by decide)⟩,fun i v hi=>?_,fun _ i _ _=>by simp[free]⟩;obtain ⟨v',a,b⟩:=(hxs (fun i=>if i=s.nx then some ⟨r,0,c.length,cap,1⟩ else ρ i)).get i v hi;have hlt:i<c.length:=(List.getElem?_eq_some_iff.1 hi).1;rw[← htake] at a
    simp only[List.getElem?_take,hlt,if_true] at a
    exact ⟨v',by simpa using a,b⟩
   have hG:=Rel.learn hR hB (.cells c t 1 true 0) ⟨r,0,c.length,cap,1⟩ hbase hbr;refine ⟨.ret (accE s.nx c.length),_,_,⟨_,rfl,?_⟩,hG,hq⟩;rw[zWZ hpos,VR];exact ⟨⟨r,0,c.length,cap,1⟩,cap,0,if_pos rfl,.inr ⟨Nat.one_ne_zero,by simp,hn,by simp⟩,Nat.le_refl _,.inl rfl,rfl⟩
end
end Go.Proofs.YtgajmgkhlkghjaaGreatDoor
