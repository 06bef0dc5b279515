/-
  Own work: a part of the proof that the last text closes.
-/
import Derived.Test.YtgajmgkhlkghjaaGreatDoorHpd
import Derived.Test.YtgajmgkhlkghjaaGreatDoorHt
namespace Go.Proofs.YtgajmgkhlkghjaaGreatDoor
open Go.E
set_option linter.all false
set_option maxRecDepth 100000
set_option maxHeartbeats 16000000
section
theorem noFitC_len:∀ (l:List Ck),noFitC l→253*(l.length / 2)≤totC l
 | [],_=>Nat.zero_le _
 | [x],_=>by show 253*(1 / 2)≤_;omega
 | x::y::l,h=>by
   have h1:noFitC l:=by
    cases l with
    | nil=>trivial
    | cons z l=>exact h.2.2
   have ih:=noFitC_len l h1;have h2:=h.1;have e1:=totC_cons x (y::l);have e2:=totC_cons y l;simp only[List.length_cons];omega
theorem chain_len {p:Gp} {s:Gs}:∀ (l:List TP),Chain p s 16 l→16*(l.length / 2)≤(l.flatMap (·.2)).length
 | [],_=>Nat.zero_le _
 | [x],_=>by show 16*(1 / 2)≤_;omega
 | (b,cs)::(b2,cs2)::l,h=>by
   have ih:=chain_len l h.2.2.2.2;have h2:248 / 16<cs.length+cs2.length:=h.2.1;simp only[List.length_cons,List.flatMap_cons,List.length_append];omega
structure OneOK (p:Gp) (s:Gs) (ps:List Ck) (tb:List TP):Prop where
 tx:TxOK p s ps tb
 ok:GsOK p s
 over:s.over=false
 low:ovl s.put 64 8=zU 8
 own:∀ b∈s.taken,b∈tb.map (·.1)++blkC ps
 len:totC ps≤4000
theorem OneOK.few {p:Gp} {s:Gs} {ps:List Ck} {tb:List TP} (h:OneOK p s ps tb):s.taken.length≤34:=by
 have h1:=nodup_sub_len h.ok.nd h.own;have h2:=noFitC_len ps h.tx.fit;have h3:=chain_len tb h.tx.chain
 have h4:=h.len;rw[h.tx.cells,List.length_map] at h3
 rw[List.length_append,List.length_map,show (blkC ps).length=ps.length by simp[blkC]] at h1
 omega
theorem EdOK.one {p:Gp} {s s':Gs} {T:List UInt8} {ps ps':List Ck} {tb tb':List TP} (h:OneOK p s ps tb) (hat:72≤p.at_) (k:EdOK p s (tb.map (·.1)++blkC ps) T s' ps' tb') (hl:T.length≤4000):OneOK p s' ps' tb' where
 tx:=k.tx
 ok:=k.ok
 over:=k.over.trans h.over
 low:=(ovl_same fun i hi=>k.low _ (by omega)).trans h.low
 own b hb:=by
  rcases (k.taken b).1 hb with q | q
  ·exact absurd (h.own b q.1) q.2
  ·exact q
 len:=by rw[← flatC_length,k.flat];exact hl
variable {p:Gp} (B:List (Nat × EO)) {t:Nat}
theorem edited_c (G:List Gl) (s:Gs) [Big t] [hS0:StL p B t] (hp:p.ok) (hn:60≤p.n) (ps:List Ck) (tb:List TP) (h1:OneOK p s ps tb) (e:Ed) (he:e.ok) :
  EffR G Tryz.prog 18 [.ptr (some ⟨0,0⟩),.int .u32 (refOf tb),.str (flatC ps),.agg (edE e)] (gnd p s B) t (fun v bl nx=>∃ s',bl=gnd p s' B∧nx=t∧∃ ps' tb',v=.tuple [.int .u32 (refOf tb'),.str (flatC ps'),.bool true]∧OneOK p s' ps' tb'):=by
 have hat0:=hp.at0;have hbig:=hp.big;have ht11:11≤t:=hS0.big;have hL:=flatC_length ps;have hlen:=h1.len;obtain ⟨T,hT⟩:∃ T,flatC ps=T:=⟨_,rfl⟩;rw[hT] at hL ⊢
 have hw1:=withinI_c G e.at_ (T.length+1) (by omega) (by omega) he.1.1 he.1.2;have ha:(e.at_ % ((T.length+1:Nat):Int)).toNat≤T.length:=by
  have q:=Int.emod_lt_of_pos e.at_ (show (0:Int)<((T.length+1:Nat):Int) by omega);omega
 generalize (e.at_ % ((T.length+1:Nat):Int)).toNat=a at hw1 ha
 have hw2:=withinI_c G e.n (T.length - a+1) (by omega) (by omega) he.2.1 he.2.2;have ho:(e.n % ((T.length - a+1:Nat):Int)).toNat≤T.length - a:=by
  have q:=Int.emod_lt_of_pos e.n (show (0:Int)<((T.length - a+1:Nat):Int) by omega);omega
 generalize (e.n % ((T.length - a+1:Nat):Int)).toNat=o at hw2 ho
 have hk0:T.length - o+([]:List UInt8).length≤4000:=by show T.length - o+0≤4000;omega
 have ew1:(T.length:Int)+1=((T.length+1:Nat):Int):=by omega
 have ew2:(T.length:Int) - (a:Int)+1=((T.length - a+1:Nat):Int):=by omega
 refine EffR.enter fun Q hQ=>?_
 refine ecalls_I 78 [.tmp 8,.tmp 9,.tmp 10] Tryz.func18 ?_
 repeat' (first|(refine esem_holdR 4 ?_)|refine esem_seqK 36037601701953423 ?_|(refine stp ?_;simp only[go_sem,ew1,edE])|(refine Pure.at (hw1) (by simp) (by simp) rfl ?_;(try simp only[go_sem]))|(refine Pure.at (hw2) (by simp) (by simp) rfl ?_;(try simp only[go_sem]))|(simp only[go_sem,ew2])|(simp (disch:=omega) only[wrap64E])|fail)
 refine ⟨?_⟩;refine esem_cut2 (fun x:List UInt8=>[(0,.ptr (some ⟨0,0⟩)),(1,.int .u32 (refOf tb)),(2,.str T),(11,.int .i64 a),(12,.int .i64 o),(13,.str x)]) (fun _=>(t,.cells (edE e) 33 0 true 0)::stB (objs p s) B) (fun _=>t+1) (fun x=>x.length≤800) ?_ ?_ (fun x hx800=>?_)
 ·intro x _;exact ⟨by simp[frBel],by simp[blBelow,EO.bel,allBelow,EV.bel,Bg.blBelow,edE],by omega⟩
 ·repeat' (first|(refine stp ?_;simp only[go_sem,edE])|(refine spl (fun h=>?_) (fun h=>?_)<;>((try simp only[go_sem,h])))|(refine and_om ?_ ?_;focus omega))
  ·skip
   simp only[KeptX];exact ⟨e.w.take 800,(List.length_take_le 800 _),by simp,by simp,by simp[go_sem,weakL],by simp[go_sem,lessL]⟩
  ·refine esem_skip ?_;simp only[KeptX];exact ⟨e.w,(by omega),by simp,by simp,by simp[go_sem,weakL],by simp[go_sem,lessL]⟩
 repeat' (first|(refine esem_holdR 6 ?_)|refine esem_seqK 36037601701953423 ?_|(simp only[go_sem])|fail)
 refine ⟨?_⟩;refine esem_cut2 (fun x:List UInt8=>[(0,.ptr (some ⟨0,0⟩)),(1,.int .u32 (refOf tb)),(2,.str T),(11,.int .i64 a),(12,.int .i64 o),(13,.str x)]) (fun _=>(t,.cells (edE e) 33 0 true 0)::stB (objs p s) B) (fun _=>t+1) (fun x=>x.length≤800∧T.length - o+x.length≤4000) ?_ ?_ (fun x hxl=>?_)
 ·intro x _;exact ⟨by simp[frBel],by simp[blBelow,EO.bel,allBelow,EV.bel,Bg.blBelow,edE],by omega⟩
 ·repeat' (first|(refine stp ?_;simp only[go_sem,edE])|(simp (disch:=omega) only[wrap64E])|(refine spl (fun h=>?_) (fun h=>?_)<;>((try simp only[go_sem,h])))|fail)
  ·skip
   simp only[KeptX];exact ⟨[],⟨Nat.zero_le _,hk0⟩,by simp,by simp,by simp[go_sem,weakL],by simp[go_sem,lessL]⟩
  ·refine esem_skip ?_;simp only[KeptX];exact ⟨x,⟨hx800,by omega⟩,by simp,by simp,by simp[go_sem,weakL],by simp[go_sem,lessL]⟩
 obtain ⟨hx8,hx4⟩:=hxl;have hD:=cdeleteD_c B G s hp h1.over h1.ok h1.low ps tb h1.tx a (a+o) (by omega) (by omega);have ea:(a:Int)+(o:Int)=((a+o:Nat):Int):=by omega
 rw[hT] at hD
 repeat' (first|refine esem_seqK 36037601701953423 ?_|(refine stp ?_;simp only[go_sem,ea,edE])|(refine EffR.atW hD ?_ ?_ ?_)|(simp only[go_sem])|(simp (disch:=omega) only[wrap64E])|fail)
 ·simp[allBelow,EV.bel]
 ·rintro v B' n ⟨s',rfl,rfl,ps',tb',rfl,-⟩
  exact ⟨rfl,by simp[EV.bel,allBelow],inferInstance⟩
 ·rintro v B' ⟨s1,rfl,ps1,tb1,rfl,hE1⟩ - hB1
  haveI:=hB1;have hl1:(T.take a++T.drop (a+o)).length=T.length - o:=by rw[List.length_append,List.length_take,List.length_drop];omega
  have h2:=hE1.one h1 (by omega) (by omega);have hfew:=h2.few;have hf1:=hE1.flat
  have ht1:=flatC_length ps1;rw[hf1] at ht1
  have hI:=cinsertD_c B G s1 hp h2.over h2.ok h2.low ps1 tb1 h2.tx a x (by omega) (by omega)
  repeat' (first|refine esem_seqK 36037601701953423 ?_|(refine stp ?_;simp only[go_sem])|(refine EffR.atW hI ?_ ?_ ?_)|(simp only[go_sem])|fail)
  ·simp[allBelow,EV.bel]
  ·rintro v B' n ⟨s',rfl,rfl,hq,-⟩
   exact ⟨rfl,by rcases hq with ⟨_,_,rfl,-⟩ | ⟨rfl,-⟩<;>simp[EV.bel,allBelow],inferInstance⟩
  ·rintro v B' ⟨s2,rfl,hq,-⟩ - hB2
   haveI:=hB2
   rcases hq with ⟨ps2,tb2,rfl,hE2⟩ | ⟨-,hq⟩
   ·have hta:(T.take a).length=a:=by rw[List.length_take];omega
    rw[hf1,List.take_left' hta,List.drop_left' hta] at hE2
    have h3:=hE2.one h2 (by omega) (by simp only[List.length_append,List.length_take,List.length_drop];omega);have hf2:=hE2.flat
    repeat' (first|refine esem_seqK 36037601701953423 ?_|(refine stp ?_;simp only[go_sem])|(refine drawQ (id:=12) mixed [(0,[]),(1,[]),(2,[]),(4,[]),(6,[]),(7,[]),(8,[]),(9,[]),(12,[]),(13,[]),(14,[]),(3,[]),(5,[]),(10,[]),(11,[]),(15,[]),(16,[])] (by kernel_rfl) ?_;simp only[go_sem,ea,List.length_append,List.length_take,List.length_drop])|(simp only[go_sem])|(simp (disch:=omega) only[wrap64E])|(refine and_om ?_ ?_;focus omega))
    refine done_gnd hQ (B':=gnd p s2 B) (by omega) (by simp[EV.bel,allBelow]) ⟨s2,rfl,rfl,ps2,tb2,?_,h3⟩;rw[hf2]
   ·exfalso;omega
end
section
theorem wrap_range (x:Int):-9223372036854775808≤IntKind.i64.wrap x∧IntKind.i64.wrap x≤9223372036854775807:=by
 simp only[IntKind.wrap,IntKind.bits,IntKind.signed];simp
 split<;>omega
section
variable {p:Gp} (B:List (Nat × EO)) {t:Nat}
theorem cofE_c (G:List Gl) (s:Gs) [Big t] [hS0:StL p B t] (hp:p.ok) (ho:s.over=false) (hr:ovl s.put 64 8=zU 8) (ps:List Ck) (tb:List TP) (hx:TxOK p s ps tb) (a:Nat) (ha:totC ps<a) :
  EffW G Tryz.prog 22 [.ptr (some ⟨0,0⟩),.int .u32 (refOf tb),.int .i64 a] t [] (gnd p s B) 0 (.tuple [.int .i64 0,.int .i64 6]) [] (gnd p s B) 0:=by
 have h1:=hp.big;have h2:=hp.fit;have hln:=hx.len;have hsum:=hx.sum;refine EffR.drop B ?_ (by simp[EV.bel,allBelow]);refine EffR.enter fun Q hQ=>?_
 refine ecalls_I 33 [.tmp 6,.tmp 7] Tryz.func22 ?_
 repeat' (first|refine esem_seqK 67240903 ?_|(refine stp ?_;simp only[go_sem])|(refine EffR.at (openT_c B G s hp ho hr ps tb hx) ?_)|(simp only[go_sem])|fail)
 rintro v bl nx ⟨B1,v1,rfl,rfl,hS1,he1,htx⟩
 haveI:=hS1;haveI:Big nx:=⟨hS1.big⟩;have h3:=he1.le;have hlen:=tlen_c (p:=p) B1 G s v1 _ ps tb htx hsum (by omega);obtain ⟨x,r,v2,rfl,hxa,-⟩:=htx;have hxt:=hxa.lt
 repeat' (first|refine esem_seqK 67240903 ?_|(refine stp ?_;simp only[go_sem])|(refine EffW.at (hlen ) [] rfl (by simp[hxt,namW_lt hxt];done) ?_;(try simp only[go_sem]))|(refine spl (fun h=>?_) (fun h=>?_)<;>first|omega|((try simp only[opRun]);(try simp only[go_sem,h])))|fail)
 exact done_R0 hQ h3 (Bg.below (t:=nx)) (by simp[EV.bel,allBelow]) ⟨rfl,B1,rfl,hS1,he1⟩
end
theorem places_law (G:List Gl) (hG:Tabs G) (eds:List Ed) (h1:∀ e∈eds,e.ok) (n:Int) (hn1:-9223372036854775808≤n) (hn2:n≤9223372036854775807) (A:List EO) (hA:∀ o∈A,o.bel 0) (hA0:∀ o∈A,tyE o=0) (v1:EV) (hv1:SlV A v1 eds)
  (B0:List (Nat × EO)) (hB0:Bg A.length B0) (hBA:∀ j o,A[j]? = some o→lkp B0 j=some o) :
  ECalls Tryz.prog 5 [v1,.int .i64 n] ⟨B0,A.length,G⟩ fun x s2=>x=.ret (.bool true)∧s2=⟨[],A.length,G⟩:=by
 have aw:=awake_c G hG;refine ecalls_flat 234 [.tmp 4] Tryz.func5 rfl rfl rfl (by kernel_rfl) (le_ble rfl) trivial ?_;obtain ⟨nb,hnb⟩:∃ nb:Nat,nb=60:=⟨60,rfl⟩;have e60:(60:Int)=(nb:Int):=by omega
 repeat' (first|refine esem_seqK 196159429230833773869868419475239577901275902396455714771 ?_|(refine stp ?_;simp only[go_sem,e60])|(refine Pure.at (aw) (by simp) (by simp) rfl ?_;(try simp only[go_sem]))|(refine EffR.at (plain_c B0 G nb (by omega) (by omega)) ?_)|(simp only[go_sem])|fail)
 rintro v B1 nx ⟨d,a,lns,lg,pl,hp,lv,pu,rfl,hB1,hK,hw,hta,hln⟩
 haveI:=hB1;obtain ⟨w1,rfl,hs1⟩:=hv1.up (nb:=nb) (d:=d) (a:=a) (lg:=lg) (pl:=pl) (hp:=hp) (lv:=lv) (pu:=pu) hw.dev.len;have hat:∀ j o,A[j]? = some o→AtG B1 nx j o:=fun j o h=>hK.keep ⟨(List.getElem?_eq_some_iff.1 h).1,hBA j o h⟩ (by rw[hA0 o (List.mem_of_getElem? h)];decide)
 have f1:=hs1.f;have hS:StL (pZ nb) (bcL (258+4*nb) A) (11+(258+4*nb)+A.length):=bcL_StL hA
 repeat' (first|(refine esem_holdR 6 ?_)|refine esem_seqK 196159429230833773869868419475239577901275902396455714771 ?_|(refine stp ?_;simp only[go_sem])|fail)
 refine ⟨?_⟩;refine esem_ground A hA hw hB1 hat hta hln [(0,w1),(1,.int .i64 n),(6,.ptr (some ⟨0,0⟩)),(7,.bool true)] ?_ ?_ ?_
 ·simp only[go_sem,weakL,renF,EV.ren,and_true,true_and];rfl
 ·simp[frBel,EV.bel,f1]
  try omega
 have hpk:=pZ_ok (nb:=nb) (by omega);clear hat hw hK hv1 hta hln hBA aw;generalize 11+(258+4*nb)+A.length=T at hS hs1 f1 ⊢
 generalize bcL (258+4*nb) A=B at hS hs1 ⊢
 haveI:=hS;haveI:Big T:=⟨hS.big⟩;have hbg:=hS.big
 repeat' (first|refine esem_seqK 196159429230833773869868419475239577901275902396455714771 ?_|refine esem_block ?_|(refine stp ?_;simp only[go_sem])|fail)
 refine esem_loopP (fun z:Nat × Gs × List Ck × List TP=>[(0,w1),(1,.int .i64 n),(6,.ptr (some ⟨0,0⟩)),(8,.int .u32 (refOf z.2.2.2)),(9,.str (flatC z.2.2.1)),(10,.int .i64 z.1)]) (fun z:Nat × Gs × List Ck × List TP=>stB (objs (pZ nb) z.2.1) B) (fun z:Nat × Gs × List Ck × List TP=>T) (fun z:Nat × Gs × List Ck × List TP=>z.1≤12∧OneOK (pZ nb) z.2.1 z.2.2.1 z.2.2.2) (fun z:Nat × Gs × List Ck × List TP=>12 - z.1) ((0,sZ,[],[])) ?_ ?_ ?_ ?_ ?_
 ·intro z hz;exact ⟨by simp[frBel,EV.bel,f1],(show blBelow T (stB _ B) from Bg.below (t:=T)),Nat.zero_le _⟩
 ·exact ⟨by decide,TxOK.nil _,⟨List.nodup_nil,by simp[sZ],by simp[sZ],by simp[sZ]⟩,rfl,rfl,by simp[sZ],by simp[totC]⟩
 ·simp only[go_sem,weakL];exact ⟨rfl,rfl⟩
 ·show lessL _ (stB (objs (pZ nb) sZ) B);simp only[go_sem]
 ·rintro ⟨i,s,ps,tb⟩ ⟨hi,hone⟩
  simp only at hi hone ⊢
  have hlen:=hone.len;have hL:=flatC_length ps
  by_cases hgo:i<eds.length∧i<12
  ·rcases hs1 with ⟨rfl,hnil⟩ | ⟨b,ty,rfl,hat⟩
   ·exfalso;rw[hnil] at hgo;simp at hgo
   ·obtain ⟨e,he⟩:∃ e,eds[i]? = some e:=⟨eds[i]'(by omega),List.getElem?_eq_getElem _⟩;have hX:=hat.f (p:=pZ nb);have hbt:=hat.lt;obtain ⟨ht3,htl⟩:=edsE_take3 he;have htl2:(i*3+3≤(edsE eds).length)=True:=eq_true htl;have hed:=edited_c B G s hpk (by show 60≤nb;omega) ps tb hone e (h1 e (List.mem_of_getElem? he));simp only[edE] at hed
    repeat' (first|refine esem_seqK 196159429230833773869868419475239577901275902396455714771 ?_|refine esem_block ?_|(refine stp ?_;simp only[go_sem,hX,ht3,htl2,edE])|(refine EffR.at hed ?_)|(simp only[go_sem])|(refine spl (fun h=>?_) (fun h=>?_)<;>first|omega|((try simp only[opRun]);(try simp only[go_sem,h])))|(refine and_om ?_ ?_;focus omega))
    rintro v bl nx' ⟨s',rfl,hnx,ps',tb',rfl,hone'⟩
    subst nx'
    repeat' (first|refine esem_seqK 196159429230833773869868419475239577901275902396455714771 ?_|(refine stp ?_;simp only[go_sem])|(simp (disch:=omega) only[wrap64E])|fail)
    (refine ⟨(i+1,s',ps',tb'),T,[],?_,?_,rfl,rfl,?_,⟨?_,rfl,?_,?_,?_,?_,?_⟩⟩;rotate_left;(focus (simp only[];omega));(focus (simp[go_sem,weakL,hbt]));(focus (omega));(focus simp);(focus (simp));(focus (simp only[];omega));(focus (simp));(focus (simp));(try simp only[]))
    exact ⟨by omega,hone'⟩
  ·have hx:=hone.tx;have hsum:=hx.sum;obtain ⟨X,hX⟩:∃ X,flatC ps=X:=⟨_,rfl⟩;obtain ⟨c1,c2⟩:=itU_cnt X;have hcb:=(tlG_bounds X).2.1;have hrb:=lnG_bound X X.length 0 0 (by omega);rw[hX] at hL ⊢
   have huc:=ucount_c G X (by omega);have hlc:=lcount_c hG X (by omega);obtain ⟨cn,hcn⟩:∃ cn,(tlG X 0).1=cn:=⟨_,rfl⟩;obtain ⟨rw_,hrw⟩:∃ r,(lnG X 0 0).length=r:=⟨_,rfl⟩;rw[hcn] at huc hcb
   rw[hrw] at hlc hrb
   have ec:(cn:Int)+1=((cn+1:Nat):Int):=by omega
   have el:(X.length:Int)+1=((X.length+1:Nat):Int):=by omega
   have hstop:¬ ((i:Int)<eds.length∧(i:Int)<12):=fun w=>hgo ⟨by omega,by omega⟩
   repeat' (first|(refine esem_holdR 14 ?_)|refine esem_seqK 196159429230833773869868419475239577901275902396455714771 ?_|(refine stp ?_;simp only[go_sem,f1.2.2.2])|(refine spl (fun h=>?_) (fun h=>?_)<;>first|omega|((try simp only[opRun,opSkip]);(try simp only[go_sem,h])))|fail)
   all_goals (
    refine ⟨?_⟩
    repeat' (first|refine esem_seqK 196159429230833773869868419475239577901275902396455714771 ?_|refine esem_block ?_|(refine stp ?_;simp only[go_sem])|(refine Pure.at (huc) (by simp) (by simp) rfl ?_;(try simp only[go_sem]))|(refine Pure.at (hlc) (by simp) (by simp) rfl ?_;(try simp only[go_sem]))|fail)
    refine esem_loopP (fun k:Nat=>[(1,.int .i64 n),(6,.ptr (some ⟨0,0⟩)),(8,.int .u32 (refOf tb)),(9,.str X),(11,.int .i64 cn),(12,.int .i64 rw_),(13,.int .i64 k)]) (fun k:Nat=>stB (objs (pZ nb) s) B) (fun k:Nat=>T) (fun k:Nat=>k≤12) (fun k:Nat=>12 - k) (0) ?_ ?_ ?_ ?_ ?_
    ·intro k hk;exact ⟨by simp[frBel,EV.bel],(show blBelow T (stB _ B) from Bg.below (t:=T)),Nat.zero_le _⟩
    ·exact Nat.zero_le _
    ·simp only[go_sem,weakL]
    ·show lessL _ (stB (objs (pZ nb) s) B);simp only[go_sem]
    ·intro k hk;simp only at hk ⊢
     rcases Nat.lt_or_ge k 12 with hk12 | hk12
     ·obtain ⟨x1,hx1⟩:∃ x,IntKind.i64.wrap (n+97*(k:Int))=x:=⟨_,rfl⟩;obtain ⟨x2,hx2⟩:∃ x,IntKind.i64.wrap (n+131*(k:Int))=x:=⟨_,rfl⟩;obtain ⟨x3,hx3⟩:∃ x,IntKind.i64.wrap (n+13*(k:Int))=x:=⟨_,rfl⟩;have r1:=wrap_range (n+97*(k:Int));have r2:=wrap_range (n+131*(k:Int));have r3:=wrap_range (n+13*(k:Int));rw[hx1] at r1
      rw[hx2] at r2
      rw[hx3] at r3
      have w1:=withinI_c G x1 (cn+1) (by omega) (by omega) r1.1 r1.2;have w2:=withinI_c G x2 (X.length+1) (by omega) (by omega) r2.1 r2.2;have w3:=withinI_c G x3 rw_ (by omega) (by omega) r3.1 r3.2;have b1:(x1 % ((cn+1:Nat):Int)).toNat≤cn:=by
       have q:=Int.emod_lt_of_pos x1 (show (0:Int)<((cn+1:Nat):Int) by omega);omega
      have b2:(x2 % ((X.length+1:Nat):Int)).toNat≤X.length:=by
       have q:=Int.emod_lt_of_pos x2 (show (0:Int)<((X.length+1:Nat):Int) by omega);omega
      have b3:(x3 % (rw_:Int)).toNat<rw_:=by
       have q:=Int.emod_lt_of_pos x3 (show (0:Int)<(rw_:Int) by omega);omega
      generalize (x1 % ((cn+1:Nat):Int)).toNat=y1 at w1 b1
      generalize (x2 % ((X.length+1:Nat):Int)).toNat=y2 at w2 b2
      generalize (x3 % (rw_:Int)).toNat=y3 at w3 b3
      have hat:=cat_c B G s hpk hone.over hone.low ps tb hx y1 (by omega);have hua:=uat_c G X (by omega) y1 (by omega);have hnt:=nth_it X y1 0 (by omega);rw[show itU X 0=0 from rfl,Nat.zero_add] at hnt
      obtain ⟨m,hm⟩:=hasU X y2 b2;have hof:=cof_c B G hG s hpk hone.over hone.low ps tb hx y2 (by omega);have huo:=uof_c G X (by omega) y2 m b2 hm;have hli:=cline_c B G hG s hpk hone.over hone.low ps tb hx y3 (by omega);have hll:=lline_c hG X (by omega) y3 (by omega);rw[hX] at hat hof hli
      rw[hnt] at hat hua
      rw[of_same hm] at hof
      obtain ⟨⟨l1,l2,l3⟩,hln⟩:∃ q,(lnG X 0 0)[y3]? = some q:=⟨(lnG X 0 0)[y3]'(by omega),List.getElem?_eq_getElem _⟩;rw[hln] at hli hll
      simp only[atE,clE,lineE] at hat hua hli hll
      repeat' (first|refine esem_seqK 196159429230833773869868419475239577901275902396455714771 ?_|refine esem_block ?_|(refine stp ?_;simp only[go_sem,ec,el])|(refine Pure.at (w1) (by simp) (by simp) rfl ?_;(try simp only[go_sem]))|(refine Pure.at (w2) (by simp) (by simp) rfl ?_;(try simp only[go_sem]))|(refine Pure.at (w3) (by simp) (by simp) rfl ?_;(try simp only[go_sem]))|(refine EffW.at (hat ) [] rfl (by (first|(simp;done)|fail)) ?_;(try simp only[go_sem]))|(refine Pure.at (hua) (by simp) (by simp) rfl ?_;(try simp only[go_sem]))|(refine EffW.at (hof ) [] rfl (by (first|(simp;done)|fail)) ?_;(try simp only[go_sem]))|(refine Pure.at (huo) (by simp) (by simp) rfl ?_;(try simp only[go_sem]))|(refine EffW.at (hli ) [] rfl (by (first|(simp;done)|fail)) ?_;(try simp only[go_sem]))|(refine Pure.at (hll) (by simp) (by simp) rfl ?_;(try simp only[go_sem]))|(simp only[go_sem,hx1,hx2,hx3])|(simp (disch:=omega) only[wrap64E])|(refine spl (fun h=>?_) (fun h=>?_)<;>first|omega|try simp only[go_sem,h])|fail)
      (refine ⟨k+1,T,[],?_,?_,rfl,rfl,?_,⟨?_,rfl,?_,?_,?_,?_,?_⟩⟩;rotate_left;(focus (simp only[];omega));(focus (simp[go_sem,weakL]));(focus (omega));(focus simp);(focus (simp));(focus (simp only[];omega));(focus (simp));(focus (simp));(try simp only[]))
      exact hk12
     ·obtain rfl:k=12:=by omega
      have hat:=cat_c B G s hpk hone.over hone.low ps tb hx (cn+1) (by omega);have hnn:=nth_none X (cn+1) 0 (Nat.zero_le _) (by omega);rw[show itU X 0=0 from rfl] at hnn
      have hof:=cofE_c B G s hpk hone.over hone.low ps tb hx (X.length+1) (by omega);have hli:=cline_c B G hG s hpk hone.over hone.low ps tb hx rw_ (by omega);rw[hX] at hat hli
      rw[hnn] at hat
      rw[List.getElem?_eq_none (by omega)] at hli
      simp only[atE,clE] at hat hli
      repeat' (first|refine esem_seqK 196159429230833773869868419475239577901275902396455714771 ?_|(refine stp ?_;simp only[go_sem,ec,el])|(refine EffW.at (hat ) [] rfl (by (first|(simp;done)|fail)) ?_;(try simp only[go_sem]))|(refine EffW.at (hof ) [] rfl (by (first|(simp;done)|fail)) ?_;(try simp only[go_sem]))|(refine EffW.at (hli ) [] rfl (by (first|(simp;done)|fail)) ?_;(try simp only[go_sem]))|(simp (disch:=omega) only[wrap64E])|fail)
      exact done_flat rfl trivial)
end
end Go.Proofs.YtgajmgkhlkghjaaGreatDoor
