/-
  Own work: a part of the proof that the last text closes.
-/
import Derived.Test.YtncphnpndkjkaaaGreatDoorHi
namespace Go.Proofs.YtncphnpndkjkaaaGreatDoor
open Go.E
set_option linter.all false
set_option maxRecDepth 100000
set_option maxHeartbeats 16000000
section
variable {p:Gp}
theorem NF_len {fill:Nat}:∀ {l m:List PL},l.map (·.cs.length)=m.map (·.cs.length)→NF fill m→NF fill l
 | [],_,_,_=>trivial
 | [_],_,_,_=>trivial
 | _::_::_,[],h,_=>by simp at h
 | _::_::_,[_],h,_=>by simp at h
 | x::y::l,a::b::m,h,k=>by
   simp only[List.map_cons,List.cons.injEq] at h
   refine ⟨by have:=k.1;omega,NF_len (l:=y::l) (m:=b::m) ?_ k.2⟩;simp only[List.map_cons,List.cons.injEq];exact h.2
theorem Chain.NF {s:Gs} {c:Nat}:∀ {l:List TP},Chain p s c l→Go.Proofs.YtncphnpndkjkaaaGreatDoor.NF (248 / c) (l.map zWM)
 | [],_=>trivial
 | [_],_=>trivial
 | x::y::l,h=>⟨h.2.1,Chain.NF (l:=y::l) h.2.2⟩
theorem tp_pl (l:List TP):(l.map zWM).map yFB=l:=by
 rw[List.map_map]
 conv=>rhs;rw[← List.map_id l]
 refine List.map_congr_left fun x _=>?_
 simp[yFB,zWM]
theorem findS_lt {l:List PL} {i:Nat} (h:i<tot l):∃ q,zBK l i=some q:=by
 cases hq:zBK l i with
 | some q=>exact ⟨q,rfl⟩
 | none=>have:=yVQ hq;omega
structure PutOK (p:Gp) (s s':Gs) (l l':List TP) (cells:List Cell):Prop where
 chain:Chain p s' 16 l'
 blks:l'.map (·.1)=l.map (·.1)
 cells:l'.flatMap (·.2)=cells
 taken:s'.taken=s.taken
 least:s'.least=s.least
 over:s'.over=s.over
 low:∀ y,y<p.at_→zDY s'.put y=zDY s.put y
 rd:∀ b,b ∉ l.map (·.1)→Go.Proofs.YtncphnpndkjkaaaGreatDoor.rd p s' b=Go.Proofs.YtncphnpndkjkaaaGreatDoor.rd p s b
theorem PutOK.refl {s:Gs} {l:List TP} (h:Chain p s 16 l):PutOK p s s l l (l.flatMap (·.2)):=⟨h,rfl,rfl,rfl,rfl,rfl,fun _ _=>rfl,fun _ _=>rfl⟩
theorem put_set {l:List TP} {k q:Nat} {blk:Nat} {cs:List Cell} {b:Cell} (hk:l[k]? = some (blk,cs)) (hq:q<cs.length):(l.set k (blk,cs.set q b)).flatMap (·.2)=(l.flatMap (·.2)).set (tot ((l.map zWM).take k)+q) b:=by
 have hl:=(List.getElem?_eq_some_iff.1 hk).1;have e:l=l.take k++(blk,cs)::l.drop (k+1):=by
  conv=>lhs;rw[← List.take_append_drop k l,List.drop_eq_getElem_cons hl]
  rw[(List.getElem?_eq_some_iff.1 hk).2]
 have hlen:(l.take k).length=k:=by rw[List.length_take];omega
 have ht:tot ((l.map zWM).take k)=((l.take k).flatMap (·.2)).length:=by
  rw[← List.map_take];simp[tot,zWM,List.length_flatMap,Function.comp_def]
 rw[ht];generalize l.take k=a at *
 generalize l.drop (k+1)=d at *
 subst e;rw[List.set_append_right _ _ (by omega),hlen,Nat.sub_self,List.set_cons_zero];simp only[List.flatMap_append,List.flatMap_cons];rw[List.set_append_right _ _ (by omega),Nat.add_sub_cancel_left,List.set_append_left _ _ hq]
theorem PutOK.step {s s1 s2:Gs} {l l1:List TP} {cells:List Cell} {i k q blk:Nat} {cs:List Cell} {b:Cell} (h:PutOK p s s1 l l1 cells) (hnd:(l.map (·.1)).Nodup) (hb:b.length=16) (hf:zBK (l1.map zWM) i=some (k,q)) (hk:l1[k]? = some (blk,cs)) (hq:q<cs.length)
  (hw:WrR p s1 s2 blk (zRS 16 (zWQ (l1.drop (k+1))) (cs.set q b))):PutOK p s s2 l (l1.set k (blk,cs.set q b)) (cells.set i b):=by
 have hl:=(List.getElem?_eq_some_iff.1 hk).1;have hnd1:(l1.map (·.1)).Nodup:=h.blks ▸ hnd;have hbl:(l1.set k (blk,cs.set q b)).map (·.1)=l1.map (·.1):=by
  rw[List.map_set];refine List.ext_getElem? fun j=>?_
  rw[List.getElem?_set]
  split
  ·rename_i e
   subst e;rw[if_pos (by simpa using hl),List.getElem?_map,hk];rfl
  ·rfl
 have hin:blk∈l1.map (·.1):=List.mem_map.2 ⟨_,List.mem_of_getElem? hk,rfl⟩;obtain ⟨y,-,-,hi⟩:=zBV hf;refine ⟨?_,by rw[hbl,h.blks],by rw[put_set hk hq,hi,h.cells],hw.taken.trans h.taken,hw.least.trans h.least,hw.over.trans h.over,fun y hy=>(hw.low y hy).trans (h.low y hy),fun b' hb'=>?_⟩
 ·rw[← tp_pl (l1.set k (blk,cs.set q b))];refine Chain.of (fun j y hj=>?_) (NF_len ?_ h.chain.NF)
  ·rw[tp_pl];rw[List.getElem?_map,List.getElem?_set] at hj
   by_cases e:k=j
   ·subst e;rw[if_pos rfl,if_pos hl] at hj
    obtain rfl:y=zWM (blk,cs.set q b):=by simpa using hj.symm
    have hp:=h.chain.get hk;simp only at hp
    refine ⟨hp.lt,by rw[hw.taken];exact hp.use,?_,by simp[zWM];exact hp.pos,by simp[zWM];exact hp.fill,fun z hz=>?_⟩
    ·show Go.Proofs.YtncphnpndkjkaaaGreatDoor.rd p s2 ((blk:Int)).toNat=_;rw[Int.toNat_natCast,hw.rd,if_pos rfl,List.drop_set_of_lt (by omega)];rfl
    ·rcases List.mem_or_eq_of_mem_set hz with w | w
     ·exact hp.len z w
     ·rw[w];exact hb
   ·rw[if_neg e] at hj
    simp only[Option.map_eq_some_iff] at hj
    obtain ⟨⟨b',cs'⟩,hj,rfl⟩:=hj;have hp:=h.chain.get hj;simp only at hp
    have hne:b' ≠ blk:=fun q'=>e (by
     have h1:(l1.map (·.1))[j]? = some b':=by rw[List.getElem?_map,hj];rfl
     have h2:(l1.map (·.1))[k]? = some blk:=by rw[List.getElem?_map,hk];rfl
     obtain ⟨w1,e1⟩:=List.getElem?_eq_some_iff.1 h1;obtain ⟨w2,e2⟩:=List.getElem?_eq_some_iff.1 h2;exact ((List.getElem_inj hnd1).1 (by rw[e1,e2,q'])).symm)
    refine ⟨hp.lt,by rw[hw.taken];exact hp.use,?_,hp.pos,hp.fill,hp.len⟩;show Go.Proofs.YtncphnpndkjkaaaGreatDoor.rd p s2 ((b':Int)).toNat=_;rw[Int.toNat_natCast,hw.rd,if_neg hne,hp.is];show zRS 16 _ cs'=zRS 16 _ cs'
    congr 1
    rcases Nat.lt_or_ge k (j+1) with w | w
    ·rw[List.drop_set_of_lt w]
    ·have hd:(l1.drop (j+1)) ≠ []:=List.ne_nil_of_length_pos (by rw[List.length_drop];omega);rw[List.drop_set,if_neg (by omega)]
     cases hdd:l1.drop (j+1) with
     | nil=>exact absurd hdd hd
     | cons z m=>
       rcases Nat.eq_zero_or_pos (k - (j+1)) with w2 | w2
       ·rw[w2,List.set_cons_zero];have:l1[k]? = some z:=by
         have:=congrArg List.head? hdd;rw[List.head?_drop] at this
         rw[show k=j+1 by omega];exact this
        rw[hk] at this
        cases this
        rfl
       ·obtain ⟨n,hn⟩:∃ n,k - (j+1)=n+1:=⟨k - (j+1) - 1,by omega⟩;rw[hn,List.set_cons_succ];obtain ⟨zb,zc⟩:=z;rfl
  ·rw[List.map_map,List.map_map];refine List.ext_getElem? fun j=>?_
   rw[List.getElem?_map,List.getElem?_map,List.getElem?_set]
   split
   ·rename_i e
    subst e
    (rw[hk];simp[zWM])
   ·rfl
 ·rw[hw.rd,if_neg (fun e=>hb' (by rw[e,← h.blks];exact hin)),h.rd b' hb']
end
section
variable {p:Gp} (B:List (Nat × EO)) {t:Nat}
theorem Chain.uses {p:Gp} {s:Gs} {c:Nat}:∀ {l:List TP},Chain p s c l→∀ b∈l.map (·.1),b∈s.taken
 | x::l,h,b,hb=>by
   rcases List.mem_cons.1 hb with rfl | hb
   ·exact h.1.use
   ·exact Chain.uses h.2.2 b hb
structure TabW (p:Gp) (s:Gs) (was:List Nat) (cells:List Cell) (s':Gs) (l:List TP):Prop where
 chain:Chain p s' 16 l
 cells:l.flatMap (·.2)=cells
 nd:(l.map (·.1)).Nodup
 ok:GsOK p s'
 taken:∀ b,b∈s'.taken↔(b∈s.taken∧b ∉ was)∨b∈l.map (·.1)
 mine:∀ b∈l.map (·.1),b∈was∨b ∉ s.taken
 rd:∀ b,b ∉ was→b ∉ l.map (·.1)→Go.Proofs.YtncphnpndkjkaaaGreatDoor.rd p s' b=Go.Proofs.YtncphnpndkjkaaaGreatDoor.rd p s b
 over:s'.over=s.over
 low:∀ y,y<p.at_→zDY s'.put y=zDY s.put y
theorem StL.up {p:Gp} {B:List (Nat × EO)} {T T':Nat} [hS:StL p B T] (h:T≤T'):StL p B T'∧Ext B T B T':=by
 have:=StL.above (p:=p) (B:=B) (t:=T) (t':=T') (X:=[]) h trivial trivial trivial
 rwa [List.nil_append] at this
theorem TabW.of {p:Gp} {s s1 s2:Gs} {l l1 l2:List TP} {cs cs2 M:List Cell} (h:PutOK p s s1 l l1 cs) (k:TabOK p s1 16 (l1.map (·.1)) cs2 s2 l2) (e:cs2=M):TabW p s (l.map (·.1)) M s2 l2 where
 chain:=k.chain
 cells:=k.cells.trans e
 nd:=k.nd
 ok:=k.ok
 taken b:=by rw[k.taken,h.taken,h.blks]
 mine b hb:=by have:=k.mine b hb;rwa [h.taken,h.blks] at this
 rd b h1 h2:=(k.rd b h2).trans (h.rd b h1)
 over:=k.over.trans h.over
 low y hy:=(k.low y hy).trans (h.low y hy)
theorem TabW.put {p:Gp} {s s1:Gs} {l l1:List TP} {cs M:List Cell} (h:PutOK p s s1 l l1 cs) (ok:GsOK p s1) (hnd:(l1.map (·.1)).Nodup) (e:l1.flatMap (·.2)=M):TabW p s (l.map (·.1)) M s1 l1 where
 chain:=h.chain
 cells:=e
 nd:=hnd
 ok:=ok
 taken b:=by
  rw[h.taken,h.blks]
  constructor
  ·intro hb
   by_cases hm:b∈l.map (·.1)
   ·exact .inr hm
   ·exact .inl ⟨hb,hm⟩
  ·rintro (⟨hb,-⟩ | hb)
   ·exact hb
   ·rw[← h.blks] at hb
    rw[← h.taken];exact h.chain.uses b hb
 mine b hb:=.inl (h.blks ▸ hb)
 rd b h1 _:=h.rd b h1
 over:=h.over
 low:=h.low
theorem ins_eq {M W:List Cell} {a q:Nat} (h1:a+q=W.length) (h2:a+q≤M.length) (h3:W.drop (W.length - q)=M.drop (M.length - q)):(M.take a++W.drop a).take a++(M.drop a).take (M.length - q - a)++(M.take a++W.drop a).drop a=M:=by
 have hl:(M.take a).length=a:=by rw[List.length_take];omega
 rw[List.take_left' hl,List.drop_left' hl,show W.drop a=M.drop (M.length - q) by rw[← h3];congr 1;omega,List.append_assoc];have e:M.drop (M.length - q)=(M.drop a).drop (M.length - q - a):=by rw[List.drop_drop];congr 1;omega
 rw[e,List.take_append_drop,List.take_append_drop]
theorem yWP {l m:List (Nat × UInt8)} {a n:Nat} (h:∀ k,k<n→zDY l (a+k)=zDY m (a+k)):ovl l a n=ovl m a n:=by
 unfold ovl;exact List.map_congr_left fun k hk=>h k (List.mem_range.1 hk)
theorem refOf_blks:∀ {l m:List TP},l.map (·.1)=m.map (·.1)→zWQ l=zWQ m
 | [],[],_=>rfl
 | (a,b)::l,(c,d)::m,h=>by simp at h;simp[zWQ,h.1]
 | [],_::_,h=>by simp at h
 | _::_,[],h=>by simp at h
theorem GsOK.same {p:Gp} {s s':Gs} (h:GsOK p s) (ht:s'.taken=s.taken) (hl:s'.least=s.least):GsOK p s':=⟨by rw[ht];exact h.nd,fun b hb=>by rw[ht];exact h.low b (by rw[← hl];exact hb),fun b hb=>h.lt b (by rw[← ht];exact hb),by rw[hl];exact h.least⟩
theorem yBV (l:List TP):tot (l.map zWM)=(l.flatMap (·.2)).length:=by simp[tot,zWM,List.length_flatMap,Function.comp_def]
theorem yVG {fill:Nat} (hf:1≤fill):∀ (n:Nat) (b:Int) (cs:List Cell),zRD (zVZ fill n b cs)≤cs.length∧(0≤b→zRD (zVZ fill n b cs)≤cs.length - fill)
 | 0,b,cs=>⟨Nat.zero_le _,fun _=>Nat.zero_le _⟩
 | n+1,b,cs=>by
   simp only[zVZ]
   by_cases hc:cs=[]
   ·rw[if_pos hc];exact ⟨Nat.zero_le _,fun _=>Nat.zero_le _⟩
   ·rw[if_neg hc];have h1:=List.length_pos_iff.2 hc;obtain ⟨ih,-⟩:=yVG hf n (-1) (cs.drop fill);rw[List.length_drop] at ih
    simp only[zRD];refine ⟨?_,fun hb=>?_⟩
    ·split<;>omega
    ·rw[if_neg (by omega)];exact ih
theorem yDH {fill c:Nat} (hf:1≤fill) {l:List PL} {i:Nat} (hi:i≤tot l) {ins:List Cell} (hl:∀ y∈l,1≤y.cs.length∧y.cs.length≤fill) (hb:∀ y∈l,0≤y.b):zRD (zJX fill l i ins)≤ins.length:=by
 by_cases hn:l=[]
 ·subst hn;exact (yVG hf ins.length (-1) ins).1
 ·obtain ⟨y,h1,h2,h3⟩:=yDN hn hi;rw[zFR fill hn i ins h1];have hym:=List.mem_of_getElem? h1;have hz:∀ m:List PL,(∀ y∈m,y∈l)→zRD m=0:=fun m hm=>xVK fun y hy=>hb y (hm y hy)
  rw[zBD,zBD,hz _ (fun y hy=>List.take_subset _ _ hy),hz _ (fun y hy=>List.drop_subset _ _ hy)];have h4:=(yVG hf (y.cs.length+ins.length) y.b (y.cs.take (zJZ l i).2++ins++y.cs.drop (zJZ l i).2)).2 (hb y hym);have h5:(y.cs.take (zJZ l i).2++ins++y.cs.drop (zJZ l i).2).length=y.cs.length+ins.length:=by simp;omega
  have h6:=(hl y hym).2;omega
theorem xWX {α:Type} {P:Program} {k m:Nat} {x y:Code} {Q Q2:X→Fr→ES→Prop} {fr:Fr} {s:ES} (F:α→List (Nat × EV)) (B:α→List (Nat × EO)) (N:α→Nat) (R:α→Prop) (h2:∀ a,R a→ESem P k y Q ⟨F a,.unk,fr.n,fr.ds⟩ ⟨B a,N a,s.gl⟩) (hb:∀ a,R a→zWP (N a) (F a))
  (h1:ESem P k x (KeptP k m fr.n fr.ds s.gl F B N R) fr s):ESem P k x (yBQ (xYG P k m y Q) Q2) fr s:=zBY h2 hb h1
theorem yHX {P:Program} (i:Nat) {k:Nat} {c:Code} {Q:X→Fr→ES→Prop} {fr:Fr} {s:ES} (h:Hold (ESem P k (.block i c) Q fr s)):ESem P k (.block i c) Q fr s:=h.go
theorem rows_c (G:List Gl) (s:Gs) [Big t] [hS0:StL p B t] (hp:p.ok) (ho:s.over=false) (hs:GsOK p s) (hr:ovl s.put 64 8=zU 8) (x rp:Nat) (n0:Nat) (v2:EV) (tb:List TP) (hch:Chain p s 16 tb) (hnd:(tb.map (·.1)).Nodup) (htn:tb.length≤p.n)
  (hx:AtB B t x (.cells [.ptr (some ⟨0,0⟩),.int .u32 (zWQ tb),zVW rp n0,v2] 196 0 true 0)) (rw_ rm:Nat) (evW evM:List EV) (W M:List Cell) (hW:CellsV B t evW W) (hM:CellsV B t evM M) (hwat:AtB B t rw_ (.cells evW 56 1 true 0)) (hmat:AtB B t rm (.cells evM 56 1 true 0)) (hWc:tb.flatMap (·.2)=W)
  (hMl:∀ z∈M,z.length=16) (hmn:M.length≤1000000) (hw0:0<W.length) (hm0:0<M.length) (hdj:∀ (i j:Nat) (d d' o o' n n' c c':Nat),evW[i]? = some (.slice (some ⟨d,o⟩) n c)→evM[j]? = some (.slice (some ⟨d',o'⟩) n' c')→d ≠ d') :
  EffR G Tryz.prog 118 [.ptr (some ⟨x,0⟩),.slice (some ⟨rw_,0⟩) W.length W.length,.slice (some ⟨rm,0⟩) M.length M.length] (gnd p s B) t (fun v bl nx=>∃ B' s',bl=gnd p s' B'∧StL p B' nx∧Ext B t B' nx ∧
   ((∃ tb',v=.tuple [.int .u32 (zWQ tb'),.int .i64 0]∧TabW p s (tb.map (·.1)) M s' tb')∨(v=.tuple [.int .u32 0,.int .i64 7]∧W.length<M.length∧p.n<s.taken.length+(M.length - W.length)))):=by
 have h1:=hp.big;have h2:=hp.fit;have hxt:=hx.lt;have hwt:=hwat.lt;have hmt:=hmat.lt;have hX:=hx.f (p:=p);have hWA:=hwat.f (p:=p);have hMA:=hmat.f (p:=p);have hWl:=hW.length;have hMll:=hM.length;have hWlen:∀ z∈W,z.length=16:=fun z hz=>by
  rw[← hWc] at hz
  obtain ⟨y,hy,hz⟩:=List.mem_flatMap.1 hz;exact hch.lens y hy z hz
 have hWn:W.length≤248*tb.length:=by rw[← hWc];exact zFB (Chain.fills hch)
 have hget:∀ {ev:List EV} {cs:List Cell} (hv:CellsV B t ev cs) (i:Nat) (hi:i<cs.length),∃ d o c D z w f,ev[i]? = some (.slice (some ⟨d,o⟩) cs[i].length c)∧AtB B t d (.cells (zQZ D) 5 z w f)∧o+cs[i].length≤D.length∧(D.drop o).take cs[i].length=cs[i]:=fun hv i hi=>by
  obtain ⟨v,hv1,d,o,c,D,z,w,f,rfl,q1,q2,q3⟩:=hv.get (List.getElem?_eq_getElem hi);exact ⟨d,o,c,D,z,w,f,hv1,q1,q2,q3⟩
 refine EffR.enter fun Q hQ=>?_
 refine zQV 166 [.tmp 6,.tmp 7] Tryz.func118 ?_
 repeat' (first|(refine yHX 0 ?_)|refine zQQ 1393796761830930217162001527058526340390855 ?_|(refine stp ?_;simp only[go_sem])|fail)
 refine ⟨?_⟩;refine xWX (fun (i:Nat)=>[(0,.ptr (some ⟨x,0⟩)),(1,.slice (some ⟨rw_,0⟩) W.length W.length),(2,.slice (some ⟨rm,0⟩) M.length M.length),(8,.int .i64 (i:Nat)),(9,.int .i64 0)]) (fun _=>stB (zXG p s) B) (fun _=>t) (fun i=>i≤W.length∧i≤M.length∧W.take i=M.take i) ?_ (fun i _=>by simp[zWP,hxt,hwt,hmt]) ?_
 ·rintro i ⟨hi1,hi2,hi3⟩
  have hiW:i≤W.length:=hi1;have hiM:i≤M.length:=hi2;have em:min (W.length:Int) (M.length:Int)=((min W.length M.length:Nat):Int):=by omega
  have ib1:(W.length≤evW.length)=True:=eq_true (by omega);have ib2:(M.length≤evM.length)=True:=eq_true (by omega)
  repeat' (first|(refine yHX 2 ?_)|refine zQQ 1393796761830930217162001527058526340390855 ?_|(refine zWV (id:=4) mixed [(0,[]),(1,[]),(3,[]),(4,[]),(2,[]),(6,[]),(5,[]),(7,[])] (by kernel_rfl) ?_;simp only[go_sem,hWA,hMA,Int.toNat_natCast])|(refine zQT ?_ ?_;focus omega))
  refine ⟨?_⟩;refine xWX (fun (q:Nat)=>[(0,.ptr (some ⟨x,0⟩)),(1,.slice (some ⟨rw_,i⟩) (W.length - i) (W.length - i)),(2,.slice (some ⟨rm,i⟩) (M.length - i) (M.length - i)),(8,.int .i64 i),(9,.int .i64 (q:Nat))]) (fun _=>stB (zXG p s) B) (fun _=>t) (fun q=>i+q≤W.length∧i+q≤M.length∧W.drop (W.length - q)=M.drop (M.length - q)) ?_ (fun q _=>by simp[zWP,hxt,hwt,hmt]) ?_
  ·rintro q ⟨hq1,hq2,hq3⟩
   have ew:((W.length - i:Nat):Int) - (q:Int)=((W.length - i - q:Nat):Int):=by omega
   have eM:((M.length - i:Nat):Int) - (q:Int)=((M.length - i - q:Nat):Int):=by omega
   have ib1:i+(W.length - i)≤evW.length:=by omega
   have ib2:i+(M.length - i)≤evM.length:=by omega
   repeat' (first|refine zQQ 1393796761830930217162001527058526340390855 ?_|refine zQW ?_|(refine stp ?_;simp only[go_sem])|(refine zWV (id:=7) mixed [(0,[]),(1,[]),(3,[]),(6,[]),(7,[]),(9,[]),(2,[]),(4,[]),(5,[]),(12,[]),(8,[]),(10,[]),(11,[]),(13,[])] (by kernel_rfl) ?_;simp only[go_sem,hWA,hMA,ew,eM,Int.toNat_natCast])|(simp only[go_sem,Int.toNat_natCast])|(simp (disch:=omega) only[zQK])|(refine zQT ?_ ?_;focus omega))
   obtain ⟨bo,hbo⟩:∃ k,min (W.length - i - q) (M.length - i - q)=k:=⟨_,rfl⟩;have hboe:min ((W.length - i - q:Nat):Int) ((M.length - i - q:Nat):Int)=(bo:Int):=by omega
   rw[hboe];refine zQM (fun z:Nat × Gs × List TP × List (Nat × EO) × Nat=>[(0,.ptr (some ⟨x,0⟩)),(1,.slice (some ⟨rw_,i⟩) (W.length - i - q) (W.length - i)),(2,.slice (some ⟨rm,i⟩) (M.length - i - q) (M.length - i)),(8,.int .i64 i),(10,.int .i64 bo),(84,.int .i64 bo),(85,.int .i64 z.1)]) (fun z:Nat × Gs × List TP × List (Nat × EO) × Nat=>stB (zXG p z.2.1) z.2.2.2.1) (fun z:Nat × Gs × List TP × List (Nat × EO) × Nat=>z.2.2.2.2) (fun z:Nat × Gs × List TP × List (Nat × EO) × Nat=>z.1≤bo∧StL p z.2.2.2.1 z.2.2.2.2∧Ext B t z.2.2.2.1 z.2.2.2.2∧PutOK p s z.2.1 tb z.2.2.1 (M.take (i+z.1)++W.drop (i+z.1))) (fun z:Nat × Gs × List TP × List (Nat × EO) × Nat=>bo - z.1) ((0,s,tb,B,t)) ?_ ?_ ?_ ?_ ?_
   ·rintro ⟨j,sj,tj,Bj,Tj⟩ ⟨hj,hS,he,-⟩
    haveI:=hS;have h5:t≤Tj:=he.le;exact ⟨by simp[zWP,show x<Tj by omega,show rw_<Tj by omega,show rm<Tj by omega],(show blBelow Tj (stB (zXG p sj) Bj) from Bg.below (t:=Tj)),by show t≤Tj;omega⟩
   ·refine ⟨Nat.zero_le _,hS0,Ext.refl _ _,?_⟩;have:=PutOK.refl hch;rw[hWc] at this
    rw[Nat.add_zero,← hi3,List.take_append_drop];exact this
   ·simp only[go_sem,zQS]
   ·show zWG _ (stB (zXG p s) B);simp only[go_sem]
   ·rintro ⟨j,sj,tj,Bj,Tj⟩ ⟨hj,hS,he,hpo⟩
    simp only at hj hS he hpo ⊢
    haveI:=hS;haveI:Big Tj:=⟨hS.big⟩;have h5:t≤Tj:=he.le;have hXj:=(hx.mono he).f (p:=p);have hWj:=(hwat.mono he).f (p:=p);have hMj:=(hmat.mono he).f (p:=p);have hjo:sj.over=false:=by rw[hpo.over];exact ho
    have hjr:ovl sj.put 64 8=zU 8:=by rw[← hr];exact yWP fun k hk=>hpo.low _ (by have:=hp.at0;omega)
    have hblk:=congrArg List.length hpo.blks;rw[List.length_map,List.length_map] at hblk
    have hrefj:zWQ tj=zWQ tb:=refOf_blks hpo.blks;have hjs:GsOK p sj:=GsOK.same hs hpo.taken hpo.least;have hxt2:x<Tj∧rw_<Tj∧rm<Tj:=by omega
    rcases Nat.lt_or_ge j bo with hjl | hjl
    ·skip
     have hiw:i+j<W.length:=by omega
     have him:i+j<M.length:=by omega
     obtain ⟨d1,o1,c1,D1,z1,w1,f1,g1,a1,l1,t1⟩:=hget hW _ hiw;obtain ⟨d2,o2,c2,D2,z2,w2,f2,g2,a2,l2,t2⟩:=hget hM _ him;have hdd:=hdj _ _ d1 d2 o1 o2 _ _ c1 c2 g1 g2;have e1:=hWlen _ (List.getElem_mem hiw);have e2:=hMl _ (List.getElem_mem him);have hq:=yXW G D1 D2 W[i+j] M[i+j] o1 o2 z1 f1 z2 f2 c1 c2 w1 w2 t1 t2 l1 l2 (by omega) (by omega);have hcvm:CellV Bj Tj (.slice (some ⟨d2,o2⟩) 16 c2) M[i+j]:=⟨d2,o2,c2,D2,z2,w2,f2,by rw[e2],a2.mono he,l2,t2⟩;rw[e1] at g1 hq
     rw[e2] at g2 hq
     have hf1:=(a1.mono he).f (p:=p);have hf2:=(a2.mono he).f (p:=p);have htk:M.take (i+(j+1))=M.take (i+j)++[M[i+j]]:=by rw[show i+(j+1)=i+j+1 by omega,List.take_succ,List.getElem?_eq_getElem him];rfl
     have hwd:W.drop (i+j)=W[i+j]::W.drop (i+(j+1)):=by rw[List.drop_eq_getElem_cons hiw];rfl
     by_cases hc:W[i+j]=M[i+j]
     ·rw[decide_eq_true hc] at hq
      repeat' (first|refine zQQ 1393796761830930217162001527058526340390855 ?_|refine zQW ?_|(refine stp ?_;simp only[go_sem])|(refine zWV (id:=12) mixed [(0,[]),(1,[]),(2,[]),(4,[]),(5,[]),(6,[]),(3,[]),(7,[]),(8,[])] (by kernel_rfl) ?_;simp only[go_sem,hWj,hMj,g1,g2,Int.toNat_natCast])|(refine Eff.atR (hq ) rfl [d1,d2] rfl (by first|(simp[hf1,hf2,hdd];done)|fail) rfl ?_;(try simp only[go_sem]))|(simp (disch:=omega) only[zQK])|(refine spl (fun h=>?_) (fun h=>?_)<;>first|omega|try simp only[go_sem,h])|(refine zQT ?_ ?_;focus omega))
      (refine ⟨(j+1,sj,tj,Bj,Tj),Tj,[],?_,?_,rfl,rfl,?_,⟨?_,rfl,?_,?_,?_,?_,?_⟩⟩;rotate_left;(focus (simp only[];omega));(focus (simp[go_sem,zQS,hxt2]));(focus (omega));(focus simp);(focus (simp));(focus (simp only[];omega));(focus (simp));(focus (simp));(try simp only[]))
      refine ⟨hjl,hS,he,?_⟩;rw[htk,List.append_assoc,List.singleton_append,← hc,← hwd];exact hpo
     ·rw[decide_eq_false hc] at hq
      have htt:tot (tj.map zWM)=W.length:=by
       have:=congrArg List.length hpo.cells;rw[yBV];rw[this,List.length_append,List.length_take,List.length_drop];omega
      obtain ⟨⟨k,qq⟩,hfs⟩:=findS_lt (l:=tj.map zWM) (i:=i+j) (by omega);obtain ⟨y,hy1,hy2,hy3⟩:=zBV hfs;simp only at hy1 hy2 hy3
      obtain ⟨⟨blk,cs⟩,hbc⟩:∃ tp,tj[k]? = some tp:=by
       have:=(List.getElem?_eq_some_iff.1 hy1).1;rw[List.length_map] at this
       exact ⟨tj[k],List.getElem?_eq_getElem _⟩
      rw[List.getElem?_map,hbc] at hy1
      obtain rfl:y=zWM (blk,cs):=by simpa using hy1.symm
      have hput:=tput_c (p:=p) Bj G sj hp hjo hjr 16 (by omega) (by omega) tj hpo.chain (by omega) (i+j) k qq (by omega) hfs _ M[i+j] hcvm e2 blk cs hbc hy2;rw[hrefj] at hput
      have eij:(i:Int)+(j:Int)=((i+j:Nat):Int):=by omega
      repeat' (first|(simp (disch:=omega) only[zQK,eij])|refine zQQ 1393796761830930217162001527058526340390855 ?_|refine zQW ?_|(refine stp ?_;simp only[go_sem])|(refine zWV (id:=12) mixed [(0,[]),(1,[]),(2,[]),(4,[]),(5,[]),(6,[]),(3,[]),(7,[]),(8,[])] (by kernel_rfl) ?_;simp only[go_sem,hWj,hMj,g1,g2,Int.toNat_natCast])|(refine zWV (id:=13) mixed [(0,[]),(1,[]),(2,[]),(4,[]),(5,[]),(6,[]),(8,[]),(9,[]),(10,[]),(11,[]),(12,[]),(13,[]),(3,[]),(7,[]),(14,[]),(15,[]),(16,[])] (by kernel_rfl) ?_;simp only[go_sem,hMj,hXj,g2,Int.toNat_natCast])|(refine Eff.atR (hq ) rfl [d1,d2] rfl (by first|(simp[hf1,hf2,hdd];done)|fail) rfl ?_;(try simp only[go_sem]))|(refine spl (fun h=>?_) (fun h=>?_)<;>first|omega|try simp only[go_sem,h])|(refine zQT ?_ ?_;focus omega))
      obtain ⟨Tq,hTq⟩:∃ X,X=Tj+26:=⟨_,rfl⟩;have hup:=StL.up (p:=p) (B:=Bj) (T:=Tj) (T':=Tq) (by omega);haveI:=hup.1;haveI:Big Tq:=⟨hup.1.big⟩;have hput:=tput_c (p:=p) (t:=Tq) Bj G sj hp hjo hjr 16 (by omega) (by omega) tj hpo.chain (by omega) (i+j) k qq (by omega) hfs _ M[i+j] (hcvm.mono hup.2) e2 blk cs hbc hy2;rw[hrefj] at hput
      rw[← hTq];refine EffR.at hput ?_
      rintro v bl nx ⟨B',s',rfl,rfl,hS',he',hwr⟩
      haveI:=hS';have h6:=he'.le;have hxt3:x<nx∧rw_<nx∧rm<nx:=by omega
      repeat' (first|refine zQQ 1393796761830930217162001527058526340390855 ?_|(refine stp ?_;simp only[go_sem])|(simp only[go_sem])|(simp (disch:=omega) only[zQK])|fail)
      (refine ⟨(j+1,s',tj.set k (blk,cs.set qq M[i+j]),B',nx),nx,[],?_,?_,rfl,rfl,?_,⟨?_,rfl,?_,?_,?_,?_,?_⟩⟩;rotate_left;(focus (simp only[];omega));(focus (simp[go_sem,zQS,hxt3]));(focus (omega));(focus simp);(focus (simp));(focus (simp only[];omega));(focus (simp));(focus (simp));(try simp only[]))
      refine ⟨hjl,hS',he.trans (hup.2.trans he'),?_⟩;have hst:=hpo.step hnd e2 hfs hbc hy2 hwr;have hcw:(M.take (i+j)++W.drop (i+j)).set (i+j) M[i+j]=M.take (i+(j+1))++W.drop (i+(j+1)):=by
       rw[List.set_append_right _ _ (by rw[List.length_take];omega),List.length_take,Nat.min_eq_left (by omega),Nat.sub_self,hwd,List.set_cons_zero,htk,List.append_assoc,List.singleton_append]
      rw[hcw] at hst
      exact hst
    ·obtain rfl:j=bo:=by omega
     have eij:(i:Int)+(j:Int)=((i+j:Nat):Int):=by omega
     have en:((W.length - i - q:Nat):Int) - (j:Int)=((W.length - i - q - j:Nat):Int):=by omega
     have ib3:i+(M.length - i - q)≤evM.length:=by omega
     have htt:tot (tj.map zWM)=W.length:=by
      have:=congrArg List.length hpo.cells;rw[yBV];rw[this,List.length_append,List.length_take,List.length_drop];omega
     have hndj:(tj.map (·.1)).Nodup:=hpo.blks ▸ hnd
     repeat' (first|(simp (disch:=omega) only[zQK,eij,en])|refine zQQ 1393796761830930217162001527058526340390855 ?_|refine zQW ?_|(refine stp ?_;simp only[go_sem,hXj])|(refine zWV (id:=18) mixed [(0,[]),(1,[]),(2,[]),(4,[]),(5,[]),(6,[]),(8,[]),(9,[]),(10,[]),(11,[]),(13,[]),(3,[]),(7,[]),(12,[]),(14,[]),(15,[]),(16,[]),(17,[]),(18,[]),(19,[])] (by kernel_rfl) ?_;simp only[go_sem,hXj])|(refine zWV (id:=20) mixed [(0,[]),(1,[]),(2,[]),(4,[]),(5,[]),(6,[]),(8,[]),(9,[]),(10,[]),(11,[]),(12,[]),(3,[]),(7,[]),(13,[]),(14,[]),(15,[]),(16,[]),(17,[]),(18,[])] (by kernel_rfl) ?_;simp only[go_sem,hXj,hMj,Int.toNat_natCast])|(refine spl (fun h=>?_) (fun h=>?_)<;>first|omega|try simp only[go_sem,h])|(refine zQT ?_ ?_;focus omega))
     ·obtain ⟨Tq,hTq⟩:∃ X,X=Tj+20:=⟨_,rfl⟩;have hup:=StL.up (p:=p) (B:=Bj) (T:=Tj) (T':=Tq) (by omega);haveI:=hup.1;haveI:Big Tq:=⟨hup.1.big⟩;have hdel:=yFF (p:=p) (t:=Tq) Bj G sj hp hjo hjs hjr 16 (by omega) (by omega) tj hpo.chain (by omega) hndj (i+j) (W.length - i - q - j) (by omega) (by omega);rw[hrefj] at hdel
      rw[← hTq];refine EffR.at hdel ?_
      rintro v bl nx ⟨B',s',rfl,hS',he',lt,rfl,htab⟩
      haveI:=hS';have h6:=he'.le
      repeat' (first|(refine stp ?_;simp only[go_sem])|(simp only[go_sem])|fail)
      refine zWX hQ (by omega) (Bg.below (t:=nx)) (by simp[EV.bel]) ⟨B',s',rfl,hS',he.trans (hup.2.trans he'),.inl ⟨lt,rfl,TabW.of hpo htab ?_⟩⟩;rw[hpo.cells,List.take_append_of_le_length (by rw[List.length_take];omega),List.take_take,Nat.min_self,List.drop_append,List.drop_of_length_le (by rw[List.length_take];omega),List.nil_append,List.drop_drop,List.length_take,Nat.min_eq_left (by omega),show i+j+(i+j+(W.length - i - q - j) - (i+j))=W.length - q by omega,hq3,show i+j=M.length - q by omega,List.take_append_drop]
     ·obtain ⟨Tq,hTq⟩:∃ X,X=Tj+19:=⟨_,rfl⟩;have hup:=StL.up (p:=p) (B:=Bj) (T:=Tj) (T':=Tq) (by omega);haveI:=hup.1;haveI:Big Tq:=⟨hup.1.big⟩;obtain ⟨ins,hins⟩:∃ l,l=(M.drop (i+j)).take (M.length - i - q - j):=⟨_,rfl⟩;have hinl:ins.length=M.length - i - q - j:=by rw[hins,List.length_take,List.length_drop];omega
      have hrz:RowZ Bj Tq (.slice (some ⟨rm,i+j⟩) (M.length - i - q - j) (M.length - i - j)) ins:=⟨rm,i+j,M.length - i - j,evM,1,true,0,by rw[hinl],hmat.mono (he.trans hup.2),⟨by omega,by omega⟩,by
       rw[hinl,hins];exact ((hM.mono (he.trans hup.2)).drop (i+j)).take _⟩
      have hti:=yFM (p:=p) (t:=Tq) Bj G sj hp hjo hjs hjr 16 (by omega) (by omega) tj hpo.chain (by omega) hndj (i+j) (by omega) ins _ hrz (by omega) (by omega) (fun z hz=>hMl z (by rw[hins] at hz;exact List.drop_subset _ _ (List.take_subset _ _ hz)));rw[hrefj] at hti
      rw[← hTq];refine EffR.at hti ?_
      rintro v bl nx ⟨B',s',rfl,hS',he',hres⟩
      haveI:=hS';have h6:=he'.le;have hext:=he.trans (hup.2.trans he')
      cases hfg:zVJ p sj (zXB (248 / 16) [] (zJX (248 / 16) (tj.map zWM) (i+j) ins)) with
      | mk s1 o=>
        rw[hfg] at hres
        cases o with
        | none=>
          obtain ⟨rfl,rfl⟩:=hres
          repeat' (first|(refine stp ?_;simp only[go_sem])|(simp only[go_sem])|fail)
          refine zWX hQ (by omega) (Bg.below (t:=nx)) (by simp[EV.bel]) ⟨B',_,rfl,hS',hext,.inr ⟨rfl,by omega,?_⟩⟩;have f1:=zSS _ sj hjs _ hfg;have f2:=(zPP (248 / 16) (zJX (248 / 16) (tj.map zWM) (i+j) ins)).2;have f3:=yDH (fill:=248 / 16) (c:=16) (by omega) (l:=tj.map zWM) (i:=i+j) (by omega) (ins:=ins) (fun y hy=>by
           obtain ⟨z,hz,rfl⟩:=List.mem_map.1 hy;obtain ⟨k,hk,e⟩:=List.mem_iff_getElem.1 hz;have:=hpo.chain.get (k:=k) (x:=z) (by rw[← e];exact List.getElem?_eq_getElem hk);exact ⟨this.pos,this.fill⟩) (fun y hy=>by
           obtain ⟨z,hz,rfl⟩:=List.mem_map.1 hy;exact Int.natCast_nonneg _)
          rw[hpo.taken] at f1
          omega
        | some l1=>
          obtain ⟨rfl,htab⟩:=hres
          repeat' (first|(refine stp ?_;simp only[go_sem])|(simp only[go_sem])|fail)
          refine zWX hQ (by omega) (Bg.below (t:=nx)) (by simp[EV.bel]) ⟨B',s',rfl,hS',hext,.inl ⟨l1.map yFB,rfl,TabW.of hpo htab ?_⟩⟩;rw[hpo.cells,hins,show M.length - i - q - j=M.length - q - (i+j) by omega];exact ins_eq (by omega) (by omega) hq3
     ·refine zWX hQ (by omega) (Bg.below (t:=Tj)) (by simp[EV.bel]) ⟨Bj,sj,rfl,hS,he,.inl ⟨tj,by rw[hrefj],TabW.put hpo hjs hndj ?_⟩⟩;rw[hpo.cells,show i+j=M.length - q by omega]
      conv=>lhs;rw[show M.length - q=W.length - q by omega,hq3]
      rw[show W.length - q=M.length - q by omega,List.take_append_drop]
  repeat' (first|refine zQW ?_|(simp only[go_sem])|fail)
  refine zQM (fun q:Nat=>[(0,.ptr (some ⟨x,0⟩)),(1,.slice (some ⟨rw_,i⟩) (W.length - i) (W.length - i)),(2,.slice (some ⟨rm,i⟩) (M.length - i) (M.length - i)),(8,.int .i64 i),(9,.int .i64 (q:Nat))]) (fun q:Nat=>stB (zXG p s) B) (fun q:Nat=>t) (fun q:Nat=>i+q≤W.length∧i+q≤M.length∧W.drop (W.length - q)=M.drop (M.length - q)) (fun q:Nat=>W.length - q) (0) ?_ ?_ ?_ ?_ ?_
  ·intro q hq;exact ⟨by simp[zWP,hxt,hwt,hmt],(show blBelow t (stB (zXG p s) B) from Bg.below (t:=t)),Nat.le_refl _⟩
  ·exact ⟨by omega,by omega,by simp⟩
  ·simp only[go_sem,zQS]
  ·show zWG _ (stB (zXG p s) B);simp only[go_sem]
  ·rintro q ⟨hq1,hq2,hq3⟩
   have em2:min ((W.length - i:Nat):Int) ((M.length - i:Nat):Int)=((min (W.length - i) (M.length - i):Nat):Int):=by omega
   have ew:((W.length - i:Nat):Int) - (q:Int)=((W.length - i - q:Nat):Int):=by omega
   have eM:((M.length - i:Nat):Int) - (q:Int)=((M.length - i - q:Nat):Int):=by omega
   have ib1:i+(W.length - i)≤evW.length:=by omega
   have ib2:i+(M.length - i)≤evM.length:=by omega
   rcases Nat.lt_or_ge q (min (W.length - i) (M.length - i)) with hql | hql
   ·skip
    have hiw:W.length - 1 - q<W.length:=by omega
    have him:M.length - 1 - q<M.length:=by omega
    obtain ⟨d1,o1,c1,D1,z1,w1,f1,g1,a1,l1,t1⟩:=hget hW _ hiw;obtain ⟨d2,o2,c2,D2,z2,w2,f2,g2,a2,l2,t2⟩:=hget hM _ him;have hdd:=hdj _ _ d1 d2 o1 o2 _ _ c1 c2 g1 g2;have e1:=hWlen _ (List.getElem_mem hiw);have e2:=hMl _ (List.getElem_mem him);have hq:=yXW G D1 D2 W[W.length - 1 - q] M[M.length - 1 - q] o1 o2 z1 f1 z2 f2 c1 c2 w1 w2 t1 t2 l1 l2 (by omega) (by omega);rw[e1] at g1 hq
    rw[e2] at g2 hq
    have hf1:=a1.f (p:=p);have hf2:=a2.f (p:=p);have ei1:((W.length - i:Nat):Int) - 1 - (q:Int)=((W.length - i - 1 - q:Nat):Int):=by omega
    have ei2:((M.length - i:Nat):Int) - 1 - (q:Int)=((M.length - i - 1 - q:Nat):Int):=by omega
    have ej1:i+(W.length - i - 1 - q)=W.length - 1 - q:=by omega
    have ej2:i+(M.length - i - 1 - q)=M.length - 1 - q:=by omega
    by_cases hc:W[W.length - 1 - q]=M[M.length - 1 - q]
    ·rw[decide_eq_true hc] at hq
     repeat' (first|(simp (disch:=omega) only[zQK,ei1,ei2])|refine zQQ 1393796761830930217162001527058526340390855 ?_|refine zQW ?_|(refine stp ?_;simp only[go_sem])|(refine zWV (id:=5) mixed [(0,[]),(1,[]),(3,[]),(2,[]),(4,[]),(5,[]),(6,[]),(7,[]),(8,[]),(9,[]),(12,[]),(16,[]),(17,[]),(20,[]),(10,[]),(11,[]),(13,[]),(14,[]),(15,[]),(18,[]),(19,[]),(21,[]),(22,[]),(23,[]),(24,[]),(25,[])] (by kernel_rfl) ?_;simp only[go_sem,em2])|(refine Eff.atR (hq ) rfl [d1,d2] rfl (by first|(simp[hf1,hf2,hdd];done)|fail) rfl ?_;(try simp only[go_sem]))|(simp only[go_sem,g1,g2,ej1,ej2,Int.toNat_natCast])|(refine spl (fun h=>?_) (fun h=>?_)<;>first|omega|((try simp only[zKN]);(try simp only[go_sem,hWA,hMA,h])))|(refine zQT ?_ ?_;focus omega))
     (refine ⟨q+1,t,[],?_,?_,rfl,rfl,?_,⟨?_,rfl,?_,?_,?_,?_,?_⟩⟩;rotate_left;(focus (simp only[];omega));(focus (simp[go_sem,zQS,hxt,hwt,hmt]));(focus (omega));(focus simp);(focus (simp));(focus (simp only[];omega));(focus (simp));(focus (simp));(try simp only[]))
     refine ⟨by omega,by omega,?_⟩;rw[show W.length - (q+1)=W.length - 1 - q by omega,show M.length - (q+1)=M.length - 1 - q by omega,List.drop_eq_getElem_cons hiw,List.drop_eq_getElem_cons him,hc,show W.length - 1 - q+1=W.length - q by omega,show M.length - 1 - q+1=M.length - q by omega,hq3]
    ·rw[decide_eq_false hc] at hq
     repeat' (first|(simp (disch:=omega) only[zQK,ei1,ei2])|refine zQQ 1393796761830930217162001527058526340390855 ?_|(refine stp ?_;simp only[go_sem])|(refine zWV (id:=5) mixed [(0,[]),(1,[]),(3,[]),(2,[]),(4,[]),(5,[]),(6,[]),(7,[]),(8,[]),(9,[]),(12,[]),(16,[]),(17,[]),(20,[]),(10,[]),(11,[]),(13,[]),(14,[]),(15,[]),(18,[]),(19,[]),(21,[]),(22,[]),(23,[]),(24,[]),(25,[])] (by kernel_rfl) ?_;simp only[go_sem,em2])|(refine Eff.atR (hq ) rfl [d1,d2] rfl (by first|(simp[hf1,hf2,hdd];done)|fail) rfl ?_;(try simp only[go_sem]))|(simp only[go_sem,g1,g2,ej1,ej2,Int.toNat_natCast])|(refine spl (fun h=>?_) (fun h=>?_)<;>first|omega|((try simp only[zKN]);(try simp only[go_sem,hWA,hMA,h])))|(refine zQT ?_ ?_;focus omega))
     refine ⟨q,t,[],⟨hq1,hq2,hq3⟩,rfl,rfl,?_,⟨?_,rfl,?_,?_,?_,?_,?_⟩⟩
     ·simp[go_sem,zQS,hxt,hwt,hmt]
     ·omega
     ·simp
     ·simp
     ·simp only[];omega
     ·simp
     ·simp
   ·repeat' (first|refine zQQ 1393796761830930217162001527058526340390855 ?_|(refine stp ?_;simp only[go_sem])|(refine zWV (id:=5) mixed [(0,[]),(1,[]),(3,[]),(2,[]),(4,[]),(5,[]),(6,[]),(7,[]),(8,[]),(9,[]),(12,[]),(16,[]),(17,[]),(20,[]),(10,[]),(11,[]),(13,[]),(14,[]),(15,[]),(18,[]),(19,[]),(21,[]),(22,[]),(23,[]),(24,[]),(25,[])] (by kernel_rfl) ?_;simp only[go_sem,em2])|(refine spl (fun h=>?_) (fun h=>?_)<;>first|omega|((try simp only[zJB]);(try simp only[go_sem,h])))|fail)
    refine ⟨q,t,[],⟨hq1,hq2,hq3⟩,rfl,rfl,?_,⟨?_,rfl,?_,?_,?_,?_,?_⟩⟩
    ·simp[go_sem,zQS,hxt,hwt,hmt]
    ·omega
    ·simp
    ·simp
    ·simp only[];omega
    ·simp
    ·simp
 repeat' (first|refine zQW ?_|(simp only[go_sem])|fail)
 refine zQM (fun i:Nat=>[(0,.ptr (some ⟨x,0⟩)),(1,.slice (some ⟨rw_,0⟩) W.length W.length),(2,.slice (some ⟨rm,0⟩) M.length M.length),(8,.int .i64 i),(9,.int .i64 0)]) (fun i:Nat=>stB (zXG p s) B) (fun i:Nat=>t) (fun i:Nat=>i≤W.length∧i≤M.length∧W.take i=M.take i) (fun i:Nat=>W.length - i) (0) ?_ ?_ ?_ ?_ ?_
 ·intro i hi;exact ⟨by simp[zWP,hxt,hwt,hmt],(show blBelow t (stB (zXG p s) B) from Bg.below (t:=t)),Nat.le_refl _⟩
 ·exact ⟨Nat.zero_le _,Nat.zero_le _,rfl⟩
 ·simp only[go_sem,zQS]
 ·show zWG _ (stB (zXG p s) B);simp only[go_sem]
 ·rintro i ⟨hi1,hi2,hi3⟩
  rcases Nat.lt_or_ge i (min W.length M.length) with hil | hil
  ·have hiw:i<W.length:=by omega
   have him:i<M.length:=by omega
   obtain ⟨d1,o1,c1,D1,z1,w1,f1,g1,a1,l1,t1⟩:=hget hW i hiw;obtain ⟨d2,o2,c2,D2,z2,w2,f2,g2,a2,l2,t2⟩:=hget hM i him;have hdd:=hdj i i d1 d2 o1 o2 _ _ c1 c2 g1 g2;have e1:=hWlen _ (List.getElem_mem hiw);have e2:=hMl _ (List.getElem_mem him);have hq:=yXW G D1 D2 W[i] M[i] o1 o2 z1 f1 z2 f2 c1 c2 w1 w2 t1 t2 l1 l2 (by omega) (by omega);rw[e1] at g1 hq
   rw[e2] at g2 hq
   have hf1:=a1.f (p:=p);have hf2:=a2.f (p:=p);have em:min (W.length:Int) (M.length:Int)=((min W.length M.length:Nat):Int):=by omega
   have ib1:(W.length≤evW.length)=True:=eq_true (by omega);have ib2:(M.length≤evM.length)=True:=eq_true (by omega)
   by_cases hc:W[i]=M[i]
   ·rw[decide_eq_true hc] at hq
    repeat' (first|refine zQQ 1393796761830930217162001527058526340390855 ?_|refine zQW ?_|(refine stp ?_;simp only[go_sem])|(refine zWV (id:=2) mixed [(0,[]),(1,[]),(3,[]),(2,[]),(4,[]),(5,[]),(6,[]),(7,[]),(8,[]),(9,[]),(10,[]),(12,[]),(13,[]),(14,[]),(11,[]),(15,[]),(16,[]),(17,[])] (by kernel_rfl) ?_;simp only[go_sem,em])|(refine Eff.atR (hq ) rfl [d1,d2] rfl (by first|(simp[hf1,hf2,hdd];done)|fail) rfl ?_;(try simp only[go_sem]))|(simp (disch:=omega) only[zQK])|(refine spl (fun h=>?_) (fun h=>?_)<;>first|omega|((try simp only[zKN]);(try simp only[go_sem,hWA,hMA,g1,g2,Int.toNat_natCast,h])))|(refine zQT ?_ ?_;focus omega))
    (refine ⟨i+1,t,[],?_,?_,rfl,rfl,?_,⟨?_,rfl,?_,?_,?_,?_,?_⟩⟩;rotate_left;(focus (simp only[];omega));(focus (simp[go_sem,zQS,hxt,hwt,hmt]));(focus (omega));(focus simp);(focus (simp));(focus (simp only[];omega));(focus (simp));(focus (simp));(try simp only[]))
    refine ⟨by omega,by omega,?_⟩;rw[List.take_succ,List.take_succ,hi3,List.getElem?_eq_getElem hiw,List.getElem?_eq_getElem him,hc]
   ·rw[decide_eq_false hc] at hq
    repeat' (first|refine zQQ 1393796761830930217162001527058526340390855 ?_|(refine stp ?_;simp only[go_sem])|(refine zWV (id:=2) mixed [(0,[]),(1,[]),(3,[]),(2,[]),(4,[]),(5,[]),(6,[]),(7,[]),(8,[]),(9,[]),(10,[]),(12,[]),(13,[]),(14,[]),(11,[]),(15,[]),(16,[]),(17,[])] (by kernel_rfl) ?_;simp only[go_sem,em])|(refine Eff.atR (hq ) rfl [d1,d2] rfl (by first|(simp[hf1,hf2,hdd];done)|fail) rfl ?_;(try simp only[go_sem]))|(refine spl (fun h=>?_) (fun h=>?_)<;>first|omega|((try simp only[zKN]);(try simp only[go_sem,hWA,hMA,g1,g2,Int.toNat_natCast,h])))|(refine zQT ?_ ?_;focus omega))
    refine ⟨i,t,[],⟨hi1,hi2,hi3⟩,rfl,rfl,?_,⟨?_,rfl,?_,?_,?_,?_,?_⟩⟩
    ·simp[go_sem,zQS,hxt,hwt,hmt]
    ·omega
    ·simp
    ·simp
    ·simp only[];omega
    ·simp
    ·simp
  ·have em:min (W.length:Int) (M.length:Int)=((min W.length M.length:Nat):Int):=by omega
   have ib1:(W.length≤evW.length)=True:=eq_true (by omega);have ib2:(M.length≤evM.length)=True:=eq_true (by omega)
   repeat' (first|refine zQQ 1393796761830930217162001527058526340390855 ?_|(refine stp ?_;simp only[go_sem])|(refine zWV (id:=2) mixed [(0,[]),(1,[]),(3,[]),(2,[]),(4,[]),(5,[]),(6,[]),(7,[]),(8,[]),(9,[]),(10,[]),(12,[]),(13,[]),(14,[]),(11,[]),(15,[]),(16,[]),(17,[])] (by kernel_rfl) ?_;simp only[go_sem,em])|(refine spl (fun h=>?_) (fun h=>?_)<;>first|omega|((try simp only[zJB]);(try simp only[go_sem,h])))|fail)
   refine ⟨i,t,[],⟨hi1,hi2,hi3⟩,rfl,rfl,?_,⟨?_,rfl,?_,?_,?_,?_,?_⟩⟩
   ·simp[go_sem,zQS,hxt,hwt,hmt]
   ·omega
   ·simp
   ·simp
   ·simp only[];omega
   ·simp
   ·simp
end
section
variable {p:Gp} (B:List (Nat × EO)) {t:Nat}
theorem rows0_c (G:List Gl) (s:Gs) [Big t] [hS0:StL p B t] (hp:p.ok) (ho:s.over=false) (hs:GsOK p s) (hr:ovl s.put 64 8=zU 8) (x rp:Nat) (n0:Nat) (v2:EV)
  (hx:AtB B t x (.cells [.ptr (some ⟨0,0⟩),.int .u32 0,zVW rp n0,v2] 196 0 true 0)) (rm:Nat) (evM:List EV) (M:List Cell) (hM:CellsV B t evM M) (hmat:AtB B t rm (.cells evM 56 1 true 0))
  (hMl:∀ z∈M,z.length=16) (hmn:M.length≤1000000) (hm0:0<M.length) :
  EffR G Tryz.prog 118 [.ptr (some ⟨x,0⟩),.slice none 0 0,.slice (some ⟨rm,0⟩) M.length M.length] (gnd p s B) t (fun v bl nx=>∃ B' s',bl=gnd p s' B'∧StL p B' nx∧Ext B t B' nx ∧
   match zVJ p s (zXB (248 / 16) [] (zJX (248 / 16) [] 0 M)) with
   | (s1,none)=>v=.tuple [.int .u32 0,.int .i64 7]∧p.n<s.taken.length+M.length
   | (s1,some l1)=>v=.tuple [.int .u32 (zWQ (l1.map yFB)),.int .i64 0]∧TabW p s [] M s' (l1.map yFB)):=by
 have h1:=hp.big;have h2:=hp.fit;have hxt:=hx.lt;have hmt:=hmat.lt;have hX:=hx.f (p:=p);have hMA:=hmat.f (p:=p);have hMll:=hM.length;refine EffR.enter fun Q hQ=>?_
 refine zQV 166 [.tmp 6,.tmp 7] Tryz.func118 ?_;have e0:min (0:Int) (M.length:Int)=0:=by omega
 have e1:((M.length:Int) - 0).toNat=M.length:=by omega
 repeat' (first|refine zQQ 1393796761830930217162001527058526340390855 ?_|refine zQW ?_|(refine stp ?_;simp only[go_sem,e0])|(refine zWV (id:=2) mixed [(0,[]),(1,[]),(3,[]),(2,[]),(4,[]),(5,[]),(6,[]),(7,[]),(8,[]),(9,[]),(10,[]),(12,[]),(13,[]),(14,[]),(11,[]),(15,[]),(16,[]),(17,[])] (by kernel_rfl) ?_;simp only[go_sem,e0])|(refine zWV (id:=4) mixed [(0,[]),(1,[]),(3,[]),(4,[]),(2,[]),(6,[]),(5,[]),(7,[])] (by kernel_rfl) ?_;simp only[go_sem,hMA,Int.toNat_zero,Nat.sub_zero])|(refine zWV (id:=5) mixed [(0,[]),(1,[]),(3,[]),(2,[]),(4,[]),(5,[]),(6,[]),(7,[]),(8,[]),(9,[]),(12,[]),(16,[]),(17,[]),(20,[]),(10,[]),(11,[]),(13,[]),(14,[]),(15,[]),(18,[]),(19,[]),(21,[]),(22,[]),(23,[]),(24,[]),(25,[])] (by kernel_rfl) ?_;simp only[go_sem,e0])|(refine zWV (id:=7) mixed [(0,[]),(1,[]),(3,[]),(6,[]),(7,[]),(9,[]),(2,[]),(4,[]),(5,[]),(12,[]),(8,[]),(10,[]),(11,[]),(13,[])] (by kernel_rfl) ?_;simp only[go_sem,hMA,Int.toNat_zero,Nat.sub_zero,Int.sub_zero])|(refine zWV (id:=20) mixed [(0,[]),(1,[]),(2,[]),(4,[]),(5,[]),(6,[]),(8,[]),(9,[]),(10,[]),(11,[]),(12,[]),(3,[]),(7,[]),(13,[]),(14,[]),(15,[]),(16,[]),(17,[]),(18,[])] (by kernel_rfl) ?_;simp only[go_sem,hX,hMA,Int.toNat_zero,Nat.sub_zero,Int.zero_add])|(simp only[go_sem])|(refine zZM 1393796761830930217162001527058526340390855 1 ?_;simp only[go_sem])|(simp (disch:=omega) only[zQK])|(refine spl (fun h=>?_) (fun h=>?_)<;>first|omega|try simp only[go_sem,h])|(refine zQT ?_ ?_;focus omega))
 obtain ⟨Tq,hTq⟩:∃ X,X=t+85:=⟨_,rfl⟩;have hup:=StL.up (p:=p) (B:=B) (T:=t) (T':=Tq) (by omega);haveI:=hup.1;haveI:Big Tq:=⟨hup.1.big⟩;have hrz:RowZ B Tq (.slice (some ⟨rm,0⟩) M.length M.length) M:=⟨rm,0,M.length,evM,1,true,0,rfl,hmat.mono hup.2,⟨by omega,Nat.le_refl _⟩,by
  rw[List.drop_zero,List.take_of_length_le (by omega)];exact hM.mono hup.2⟩
 have hti:=yFM (p:=p) (t:=Tq) B G s hp ho hs hr 16 (by omega) (by omega) [] trivial (Nat.zero_le _) List.nodup_nil 0 (Nat.zero_le _) M _ hrz hm0 hmn hMl;rw[show (zWQ []:Nat)=0 from rfl,show ((0:Nat):Int)=0 from rfl] at hti
 rw[← hTq];refine EffR.at hti ?_
 rintro v bl nx ⟨B',s',rfl,hS',he',hres⟩
 haveI:=hS';have h6:=he'.le;have hext:=hup.2.trans he';rw[List.map_nil] at hres
 cases hfg:zVJ p s (zXB (248 / 16) [] (zJX (248 / 16) [] 0 M)) with
 | mk s1 o=>
   rw[hfg] at hres
   cases o with
   | none=>
     obtain ⟨rfl,rfl⟩:=hres
     repeat' (first|(refine stp ?_;simp only[go_sem])|(simp only[go_sem])|fail)
     refine zWX hQ (by omega) (Bg.below (t:=nx)) (by simp[EV.bel]) ⟨B',_,rfl,hS',hext,?_⟩;rw[hfg];refine ⟨rfl,?_⟩;have f1:=zSS _ s hs _ hfg;have f2:=(zPP (248 / 16) (zJX (248 / 16) [] 0 M)).2;have f3:=yDH (fill:=248 / 16) (c:=16) (by omega) (l:=[]) (i:=0) (Nat.zero_le _) (ins:=M) (fun y hy=>absurd hy (by simp)) (fun y hy=>absurd hy (by simp));omega
   | some l1=>
     obtain ⟨rfl,htab⟩:=hres
     repeat' (first|(refine stp ?_;simp only[go_sem])|(simp only[go_sem])|fail)
     refine zWX hQ (by omega) (Bg.below (t:=nx)) (by simp[EV.bel]) ⟨B',s',rfl,hS',hext,?_⟩;rw[hfg];exact ⟨rfl,TabW.of (PutOK.refl (l:=[]) trivial) htab (by simp)⟩
theorem rowsN_c (G:List Gl) (s:Gs) [Big t] [hS0:StL p B t] (hp:p.ok) (ho:s.over=false) (hs:GsOK p s) (hr:ovl s.put 64 8=zU 8) (x rp:Nat) (n0:Nat) (v2:EV) (tb:List TP) (hch:Chain p s 16 tb) (hnd:(tb.map (·.1)).Nodup) (htn:tb.length≤p.n)
  (hx:AtB B t x (.cells [.ptr (some ⟨0,0⟩),.int .u32 (zWQ tb),zVW rp n0,v2] 196 0 true 0)) (rw_:Nat) (evW:List EV) (W:List Cell) (hW:CellsV B t evW W) (hwat:AtB B t rw_ (.cells evW 56 1 true 0)) (hWc:tb.flatMap (·.2)=W) (hw0:0<W.length) :
  EffR G Tryz.prog 118 [.ptr (some ⟨x,0⟩),.slice (some ⟨rw_,0⟩) W.length W.length,.slice none 0 0] (gnd p s B) t (fun v bl nx=>∃ B' s',bl=gnd p s' B'∧StL p B' nx∧Ext B t B' nx∧∃ tb',v=.tuple [.int .u32 (zWQ tb'),.int .i64 0]∧TabW p s (tb.map (·.1)) [] s' tb'):=by
 have h1:=hp.big;have h2:=hp.fit;have hxt:=hx.lt;have hwt:=hwat.lt;have hX:=hx.f (p:=p);have hWA:=hwat.f (p:=p);have hWl:=hW.length;have hWn:W.length≤248*tb.length:=by rw[← hWc];exact zFB (Chain.fills hch)
 refine EffR.enter fun Q hQ=>?_
 refine zQV 166 [.tmp 6,.tmp 7] Tryz.func118 ?_;have e0:min (W.length:Int) 0=0:=by omega
 have e1:((W.length:Int) - 0).toNat=W.length:=by omega
 repeat' (first|refine zQQ 1393796761830930217162001527058526340390855 ?_|refine zQW ?_|(refine stp ?_;simp only[go_sem,e0])|(refine zWV (id:=2) mixed [(0,[]),(1,[]),(3,[]),(2,[]),(4,[]),(5,[]),(6,[]),(7,[]),(8,[]),(9,[]),(10,[]),(12,[]),(13,[]),(14,[]),(11,[]),(15,[]),(16,[]),(17,[])] (by kernel_rfl) ?_;simp only[go_sem,e0])|(refine zWV (id:=4) mixed [(0,[]),(1,[]),(3,[]),(4,[]),(2,[]),(6,[]),(5,[]),(7,[])] (by kernel_rfl) ?_;simp only[go_sem,hWA,Int.toNat_zero,Nat.sub_zero])|(refine zWV (id:=5) mixed [(0,[]),(1,[]),(3,[]),(2,[]),(4,[]),(5,[]),(6,[]),(7,[]),(8,[]),(9,[]),(12,[]),(16,[]),(17,[]),(20,[]),(10,[]),(11,[]),(13,[]),(14,[]),(15,[]),(18,[]),(19,[]),(21,[]),(22,[]),(23,[]),(24,[]),(25,[])] (by kernel_rfl) ?_;simp only[go_sem,e0])|(refine zWV (id:=7) mixed [(0,[]),(1,[]),(3,[]),(6,[]),(7,[]),(9,[]),(2,[]),(4,[]),(5,[]),(12,[]),(8,[]),(10,[]),(11,[]),(13,[])] (by kernel_rfl) ?_;simp only[go_sem,hWA,Int.toNat_zero,Nat.sub_zero,Int.sub_zero])|(refine zWV (id:=18) mixed [(0,[]),(1,[]),(2,[]),(4,[]),(5,[]),(6,[]),(8,[]),(9,[]),(10,[]),(11,[]),(13,[]),(3,[]),(7,[]),(12,[]),(14,[]),(15,[]),(16,[]),(17,[]),(18,[]),(19,[])] (by kernel_rfl) ?_;simp only[go_sem,hX,Int.sub_zero,Int.zero_add])|(simp only[go_sem])|(refine zZM 1393796761830930217162001527058526340390855 1 ?_;simp only[go_sem])|(simp (disch:=omega) only[zQK])|(refine spl (fun h=>?_) (fun h=>?_)<;>first|omega|try simp only[go_sem,h])|(refine zQT ?_ ?_;focus omega))
 obtain ⟨Tq,hTq⟩:∃ X,X=t+86:=⟨_,rfl⟩;have hup:=StL.up (p:=p) (B:=B) (T:=t) (T':=Tq) (by omega);haveI:=hup.1;haveI:Big Tq:=⟨hup.1.big⟩;have hdel:=yFF (p:=p) (t:=Tq) B G s hp ho hs hr 16 (by omega) (by omega) tb hch htn hnd 0 W.length hw0 (by rw[yBV,hWc];omega);rw[show ((0:Nat):Int)=0 from rfl] at hdel
 rw[← hTq];refine EffR.at hdel ?_
 rintro v bl nx ⟨B',s',rfl,hS',he',lt,rfl,htab⟩
 haveI:=hS';have h6:=he'.le;have hext:=hup.2.trans he'
 repeat' (first|(refine stp ?_;simp only[go_sem])|(simp only[go_sem])|fail)
 exact zWX hQ (by omega) (Bg.below (t:=nx)) (by simp[EV.bel]) ⟨B',s',rfl,hS',hext,lt,rfl,TabW.of (PutOK.refl hch) htab (by rw[hWc];simp)⟩
end
end Go.Proofs.YtncphnpndkjkaaaGreatDoor
