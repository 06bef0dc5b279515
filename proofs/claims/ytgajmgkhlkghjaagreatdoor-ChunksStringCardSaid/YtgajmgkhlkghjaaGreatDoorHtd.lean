/-
  Own work: a part of the proof that the last text closes.
-/
import Derived.Test.YtgajmgkhlkghjaaGreatDoorHta
import Derived.Test.YtgajmgkhlkghjaaGreatDoorHtc
import Derived.Test.YtgajmgkhlkghjaaGreatDoorFk
namespace Go.Proofs.YtgajmgkhlkghjaaGreatDoor
set_option linter.all false
set_option maxRecDepth 100000
set_option maxHeartbeats 16000000
section
open Go.E Go.RowKit Go.Maps
theorem own_set {ρ:Env} {s:ES} {w:World} (h:Rel ρ s w) {b:Nat} {L:E.Loc} {l:List Nat} (hg:s.get b=some (.map (tkE l))) (hL:ρ b=some L) (hnd:l.Nodup) (hlen:l.length≤4000) (hb:∀ x∈l,x≤1000000) :
  ∃ D0:DataW Unit,w.ownsMap Tryz.prog 3 (plainElem Tryz.prog 4) L.r l.length D0∧(intKeys D0).Perm (l.map fun (n:Nat)=>(n:Int))∧Maps.size D0=l.length:=by
 obtain ⟨es',clock,hheap,⟨hsz,hlt,hbn⟩,hat⟩:=h.live b _ L hg hL;have htl:(tkE l).length=l.length:=List.length_map ..;rw[htl] at hsz
 have hent:∀ (i:Nat) (x:MapEntry),es'.toList[i]? = some x→∃ n,l[i]? = some n∧x.key=.int .i64 (n:Int)∧x.val=.bool true:=by
  intro i x hx;have hi:i<l.length:=by
   have:=(List.getElem?_eq_some_iff.1 hx).1;simp only[Array.length_toList] at this
   omega
  have hk:(tkE l)[i]? = some (.int .i64 (l[i]:Int),.bool true):=by
   unfold tkE;rw[List.getElem?_map,List.getElem?_eq_getElem hi];rfl
  obtain ⟨e,he,hk1,hv1⟩:=hat i _ _ hk;rw[← Array.getElem?_toList] at he
  obtain rfl:e=x:=Option.some.inj (he.symm.trans hx);simp only[VR] at hk1 hv1
  exact ⟨l[i],List.getElem?_eq_getElem hi,hk1,hv1⟩
 have hlist:∀ {β:Type} (f:MapEntry→β) (g:Nat→β),(∀ x n,n∈l→x.key=.int .i64 (n:Int)→x.val=.bool true→f x=g n)→es'.toList.map f=l.map g:=by
  intro β f g hfg;refine List.ext_getElem? fun i=>?_
  rw[List.getElem?_map,List.getElem?_map]
  rcases hx:es'.toList[i]? with _ | x
  ·have:l[i]? = none:=by
    rw[List.getElem?_eq_none_iff] at hx ⊢
    simp only[Array.length_toList] at hx;omega
   rw[this];rfl
  ·obtain ⟨n,hn,hk,hv⟩:=hent i x hx;rw[hn];simp only[Option.map_some];rw[hfg x n (List.mem_of_getElem? hn) hk hv]
 have hint:Program.underlying Tryz.prog 3=some (.int .i64):=Tryz.underlying3;have hbool:Program.underlying Tryz.prog 4=some .bool:=Tryz.underlying4;have hread:∀ (x:MapEntry) (n:Nat),n∈l→x.key=.int .i64 (n:Int)→x.val=.bool true→WideElems.rd Tryz.prog 3 (plainElem (H:=Unit) Tryz.prog 4) x=some (.int .i64 (n:Int),.lit (.bool true)):=by
  intro x n hn hk hv;obtain ⟨key,val,born⟩:=x;simp only at hk hv
  subst hk hv;refine WideElems.rd_mk (keyOf_int_mk hint ?_) (plainElem_bool hbool true);have:=hb n hn;show (decide (IntKind.i64.min≤(n:Int)) && decide ((n:Int)≤IntKind.i64.max))=true;rw[show IntKind.i64.min = -9223372036854775808 by decide,show IntKind.i64.max=9223372036854775807 by decide,Bool.and_eq_true,decide_eq_true_eq,decide_eq_true_eq];omega
 have hrg:es'.toList.map (WideElems.rg Tryz.prog 3 (plainElem (H:=Unit) Tryz.prog 4))=l.map fun n:Nat=>(Lit.int .i64 (n:Int),DataW.lit (.bool true)):=
  hlist _ _ fun x n hn hk hv=>WideElems.rg_of (hread x n hn hk hv)
 have hmem:∀ x∈es'.toList,∃ y,WideElems.rd Tryz.prog 3 (plainElem (H:=Unit) Tryz.prog 4) x=some y:=fun x hx=>by
  obtain ⟨i,hi⟩:=List.mem_iff_getElem?.1 hx;obtain ⟨n,hn,hk,hv⟩:=hent i x hi;exact ⟨_,hread x n (List.mem_of_getElem? hn) hk hv⟩
 have hkeys:es'.toList.map (·.key)=l.map fun n:Nat=>Value.int .i64 (n:Int):=hlist _ _ fun _ _ _ hk _=>hk
 refine ⟨.map ((es'.toList.map (WideElems.rg Tryz.prog 3 (plainElem Tryz.prog 4))).foldr DataW.insert []),⟨es',clock,hheap,⟨?_,⟨hlt,hbn,?_⟩,hmem⟩,Nat.le_of_eq hsz,rfl⟩,?_,?_⟩
 ·unfold maxLen;omega
 ·rw[hkeys];refine List.pairwise_map.2 (hnd.imp fun hne e=>hne ?_);exact Int.ofNat.inj (Value.int.inj e).2
 ·rw[hrg];have:=((WideShapes.sorted_perm (l.map fun n:Nat=>(Lit.int .i64 (n:Int),(DataW.lit (.bool true):DataW Unit)))).map fun p=>Go.intOf p.1);rw[List.map_map] at this
  exact this
 ·show ((es'.toList.map _).foldr DataW.insert []).length=_;rw[length_sorted,List.length_map,Array.length_toList,hsz]
theorem rising_e {s:ES} {b:Nat} {l:List Nat} (hg:s.get b=some (.map (tkE l))) (hnd:l.Nodup) (hlen:l.length≤4000) (hb:∀ x∈l,x≤1000000) {Q:ER→ES→Prop}
  (hQ:∀ c,(∃ l':List Nat,l'.Perm l∧c=ixE l')→Q (.ret (accE s.nx c.length)) (if c=[] then s else s.new (.cells c 3 1 true 0))):ECalls Tryz.prog 52 [.map (some b)] s Q:=by
 refine ecalls_row (t:=3) (R:=fun c=>∃ l':List Nat,l'.Perm l∧c=ixE l') (enters_of Tryz.func52 (by kernel_rfl) rfl) (fun ρ w args' hR hA=>?_) hQ;obtain ⟨v',l',ha,hv,hl'⟩:=hA;rw[VRs] at hl'
 rw[VR] at hv
 obtain ⟨L,hL,rfl⟩:=hv;subst hl';obtain rfl:args' = #[.map (some L.r)]:=Array.toList_inj.1 ha;obtain ⟨D0,hown,hperm,hsize⟩:=own_set hR hg hL hnd hlen hb;refine (rising_calls L.r l.length D0 _ w hown (by rw[hsize];unfold maxLen;omega) (by rw[hsize];omega)).mono ?_
 rintro e w' ⟨v,ss,rfl,hp,hrow,hnil,hB⟩
 have hp2:(ss.mergeSort (fun x y=>decide (x≤y))).Perm (l.map fun (n:Nat)=>(n:Int)):=(List.mergeSort_perm _ _).trans (hp.trans hperm);have hnn:∀ x∈ss.mergeSort (fun x y=>decide (x≤y)),((x.toNat:Nat):Int)=x:=fun x hx=>by
  obtain ⟨n,-,rfl⟩:=List.mem_map.1 (hp2.mem_iff.1 hx);rfl
 have hlen2:(ss.mergeSort (fun x y=>decide (x≤y))).length=ss.length:=(List.mergeSort_perm _ _).length_eq;generalize ss.mergeSort (fun x y=>decide (x≤y))=m at *
 have hm:m=(m.map Int.toNat).map fun (n:Nat)=>(n:Int):=by
  rw[List.map_map]
  conv=>lhs;rw[← List.map_id m]
  exact List.map_congr_left fun x hx=>(hnn x hx).symm
 have hcl:(ixE (m.map Int.toNat)).length=ss.length:=by unfold ixE;rw[List.length_map,List.length_map,hlen2]
 refine ⟨v,ixE (m.map Int.toNat),m.map encZ,rfl,⟨m.map Int.toNat,?_,rfl⟩,fun ρ=>?_,by rw[hcl];exact hrow,hnil.trans ?_,hB⟩
 ·have:=hp2.map Int.toNat
  rw[List.map_map] at this
  refine this.trans (List.Perm.of_eq ?_)
  conv=>rhs;rw[← List.map_id l]
  rfl
 ·have:∀ k:List Int,(∀ x∈k,((x.toNat:Nat):Int)=x)→VRs ρ (ixE (k.map Int.toNat)) (k.map encZ):=by
   intro k hk
   induction k with
   | nil=>exact rfl
   | cons a k ih=>
     refine ⟨_,_,rfl,?_,ih fun x hx=>hk x (.tail _ hx)⟩;rw[VR,hk a (.head _)]
  exact this m hnn
 ·rw[← List.length_eq_zero_iff,← List.length_eq_zero_iff,hcl]
section
variable {p:Gp} (B:List (Nat × EO)) {t:Nat}
theorem rising_c (G:List Gl) (s:Gs) [Big t] [hS:StL p B t] {k:Nat} {l:List Nat} (hk:lkp (gnd p s B) k=some (.map (tkE l))) (hk11:k<11) (hnd:l.Nodup) (hlen:l.length≤4000) (hb:∀ x∈l,x≤1000000) :
  EffR G Tryz.prog 52 [.map (some k)] (gnd p s B) t (fun v bl nx=>∃ B' l',bl=gnd p s B'∧StL p B' nx∧Ext B t B' nx∧List.Perm l' l∧RowA B' nx v l'.length (ixE l') 3 1):=by
 have ht:=hS.big;refine rising_e (s:=⟨gnd p s B,t,G⟩) (b:=k) (by unfold ES.get;rw[if_pos (by simp only[];omega)];exact hk) hnd hlen hb ?_
 rintro c ⟨l',hp,rfl⟩
 have hil:(ixE l').length=l'.length:=List.length_map ..;have hall:zQX (t+1) (ixE l'):=allBelow_of fun v hv=>by
  simp only[ixE,List.mem_map] at hv
  obtain ⟨_,_,rfl⟩:=hv;trivial
 have key:∀ (v:EV) (bl:List (Nat × EO)) (nx:Nat),t≤nx→blBelow nx bl→v.bel nx→(∃ B' l',bl=gnd p s B'∧StL p B' nx∧Ext B t B' nx∧List.Perm l' l∧RowA B' nx v l'.length (ixE l') 3 1) →
   Cmp ⟨gnd p s B,t,G⟩ (fun x s2=>∃ v,x=.ret v∧s2.gl=G∧∃ B' l',s2.bl=gnd p s B'∧StL p B' s2.nx∧Ext B t B' s2.nx∧List.Perm l' l∧RowA B' s2.nx v l'.length (ixE l') 3 1) (.ret v) ⟨bl,nx,G⟩:=by
  intro v bl nx htn hbb hv hq;refine ⟨fun i=>i,.ret v,⟨bl,nx,G⟩,⟨fun _ _=>rfl,fun _ _ _ _ h=>h,htn,rfl,?_,hv,hbb,fun i o hg=>?_⟩,v,rfl,rfl,hq⟩
  ·show ER.ret v=ER.ret (v.ren fun i=>i);rw[EV.ren_idF (k:=nx) (fun _ _=>rfl) v hv]
  ·rw[EO.ren_idF (k:=nx) (fun _ _=>rfl) o (blBelow_lkp hbb (ES.get_lt hg).2).2];exact hg
 by_cases hc:ixE l'=[]
 ·rw[if_pos hc];have hl0:l'.length=0:=by rw[← hil,hc];rfl
  refine key _ _ _ (Nat.le_refl _) (Bg.below (t:=t)) (by rw[hc];simp[EV.bel]) ⟨B,l',rfl,hS,Ext.refl _ _,hp,⟨0,by rw[hil,hl0,accE_zero,accE_zero],by rw[hil];omega,by omega,fun h=>absurd hl0 h⟩⟩
 ·rw[if_neg hc];obtain ⟨h1,h2,h3⟩:=acc_above (p:=p) (B':=B) (T:=t) (ty:=3) (k:=1) (n:=l'.length) (c:=ixE l') hall (by rw[hil];omega) (by omega);have hpos:0<(ixE l').length:=List.length_pos_iff.2 hc;rw[accB_pos hpos] at h1 h2 h3
  haveI:=h1;haveI:Big (t+1):=⟨h1.big⟩;have hbl:(⟨gnd p s B,t,G⟩:ES).new (.cells (ixE l') 3 1 true 0)=⟨gnd p s ([(t,.cells (ixE l') 3 1 true 0)]++B),t+1,G⟩:=by
   show (⟨(t,_)::stB (objs p s) B,t+1,G⟩:ES)=⟨stB (objs p s) ((t,_)::B),t+1,G⟩;rw[stB_big0]
  rw[hbl];refine key _ _ _ (Nat.le_succ _) (Bg.below (t:=t+1)) ?_ ⟨_,l',rfl,h1,h2,hp,?_⟩
  ·simp only[];rw[zWZ hpos];simp[EV.bel]
  ·simp only[];rw[hil];exact h3
theorem taken_c (G:List Gl) (s:Gs) [Big t] [hS:StL p B t] (ho:s.over=false) (hnd:s.taken.Nodup) (hlen:s.taken.length≤4000) (hb:∀ x∈s.taken,x≤1000000) :
  EffR G Tryz.prog 28 [.ptr (some ⟨0,0⟩)] (gnd p s B) t (fun v bl nx=>∃ B' l,bl=gnd p s B'∧StL p B' nx∧Ext B t B' nx∧List.Perm l s.taken∧RowA B' nx v l.length (ixE l) 3 1):=by
 have hr:=rising_c (p:=p) B G s (k:=9) (l:=s.taken) (StL.lk (by omega)) (by omega) hnd hlen hb;refine EffR.enter fun Q hQ=>?_
 refine zQV 17 [.tmp 2] Tryz.func28 ?_
 repeat' (first|refine zQQ 2053 ?_|(refine stp ?_;simp only[go_sem,ho])|(refine EffW.at (there_w (p:=p) B G s ) [] rfl (by (simp;done)) ?_;(try simp only[go_sem,ho]))|(refine EffR.at hr ?_)|(simp only[go_sem])|fail)
 rintro v bl nx ⟨B',l,rfl,hS',he,hp,hrow⟩
 haveI:=hS';haveI:Big nx:=⟨hS'.big⟩;have h3:=he.le;obtain ⟨r,rfl,h4,h5,h6⟩:=hrow
 repeat' (first|(refine stp ?_;simp only[go_sem])|fail)
 exact zWJ hQ (by omega) (Bg.below (t:=nx)) (by simp[h5]) ⟨B',l,rfl,hS',he,hp,r,rfl,h4,h5,h6⟩
theorem given_c (G:List Gl) (s:Gs) [Big t] [hS:StL p B t] (ho:s.over=false) :
  EffR G Tryz.prog 29 [.ptr (some ⟨0,0⟩)] (gnd p s B) t (fun v bl nx=>∃ B',bl=gnd p s B'∧StL p B' nx∧Ext B t B' nx∧RowA B' nx v 0 [] 3 1):=by
 have hr:=rising_c (p:=p) B G s (k:=10) (l:=[]) (StL.lk (by omega)) (by omega) List.nodup_nil (by simp) (by simp);refine EffR.enter fun Q hQ=>?_
 refine zQV 17 [.tmp 2] Tryz.func29 ?_
 repeat' (first|refine zQQ 2053 ?_|(refine stp ?_;simp only[go_sem,ho])|(refine EffW.at (there_w (p:=p) B G s ) [] rfl (by (simp;done)) ?_;(try simp only[go_sem,ho]))|(refine EffR.at hr ?_)|(simp only[go_sem])|fail)
 rintro v bl nx ⟨B',l,rfl,hS',he,hp,hrow⟩
 obtain rfl:=hp.eq_nil;haveI:=hS';haveI:Big nx:=⟨hS'.big⟩;have h3:=he.le;obtain ⟨r,rfl,h4,h5,h6⟩:=hrow
 repeat' (first|(refine stp ?_;simp only[go_sem])|fail)
 exact zWJ hQ (by omega) (Bg.below (t:=nx)) (by simp[EV.bel]) ⟨B',rfl,hS',he,r,rfl,rfl,h5,h6⟩
end
end
section
open Go.E
section
variable {p:Gp} (B:List (Nat × EO)) {t:Nat}
theorem szE_get {ps:List Ck} {i:Nat} {y:Ck} (h:ps[i]? = some y):(szE ps)[i]? = some (.int .i64 y.T.length):=by
 unfold szE;rw[List.getElem?_map,h];rfl
theorem ixE_get {l:List Nat} {i b:Nat} (h:l[i]? = some b):(ixE l)[i]? = some (.int .i64 b):=by
 unfold ixE;rw[List.getElem?_map,h];rfl
theorem cnt_one {b:Nat}:∀ {l:List Nat},l.Nodup→b∈l→l.count b=1
 | a::l,hd,hm=>by
   rw[List.nodup_cons] at hd
   rw[List.count_cons]
   by_cases h:a=b
   ·subst h;rw[List.count_eq_zero.2 hd.1];simp
   ·rw[cnt_one hd.2 (by rcases List.mem_cons.1 hm with e | e;exact absurd e.symm h;exact e)];simp[h]
theorem cnt_take {l:List Nat} {k a:Nat} (h:l[k]? = some a) (b:Nat):(l.take (k+1)).count b=(l.take k).count b+if a=b then 1 else 0:=by
 rw[List.take_succ,h,List.count_append];simp[List.count_singleton]
theorem good_c (G:List Gl) (s:Gs) [Big t] [hS0:StL p B t] (hp:p.ok) (hn:60≤p.n) (ps:List Ck) (tb:List TP) (h1:OneOK p s ps tb) :
  EffW G Tryz.prog 26 [.ptr (some ⟨0,0⟩),.int .u32 (refOf tb),.int .i64 (totC ps)] t [] (gnd p s B) 0 (.bool true) [] (gnd p s B) 0:=by
 have hat0:=hp.at0;have hbig:=hp.big;have hx:=h1.tx;have hln:=hx.len;have hlen4:=h1.len;have hfit:=noFitC_len ps hx.fit;refine EffR.drop B ?_ (by simp[EV.bel]);refine EffR.enter fun Q hQ=>?_
 refine zQV 136 [.tmp 6] Tryz.func26 ?_
 repeat' (first|refine zQQ 46279753196505103405535518480822163341255 ?_|(refine stp ?_;simp only[go_sem])|(refine EffR.at (csizes_c B G s hp h1.over h1.low ps tb hx) ?_)|(simp only[go_sem])|fail)
 rintro v bl nx ⟨B1,v1,rfl,rfl,hS1,he1,r1,rfl,hl1,hr1,hat1⟩
 haveI:=hS1;haveI:Big nx:=⟨hS1.big⟩;have h3:=he1.le
 repeat' (first|refine zQQ 46279753196505103405535518480822163341255 ?_|(refine stp ?_;simp only[go_sem])|(refine EffR.at (cblocks_c B1 G s hp h1.over h1.low ps tb hx) ?_)|(simp only[go_sem])|fail)
 rintro v bl nx2 ⟨B2,v2,rfl,rfl,hS2,he2,r2,rfl,hl2,hr2,hat2⟩
 haveI:=hS2;haveI:Big nx2:=⟨hS2.big⟩;have h4:=he2.le;have hpos:ps=[]∧tb=[]∧refOf tb=0∧totC ps=0∨0<ps.length∧0<tb.length∧refOf tb ≠ 0∧0<totC ps:=by
  rcases tb with _ | ⟨⟨b,cs⟩,l⟩
  ·have hc:=hx.cells;rw[List.flatMap_nil] at hc
   obtain rfl:ps=[]:=List.map_eq_nil_iff.1 hc.symm;exact .inl ⟨rfl,rfl,rfl,rfl⟩
  ·right
   have hc:=congrArg List.length hx.cells;have hp1:=hx.chain.1.pos;simp only[List.flatMap_cons,List.length_append,List.length_map] at hc
   have hpl:0<ps.length:=by omega
   refine ⟨hpl,by simp,by simp[refOf],?_⟩;obtain ⟨y,l',rfl⟩:∃ y l',ps=y::l':=by cases ps with | nil=>simp at hpl | cons y l'=>exact ⟨y,l',rfl⟩
   have:=(hx.part y (.head _)).pos;simp only[totC,List.map_cons,List.sum_cons];omega
 have hq:((2*totC ps:Nat):Int).tdiv 253=((2*totC ps / 253:Nat):Int):=rfl;have hsz:ps.length≤2*totC ps / 253+1:=by omega
 have hdc:decide ((refOf tb:Int)=0)=decide ((totC ps:Int)=0):=by
  rcases hpos with ⟨rfl,rfl,-,-⟩ | ⟨-,-,h1,h2⟩
  ·rfl
  ·rw[decide_eq_false (by omega),decide_eq_false (by omega)]
 repeat' (first|refine zQQ 46279753196505103405535518480822163341255 ?_|refine zQW ?_|(refine stp ?_;simp only[go_sem])|(simp (disch:=omega) only[zQK,tdivE])|(refine spl (fun h=>?_) (fun h=>?_)<;>first|omega|((try simp only[opRun]);(try simp only[go_sem,hdc,h])))|fail)
 refine zWV (fun i:Nat=>[(0,.ptr (some ⟨0,0⟩)),(2,.int .i64 (totC ps)),(7,accE r1 ps.length),(9,accE r2 (ps.length+tb.length)),(11,.int .i64 (totC (ps.take i))),(12,.int .i64 i)]) (fun i:Nat=>stB (objs p s) B2) (fun i:Nat=>nx2) (fun i:Nat=>i≤ps.length) (fun i:Nat=>ps.length - i) (0) ?_ ?_ ?_ ?_ ?_
 ·intro i hi;refine ⟨by simp[frBel,EV.bel,show r1<nx2 by omega,hr2],Bg.below (t:=nx2),by show t≤nx2;omega⟩
 ·exact Nat.zero_le _
 ·simp only[go_sem,zWQ];simp[totC]
 ·show lessL _ (stB (objs p s) B2);simp only[go_sem]
 ·intro i hi;simp only at hi ⊢
  rcases Nat.lt_or_ge i ps.length with hil | hil
  ·have hA:=((hat1 (by omega)).mono he2).f (p:=p);obtain ⟨y,hy⟩:∃ y,ps[i]? = some y:=⟨ps[i],List.getElem?_eq_getElem _⟩;have hg:=szE_get hy;have hae:=zWZ (b:=r1) (n:=ps.length) (by omega);have hsl:(szE ps).length=ps.length:=by unfold szE;rw[List.length_map]
   have hpy:=hx.part y (List.mem_of_getElem? hy);have hyl:=hpy.fill;have hyp:=hpy.pos;have hst:=totC_take_succ hy;have hle:=totC_take_le ps (i+1);have hr12:r1<nx2:=by omega
   rw[hae]
   rcases i with _ | j
   ·rw[show ((0:Nat):Int)=0 from rfl];have hz0:totC []=0:=rfl;rw[List.take_zero,hz0,Nat.zero_add] at hst
    rw[List.take_zero,hz0];rw[Nat.zero_add] at hst
    have hle1:totC (ps.take 1)≤totC ps:=hle;have hw:IntKind.i64.wrap ((0:Int)+(y.T.length:Int))=(y.T.length:Int):=zQK (by omega) (by omega) |>.trans (by omega);have hw2:IntKind.i64.wrap (((0:Nat):Int)+(y.T.length:Int))=(y.T.length:Int):=hw
    repeat' (first|refine zQQ 46279753196505103405535518480822163341255 ?_|refine zQW ?_|(refine stp ?_;simp only[go_sem,hA,hg,hw])|(refine drawQ (id:=9) mixed [(0,[]),(1,[]),(2,[]),(3,[]),(4,[]),(5,[]),(6,[]),(7,[]),(8,[]),(9,[]),(10,[]),(11,[]),(12,[]),(13,[]),(14,[]),(15,[]),(16,[]),(17,[]),(18,[]),(19,[]),(21,[]),(22,[]),(23,[]),(20,[]),(24,[]),(25,[]),(26,[]),(27,[]),(28,[])] (by kernel_rfl) ?_;simp only[go_sem,hA,hg])|(refine spl (fun h=>?_) (fun h=>?_)<;>first|omega|((try simp only[stepRun]);(try simp only[go_sem,hA,hg,h])))|(refine zQP ?_ ?_;focus omega))
    (refine ⟨1,nx2,[],?_,?_,rfl,rfl,?_,⟨?_,rfl,?_,?_,?_,?_,?_⟩⟩;rotate_left;(focus (simp only[];omega));(focus (simp only[go_sem,zWQ,hst,hr12,hr2]));(focus (omega));(focus simp);(focus (simp));(focus (simp only[];omega));(focus (simp));(focus (simp));(try simp only[]))
    exact hil
   ·obtain ⟨y0,hy0⟩:∃ y,ps[j]? = some y:=⟨ps[j],List.getElem?_eq_getElem _⟩;have hg0:=szE_get hy0;have hft:=hx.fit.get hy0 hy;have ej:((j+1:Nat):Int) - 1=(j:Int):=by omega
    have hwr:=Nat.le_trans hle hlen4;have hp0:=(hx.part y0 (List.mem_of_getElem? hy0)).fill;have hw0:IntKind.i64.wrap ((y0.T.length:Int)+(y.T.length:Int))=((y0.T.length+y.T.length:Nat):Int):=zQK (by omega) (by omega) |>.trans (by omega);have hw1:IntKind.i64.wrap ((totC (ps.take (j+1)):Int)+(y.T.length:Int))=((totC (ps.take (j+1))+y.T.length:Nat):Int):=zQK (by omega) (by omega) |>.trans (by omega);have hno:¬ ((y0.T.length+y.T.length:Nat):Int)≤252:=by omega
    repeat' (first|refine zQQ 46279753196505103405535518480822163341255 ?_|refine zQW ?_|(refine stp ?_;simp only[go_sem,hA,hg,hw1])|(refine drawQ (id:=9) mixed [(0,[]),(1,[]),(2,[]),(3,[]),(4,[]),(5,[]),(6,[]),(7,[]),(8,[]),(9,[]),(10,[]),(11,[]),(12,[]),(13,[]),(14,[]),(15,[]),(16,[]),(17,[]),(18,[]),(19,[]),(21,[]),(22,[]),(23,[]),(20,[]),(24,[]),(25,[]),(26,[]),(27,[]),(28,[])] (by kernel_rfl) ?_;simp only[go_sem,hA,hg])|(simp only[go_sem,hg0,hw0,hno])|(simp (disch:=omega) only[zQK])|(refine spl (fun h=>?_) (fun h=>?_)<;>first|omega|((try simp only[stepRun]);(try simp only[go_sem,hA,hg,ej,h])))|(refine zQP ?_ ?_;focus omega))
    (refine ⟨j+1+1,nx2,[],?_,?_,rfl,rfl,?_,⟨?_,rfl,?_,?_,?_,?_,?_⟩⟩;rotate_left;(focus (simp only[];omega));(focus ((try simp only[go_sem,zWQ,hst,hr12,hr2]);((repeat' apply And.intro)<;>(rfl))));(focus (omega));(focus simp);(focus (simp));(focus (simp only[];omega));(focus (simp));(focus (simp));(try simp only[]))
    exact hil
  ·obtain rfl:i=ps.length:=by omega
   rw[List.take_length];have htk:=taken_c (p:=p) B2 G s h1.over h1.ok.nd (by have:=h1.few;omega) (fun x hx=>by have:=h1.ok.lt x hx;have:=hp.fit;have:=hp.big;omega)
   repeat' (first|refine zQQ 46279753196505103405535518480822163341255 ?_|(refine stp ?_;simp only[go_sem])|(refine EffR.at htk ?_)|(simp only[go_sem])|(refine spl (fun h=>?_) (fun h=>?_)<;>first|omega|try simp only[go_sem,h])|fail)
   rintro v bl nx3 ⟨B3,l,rfl,hS3,he3,hpm,r3,rfl,hl3,hr3,hat3⟩
   haveI:=hS3;haveI:Big nx3:=⟨hS3.big⟩;have h5:=he3.le;have hll:l.length=ps.length+tb.length:=by
    rw[hpm.length_eq];have k1:=nodup_sub_len h1.ok.nd h1.own;have k2:=nodup_sub_len hx.nd hx.all_use;rw[List.length_append,List.length_map,show (blkC ps).length=ps.length by simp[blkC]] at k1 k2
    omega
   repeat' (first|refine zQQ 46279753196505103405535518480822163341255 ?_|refine zQW ?_|(refine stp ?_;simp only[go_sem,hll])|(refine spl (fun h=>?_) (fun h=>?_)<;>first|omega|try simp only[go_sem,h])|fail)
   obtain ⟨L,hL⟩:∃ L,blkC ps++tb.map (·.1)=L:=⟨_,rfl⟩;rw[hL] at hl2 hat2
   have hLn:L.length=ps.length+tb.length:=by rw[← hL,List.length_append,List.length_map,show (blkC ps).length=ps.length by simp[blkC]]
   have hL4:L.length≤4000:=by
    have k3:=chain_len tb hx.chain
    rw[hx.cells,List.length_map] at k3
    omega
   have hLd:L.Nodup:=hL ▸ (List.perm_append_comm.nodup_iff.1 hx.nd);have hLm:∀ x∈l,x∈L:=fun x hxl=>by
    have:=h1.own x (hpm.mem_iff.1 hxl);rw[← hL,List.mem_append];rw[List.mem_append] at this
    exact this.symm
   have hil2:(ixE L).length=L.length:=List.length_map ..;have hil3:(ixE l).length=l.length:=List.length_map ..;rw[← hLn] at hat2 hll ⊢
   refine zWV (fun i:Nat=>[(9,accE r2 L.length),(13,accE r3 L.length),(14,.int .i64 i)]) (fun i:Nat=>stB (objs p s) B3) (fun i:Nat=>nx3) (fun i:Nat=>i≤L.length) (fun i:Nat=>L.length - i) (0) ?_ ?_ ?_ ?_ ?_
   ·intro i hi;refine ⟨by simp[frBel,EV.bel,hr3,show r2<nx3 by omega],Bg.below (t:=nx3),by show t≤nx3;omega⟩
   ·exact Nat.zero_le _
   ·simp only[go_sem,zWQ]
   ·show lessL _ (stB (objs p s) B3);simp only[go_sem]
   ·intro i hi;simp only at hi ⊢
    rcases Nat.lt_or_ge i L.length with hil | hil
    ·have hA3:=(hat3 (by omega)).f (p:=p);have hA2:=((hat2 (by omega)).mono he3).f (p:=p);obtain ⟨x,hxi⟩:∃ x,l[i]? = some x:=⟨l[i],List.getElem?_eq_getElem _⟩;have hgx:=ixE_get hxi;have hcnt:=cnt_one hLd (hLm x (List.mem_of_getElem? hxi));have hae3:=zWZ (b:=r3) (n:=L.length) (by omega);have hae2:=zWZ (b:=r2) (n:=L.length) (by omega);have hr23:r2<nx3:=by omega
     repeat' (first|refine zQQ 46279753196505103405535518480822163341255 ?_|refine zQW ?_|(refine stp ?_;simp only[go_sem])|(refine spl (fun h=>?_) (fun h=>?_)<;>first|omega|try simp only[go_sem,h])|fail)
     refine zWV (fun k:Nat=>[(9,accE r2 L.length),(13,accE r3 L.length),(14,.int .i64 i),(15,.int .i64 ((L.take k).count x)),(16,.int .i64 k)]) (fun k:Nat=>stB (objs p s) B3) (fun k:Nat=>nx3) (fun k:Nat=>k≤L.length) (fun k:Nat=>L.length - k) (0) ?_ ?_ ?_ ?_ ?_
     ·intro k hk;refine ⟨by simp[frBel,EV.bel,hr3,hr23],Bg.below (t:=nx3),by show t≤nx3;omega⟩
     ·exact Nat.zero_le _
     ·simp only[go_sem,zWQ];simp
     ·show lessL _ (stB (objs p s) B3);simp only[go_sem]
     ·intro k hk;simp only at hk ⊢
      rcases Nat.lt_or_ge k L.length with hkl | hkl
      ·obtain ⟨b,hbk⟩:∃ b,L[k]? = some b:=⟨L[k],List.getElem?_eq_getElem _⟩;have hgb:=ixE_get hbk;have hct:=cnt_take hbk x;have hcl:(L.take k).count x≤L.length:=Nat.le_trans List.count_le_length (by rw[List.length_take];omega);rw[hae2,hae3]
       rcases Nat.decEq b x with hne | rfl
       ·rw[if_neg hne] at hct
        have hnb:((b:Int)=(x:Int))=False:=by simp;omega
        repeat' (first|refine zQQ 46279753196505103405535518480822163341255 ?_|refine zQW ?_|(refine stp ?_;simp only[go_sem])|(refine drawQ (id:=22) mixed [(0,[]),(1,[]),(2,[]),(4,[]),(5,[]),(6,[]),(3,[]),(7,[]),(8,[])] (by kernel_rfl) ?_;simp only[go_sem,hA2,hA3,hgx,hgb,hnb])|(simp (disch:=omega) only[zQK])|(refine spl (fun h=>?_) (fun h=>?_)<;>first|omega|try simp only[go_sem,h])|(refine zQP ?_ ?_;focus omega))
        (refine ⟨k+1,nx3,[],?_,?_,rfl,rfl,?_,⟨?_,rfl,?_,?_,?_,?_,?_⟩⟩;rotate_left;(focus (simp only[];omega));(focus (simp[go_sem,zWQ,hr3,hr23,hct,Nat.add_zero]));(focus (omega));(focus simp);(focus (simp));(focus (simp only[];omega));(focus (simp));(focus (simp));(try simp only[]))
        exact hkl
       ·rw[if_pos rfl] at hct
        repeat' (first|refine zQQ 46279753196505103405535518480822163341255 ?_|refine zQW ?_|(refine stp ?_;simp only[go_sem])|(refine drawQ (id:=22) mixed [(0,[]),(1,[]),(2,[]),(4,[]),(5,[]),(6,[]),(3,[]),(7,[]),(8,[])] (by kernel_rfl) ?_;simp only[go_sem,hA2,hA3,hgx,hgb])|(simp (disch:=omega) only[zQK])|(refine spl (fun h=>?_) (fun h=>?_)<;>first|omega|try simp only[go_sem,h])|(refine zQP ?_ ?_;focus omega))
        (refine ⟨k+1,nx3,[],?_,?_,rfl,rfl,?_,⟨?_,rfl,?_,?_,?_,?_,?_⟩⟩;rotate_left;(focus (simp only[];omega));(focus (simp[go_sem,zWQ,hr3,hr23,hct]));(focus (omega));(focus simp);(focus (simp));(focus (simp only[];omega));(focus (simp));(focus (simp));(try simp only[]))
        exact hkl
      ·obtain rfl:k=L.length:=by omega
       rw[List.take_length,hcnt]
       repeat' (first|refine zQQ 46279753196505103405535518480822163341255 ?_|(refine stp ?_;simp only[go_sem])|(simp (disch:=omega) only[zQK])|(refine spl (fun h=>?_) (fun h=>?_)<;>first|omega|try simp only[go_sem,h])|fail)
       (refine ⟨i+1,nx3,[],?_,?_,rfl,rfl,?_,⟨?_,rfl,?_,?_,?_,?_,?_⟩⟩;rotate_left;(focus (simp only[];omega));(focus (simp[go_sem,zWQ,hae2,hae3,hr3,hr23]));(focus (omega));(focus simp);(focus (simp));(focus (simp only[];omega));(focus (simp));(focus (simp));(try simp only[]))
       exact hil
    ·obtain rfl:i=L.length:=by omega
     repeat' (first|refine zQQ 46279753196505103405535518480822163341255 ?_|(refine stp ?_;simp only[go_sem])|(refine spl (fun h=>?_) (fun h=>?_)<;>first|omega|try simp only[go_sem,h])|fail)
     exact zWJ hQ (by omega) (Bg.below (t:=nx3)) (by simp[EV.bel]) ⟨rfl,B3,rfl,hS3,he1.trans (he2.trans he3)⟩
end
end
section
open Go.E
theorem tallyEq (s:List UInt8):EqS Tryz.prog .neq 44 (tallyE s) (tallyE s) false:=by
 have:=(eqS_struct (xs:=tallyC s) (ys:=tallyC s) flat44 und44 ⟨rfl,rfl,rfl,trivial⟩).2
 simpa only[tallyE,tallyC,eqE,eqE.eqL,decide_true,Bool.and_true,Bool.true_and,Bool.not_true] using this
theorem string_law (G:List Gl) (hG:Tabs G) (eds:List Ed) (h1:∀ e∈eds,e.ok) (A:List EO) (hA:∀ o∈A,o.bel 0) (hA0:∀ o∈A,tyE o=0) (v1:EV) (hv1:SlV A v1 eds)
  (B0:List (Nat × EO)) (hB0:Bg A.length B0) (hBA:∀ j o,A[j]? = some o→lkp B0 j=some o) :
  ECalls Tryz.prog 6 [v1] ⟨B0,A.length,G⟩ fun x s2=>x=.ret (.bool true)∧s2=⟨[],A.length,G⟩:=by
 have aw:=awake_c G hG;refine ecalls_flat 99 [.tmp 2] Tryz.func6 rfl rfl rfl (by kernel_rfl) (le_ble rfl) trivial ?_;obtain ⟨nb,hnb⟩:∃ nb:Nat,nb=60:=⟨60,rfl⟩;have e60:(60:Int)=(nb:Int):=by omega
 repeat' (first|refine zQQ 328827822944186335313813493 ?_|(refine stp ?_;simp only[go_sem,e60])|(refine Pure.at (aw) (by simp) (by simp) rfl ?_;(try simp only[go_sem]))|(refine EffR.at (plain_c B0 G nb (by omega) (by omega)) ?_)|(simp only[go_sem])|fail)
 rintro v B1 nx ⟨d,a,lns,lg,pl,hp,lv,pu,rfl,hB1,hK,hw,hta,hln⟩
 haveI:=hB1;obtain ⟨w1,rfl,hs1⟩:=hv1.up (nb:=nb) (d:=d) (a:=a) (lg:=lg) (pl:=pl) (hp:=hp) (lv:=lv) (pu:=pu) hw.dev.len;have hat:∀ j o,A[j]? = some o→AtG B1 nx j o:=fun j o h=>hK.keep ⟨(List.getElem?_eq_some_iff.1 h).1,hBA j o h⟩ (by rw[hA0 o (List.mem_of_getElem? h)];decide)
 have f1:=hs1.f;have hS:StL (pZ nb) (bcL (258+4*nb) A) (11+(258+4*nb)+A.length):=bcL_StL hA
 repeat' (first|(refine esem_holdR 6 ?_)|refine zQQ 328827822944186335313813493 ?_|(refine stp ?_;simp only[go_sem])|fail)
 refine ⟨?_⟩;refine esem_ground A hA hw hB1 hat hta hln [(0,w1),(4,.ptr (some ⟨0,0⟩)),(5,.bool true)] ?_ ?_ ?_
 ·simp only[go_sem,zWQ,renF,EV.ren,and_true,true_and];rfl
 ·simp[frBel,EV.bel,f1]
  try omega
 have hpk:=pZ_ok (nb:=nb) (by omega);clear hat hw hK hv1 hta hln hBA aw;generalize 11+(258+4*nb)+A.length=T at hS hs1 f1 ⊢
 generalize bcL (258+4*nb) A=B at hS hs1 ⊢
 haveI:=hS;haveI:Big T:=⟨hS.big⟩;have hbg:=hS.big
 repeat' (first|refine zQQ 328827822944186335313813493 ?_|refine zQW ?_|(refine stp ?_;simp only[go_sem])|fail)
 refine zWV (fun z:Nat × Gs × List Ck × List TP=>[(0,w1),(4,.ptr (some ⟨0,0⟩)),(6,.int .u32 (refOf z.2.2.2)),(7,.str (flatC z.2.2.1)),(8,.int .i64 z.1)]) (fun z:Nat × Gs × List Ck × List TP=>stB (objs (pZ nb) z.2.1) B) (fun z:Nat × Gs × List Ck × List TP=>T) (fun z:Nat × Gs × List Ck × List TP=>z.1≤30∧OneOK (pZ nb) z.2.1 z.2.2.1 z.2.2.2) (fun z:Nat × Gs × List Ck × List TP=>30 - z.1) ((0,sZ,[],[])) ?_ ?_ ?_ ?_ ?_
 ·intro z hz;exact ⟨by simp[frBel,EV.bel,f1],(show blBelow T (stB _ B) from Bg.below (t:=T)),Nat.zero_le _⟩
 ·exact ⟨by decide,TxOK.nil _,⟨List.nodup_nil,by simp[sZ],by simp[sZ],by simp[sZ]⟩,rfl,rfl,by simp[sZ],by simp[totC]⟩
 ·simp only[go_sem,zWQ];exact ⟨rfl,rfl⟩
 ·show lessL _ (stB (objs (pZ nb) sZ) B);simp only[go_sem]
 ·rintro ⟨i,s,ps,tb⟩ ⟨hi,hone⟩
  simp only at hi hone ⊢
  have hlen:=hone.len;have hL:=flatC_length ps
  by_cases hgo:i<eds.length∧i<30
  ·rcases hs1 with ⟨rfl,hnil⟩ | ⟨b,ty,rfl,hat⟩
   ·exfalso;rw[hnil] at hgo;simp at hgo
   ·obtain ⟨e,he⟩:∃ e,eds[i]? = some e:=⟨eds[i]'(by omega),List.getElem?_eq_getElem _⟩;have hX:=hat.f (p:=pZ nb);have hbt:=hat.lt;obtain ⟨ht3,htl⟩:=edsE_take3 he;have htl2:(i*3+3≤(edsE eds).length)=True:=eq_true htl;have hed:=edited_c B G s hpk (by show 60≤nb;omega) ps tb hone e (h1 e (List.mem_of_getElem? he));simp only[edE] at hed
    repeat' (first|refine zQQ 328827822944186335313813493 ?_|refine zQW ?_|(refine stp ?_;simp only[go_sem,hX,ht3,htl2,edE])|(refine EffR.at hed ?_)|(simp only[go_sem])|(refine spl (fun h=>?_) (fun h=>?_)<;>first|omega|((try simp only[opRun]);(try simp only[go_sem,h])))|(refine zQP ?_ ?_;focus omega))
    rintro v bl nx' ⟨s',rfl,hnx,ps',tb',rfl,hone'⟩
    subst nx';have hL':=flatC_length ps';have hlen':=hone'.len;have hx':=hone'.tx;have hgd:=good_c B G s' hpk (by show 60≤nb;omega) ps' tb' hone';have hrd:=cread_c B G s' hpk hone'.over hone'.low ps' tb' hx' 0 (totC ps') (Nat.zero_le _) (Nat.le_refl _);rw[List.drop_zero,Nat.sub_zero,List.take_of_length_le (l:=flatC _) (Nat.le_of_eq (flatC_length _)),show ((0:Nat):Int)=0 from rfl] at hrd
    have hta:=ctally_c B G hG s' hpk hone'.over hone'.low ps' tb' hx';have hof:=tof_c G (flatC ps') (by omega);have heq:=tallyEq (flatC ps');unfold tallyE at hta hof heq
    rw[hL'] at hta hof heq
    repeat' (first|refine zQQ 328827822944186335313813493 ?_|(refine stp ?_;simp only[go_sem,hL'])|(refine drawQ (id:=16) mixed [(0,[]),(1,[]),(2,[]),(3,[]),(4,[]),(5,[]),(6,[]),(7,[]),(8,[]),(9,[]),(10,[]),(11,[]),(13,[]),(12,[]),(14,[12]),(15,[]),(16,[])] (by kernel_rfl) ?_;simp only[go_sem])|(refine EffW.at (hgd ) [] rfl (by (simp;done)) ?_;(try simp only[go_sem]))|(refine EffW.at (hrd ) [] rfl (by (simp;done)) ?_;(try simp only[go_sem]))|(refine EffW.at (hta ) [] rfl (by (simp;done)) ?_;(try simp only[go_sem]))|(refine Pure.at (hof) (by simp) (by simp) rfl ?_;(try simp only[go_sem]))|(refine ⟨heq,?_⟩)|(simp (disch:=omega) only[zQK])|fail)
    (refine ⟨(i+1,s',ps',tb'),T,[],?_,?_,rfl,rfl,?_,⟨?_,rfl,?_,?_,?_,?_,?_⟩⟩;rotate_left;(focus (simp only[];omega));(focus (simp[go_sem,zWQ,hbt]));(focus (omega));(focus simp);(focus (simp));(focus (simp only[];omega));(focus (simp));(focus (simp));(try simp only[]))
    exact ⟨by omega,hone'⟩
  ·have hx:=hone.tx;have hsum:=hx.sum;have hdr:=cdrop_c B G s hpk hone.over hone.low ps tb hx;have hnone:=giveA_none hone;have hov:(giveA (blkC ps++tb.map (·.1)) s).over=false:=(giveA_over _ s).1.trans hone.over;generalize giveA (blkC ps++tb.map (·.1)) s=s' at hdr hnone hov
   have hgo2:¬ (i:Int)<eds.length∨¬ (i:Int)<30:=by omega
   repeat' (first|(refine esem_holdR 18 ?_)|refine zQQ 328827822944186335313813493 ?_|(refine stp ?_;simp only[go_sem,f1.2.2.2])|(refine spl (fun h=>?_) (fun h=>?_)<;>first|omega|((try simp only[opRun,opSkip]);(try simp only[go_sem,h])))|fail)
   all_goals
    refine ⟨?_⟩
    repeat' (first|(refine stp ?_;simp only[go_sem])|(refine EffR.at hdr ?_)|(simp only[go_sem])|fail)
    rintro v bl nx1 ⟨B1,rfl,rfl,hS1,he1⟩
    haveI:=hS1;haveI:Big nx1:=⟨hS1.big⟩
    repeat' (first|refine zQQ 328827822944186335313813493 ?_|(refine stp ?_;simp only[go_sem])|(refine EffR.at (taken_c (p:=pZ nb) B1 G s' hov (by rw[hnone];exact List.nodup_nil) (by rw[hnone];simp) (by rw[hnone];simp)) ?_)|(simp only[go_sem])|fail)
    rintro v bl nx2 ⟨B2,l,rfl,hS2,he2,hpm,r2,rfl,-⟩
    rw[hnone] at hpm
    obtain rfl:=hpm.eq_nil;haveI:=hS2;haveI:Big nx2:=⟨hS2.big⟩;simp only[List.length_nil,accE_zero]
    repeat' (first|(refine EffR.at (given_c (p:=pZ nb) B2 G s' hov) ?_)|(simp only[go_sem])|fail)
    rintro v bl nx3 ⟨B3,rfl,hS3,he3,r3,rfl,-⟩
    simp only[accE_zero]
    repeat' (first|(refine stp ?_;simp only[go_sem])|(simp only[go_sem])|fail)
    all_goals exact done_flat rfl trivial
end
end Go.Proofs.YtgajmgkhlkghjaaGreatDoor
