/-
  Own work: a part of the proof that the last text closes.
-/
import Derived.Test.YtncphnpndkjkaaaGreatDoorHg
namespace Go.Proofs.YtncphnpndkjkaaaGreatDoor
open Go.E
set_option linter.all false
set_option maxRecDepth 100000
set_option maxHeartbeats 16000000
section
variable {p:Gp} (B:List (Nat × EO)) {t:Nat}
theorem yFM (G:List Gl) (s:Gs) [Big t] [hS0:StL p B t] (hp:p.ok) (ho:s.over=false) (hs:GsOK p s) (hr:ovl s.put 64 8=zU 8) (c:Nat) (hc1:1≤c) (hc2:c≤62) (l:List TP) (hl:Chain p s c l) (hn:l.length≤p.n) (hnd:(l.map (·.1)).Nodup) (i:Nat) (hi:i≤tot (l.map zWM)) (ins:List Cell) (v:EV) (hv:RowZ B t v ins) (hi1:1≤ins.length) (hi2:ins.length≤1000000) (hic:∀ x∈ins,x.length=c) :
  EffR G Tryz.prog 154 [.ptr (some ⟨0,0⟩),.int .u32 (zWQ l),.int .i64 c,.int .i64 i,v] (gnd p s B) t (fun v bl nx=>∃ B' s',bl=gnd p s' B'∧StL p B' nx∧Ext B t B' nx ∧
   match zVJ p s (zXB (248 / c) [] (zJX (248 / c) (l.map zWM) i ins)) with
   | (s1,none)=>v=.tuple [.int .u32 0,.int .i64 7]∧s'=s1
   | (s1,some l1)=>v=.tuple [.int .u32 (zWQ (l1.map yFB)),.int .i64 0]∧TabOK p s c (l.map (·.1)) ((l.flatMap (·.2)).take i++ins++(l.flatMap (·.2)).drop i) s' (l1.map yFB)):=by
 refine EffR.mono (tins_c B G s hp ho hs hr c hc1 hc2 l hl hn hnd i hi ins v hv hi1 hi2 hic) ?_
 rintro v bl nx ⟨B',s',h1,h2,h3,h4⟩
 refine ⟨B',s',h1,h2,h3,?_⟩;have hcsl:∀ y∈l.map zWM,1≤y.cs.length∧y.cs.length≤248 / c∧∀ x∈y.cs,x.length=c:=fun y hy=>by
  obtain ⟨x,hx,rfl⟩:=List.mem_map.1 hy;obtain ⟨k,hk,e⟩:=List.mem_iff_getElem.1 hx;have:=hl.get (k:=k) (x:=x) (by rw[← e];exact List.getElem?_eq_getElem hk);exact ⟨this.pos,this.fill,this.len⟩
 have hnn:∀ y∈l.map zWM,0≤y.b:=fun y hy=>by
  obtain ⟨x,hx,rfl⟩:=List.mem_map.1 hy;exact Int.natCast_nonneg _
 obtain ⟨q1,q2,q3,q4,q5⟩:=xPX (fill:=248 / c) (c:=c) (by rw[Nat.le_div_iff_mul_le (by omega)];omega) hi hic hcsl hnn;rw[zBQ] at q3
 cases hfg:zVJ p s (zXB (248 / c) [] (zJX (248 / c) (l.map zWM) i ins)) with
 | mk s1 o=>
   rw[hfg] at h4
   cases o with
   | none=>exact h4
   | some l1=>
     obtain ⟨rfl,hw⟩:=h4;refine ⟨by rw[xYF],?_⟩;have:=plan_ok hc1 hs hl hnd q1 (fun y hy=>(q2 y hy).imp id fun ⟨z,w1,w2⟩=>by rw[w2];exact hnn z w1) (fun b hb=>q3.subset hb) (q3.nodup hnd) hfg hw;rw[q5] at this
     simpa [zWM,List.flatMap_map] using this
end
section
theorem zJM (l:List UInt8):1≤(zZX l).2:=by
 simp only[zZX,Utf8.decode]
 repeat' (first|split|(simp only[];omega)|fail)
theorem yQG (l:List UInt8) (h:0<l.length):(zZX l).2≤l.length:=by
 have hs:(ByteArray.mk l.toArray).size=l.length:=zPM l;simp only[zZX,Utf8.decode,hs,Nat.zero_add]
 repeat' split
 all_goals (simp_all;try omega)
def zVB (s:List UInt8):List UInt8:=s.take 3
def zXH (s:List UInt8):List UInt8:=s.drop (s.length - 3)
theorem xYQ (G:List Gl) (s:List UInt8) (hs:s.length≤9000000000):E.Pure G Tryz.prog 58 [.str s] (.str (zVB s)):=by
 refine zXP fun V hV=>?_
 refine zQV 8 [.tmp 2] Tryz.func58 ?_
 repeat' (first|refine zQQ 5 ?_|(refine stp ?_;simp only[go_sem])|(refine zQT ?_ ?_;focus omega))
 refine zQH (by simp[EV.bel]) ?_;rw[hV];simp only[zVB,EV.str.injEq]
 rcases Nat.le_total s.length 3 with h | h
 ·rw[List.take_of_length_le h];exact List.take_of_length_le (by omega)
 ·congr 1;omega
theorem tlast_c (G:List Gl) (s:List UInt8) (hs:s.length≤9000000000):E.Pure G Tryz.prog 59 [.str s] (.str (zXH s)):=by
 refine zXP fun V hV=>?_
 refine zQV 11 [.tmp 2] Tryz.func59 ?_
 repeat' (first|refine zQQ 5 ?_|(refine stp ?_;simp only[go_sem])|(simp (disch:=omega) only[zQK])|(refine zQT ?_ ?_;focus omega))
 all_goals (
  refine zQH (by simp[EV.bel]) ?_;rw[hV];simp only[zXH,EV.str.injEq]
  congr 1
  omega)
def xYH (r:Int):Bool:=decide (r=133∨r=8232∨r=8233)
theorem sep_c (G:List Gl) (r:Int):E.Pure G Tryz.prog 60 [.int .i32 r] (.bool (xYH r)):=by
 refine zXP fun V hV=>?_
 refine zQV 8 [.tmp 2] Tryz.func60 ?_
 repeat' (first|refine zQQ 29 ?_|refine zQW ?_|(refine stp ?_;simp only[go_sem])|(refine spl (fun h=>?_) (fun h=>?_)<;>((try simp only[go_sem,h])))|fail)
 all_goals (refine zQH (by simp[EV.bel]) ?_;rw[hV];simp only[xYH,EV.bool.injEq];(first|(symm;apply decide_eq_true;omega)|(symm;apply decide_eq_false;omega)))
def zDK (s:List UInt8) (pos:Nat):Bool:=
 let r:Int:=(zZX (s.drop pos)).1
 decide ((r=10∧((pos:Int)=0∨¬ ((s.getD ((pos:Int) - 1).toNat 0).toNat:Int)=13))∨r=13∨xYH r=true)
def tlP (s:List UInt8):Nat→Nat→Nat × Nat
 | 0,_=>(0,0)
 | f+1,pos=>if pos<s.length then ((tlP s f (pos+(zZX (s.drop pos)).2)).1+1,(tlP s f (pos+(zZX (s.drop pos)).2)).2+if zDK s pos then 1 else 0) else (0,0)
theorem yBK (s:List UInt8):∀ (f g pos:Nat),s.length - pos≤f→s.length - pos≤g→tlP s f pos=tlP s g pos
 | 0,0,_,_,_=>rfl
 | 0,g+1,pos,h,_=>by simp only[tlP];rw[if_neg (by omega)]
 | f+1,0,pos,_,h=>by simp only[tlP];rw[if_neg (by omega)]
 | f+1,g+1,pos,h1,h2=>by
   simp only[tlP];have:=zJM (s.drop pos);rw[yBK s f g _ (by omega) (by omega)]
theorem xJD (s:List UInt8):∀ (f pos:Nat),(tlP s f pos).1≤s.length - pos∧(tlP s f pos).2≤(tlP s f pos).1
 | 0,pos=>by simp[tlP]
 | f+1,pos=>by
   simp only[tlP];have h1:=zJM (s.drop pos);have h2:=xJD s f (pos+(zZX (s.drop pos)).2)
   split
   ·refine ⟨by omega,?_⟩;simp only
    split<;>omega
   ·exact ⟨Nat.zero_le _,Nat.le_refl _⟩
def tlG (s:List UInt8) (pos:Nat):Nat × Nat:=tlP s (s.length - pos) pos
theorem zSN (s:List UInt8) (pos:Nat) (h:s.length≤pos):tlG s pos=(0,0):=by
 unfold tlG;rw[show s.length - pos=0 by omega];rfl
theorem zPN (s:List UInt8) (pos:Nat) (h:pos<s.length):tlG s pos=((tlG s (pos+(zZX (s.drop pos)).2)).1+1,(tlG s (pos+(zZX (s.drop pos)).2)).2+if zDK s pos then 1 else 0):=by
 have h1:=zJM (s.drop pos);unfold tlG;rw[yBK s (s.length - pos) (s.length - pos - 1+1) pos (by omega) (by omega)]
 conv=>lhs;rw[tlP,if_pos h]
 rw[yBK s (s.length - pos - 1) (s.length - (pos+(zZX (s.drop pos)).2)) _ (by omega) (by omega)]
def zZY (s:List UInt8):EV:=.agg [.int .i64 s.length,.int .i64 (tlG s 0).1,.int .i64 (tlG s 0).2,.str (zVB s),.str (zXH s)]
theorem tof_c (G:List Gl) (s:List UInt8) (hs:s.length≤9000000000):E.Pure G Tryz.prog 34 [.str s] (zZY s):=by
 refine zXP fun V hV=>?_
 refine zQV 46 [.cell 2 81] Tryz.func34 ?_
 repeat' (first|refine zQQ 8503357 ?_|refine zQW ?_|(refine stp ?_;simp only[go_sem])|(refine Pure.at (xYQ G s hs) (by simp) (by simp) rfl ?_;(try simp only[go_sem]))|(refine Pure.at (tlast_c G s hs) (by simp) (by simp) rfl ?_;(try simp only[go_sem]))|(refine zKT ?_;simp only[go_sem])|fail)
 refine zWK (fun z:Nat × Nat × Nat=>[(14,.ptr (some ⟨2,0⟩)),(3,.ptr (some ⟨1,0⟩)),(2,.ptr (some ⟨0,0⟩)),(0,.str s)]) (fun z:Nat × Nat × Nat=>[(2,.sIter s z.1),(1,.cells [.int .i64 s.length,.int .i64 z.2.1,.int .i64 z.2.2,.str (zVB s),.str (zXH s)] 81 0 true 0),(0,.cells [.int .i64 0,.int .i64 0,.int .i64 0,.str [],.str []] 81 0 true 0)]) (fun z:Nat × Nat × Nat=>3) (fun z:Nat × Nat × Nat=>z.1≤s.length∧z.2.1+(tlG s z.1).1=(tlG s 0).1∧z.2.2+(tlG s z.1).2=(tlG s 0).2) (fun z:Nat × Nat × Nat=>s.length - z.1) ((0,0,0)) (fun z hz=>⟨by simp[zWP],by trivial,by exact Nat.zero_le _⟩) (by simp) (by simp only[go_sem,zQS];done) (by trivial) ?_
 rintro ⟨pos,n,m⟩ ⟨h1,h2,h3⟩
 simp only at h1 h2 h3 ⊢
 have b1:=xJD s (s.length - 0) 0;have b2:(tlG s 0).1≤s.length∧(tlG s 0).2≤(tlG s 0).1:=b1
 rcases Nat.lt_or_ge pos s.length with hp | hp
 ·have hst:=zPN s pos hp;have hdp:=zJM (s.drop pos);have hdl:=yQG (s.drop pos) (by simp;omega);rw[List.length_drop] at hdl
  have hla:zDK s pos=decide ((((zZX (s.drop pos)).1:Int)=10∧((pos:Int)=0∨¬ ((s.getD ((pos:Int) - 1).toNat 0).toNat:Int)=13))∨((zZX (s.drop pos)).1:Int)=13∨xYH (zZX (s.drop pos)).1=true):=rfl;generalize hd:zZX (s.drop pos)=d at *
  obtain ⟨r,w⟩:=d;simp only at *
  have hsep:=sep_c G r;have hsep10:E.Pure G Tryz.prog 60 [.int .i32 10] (.bool (xYH 10)):=sep_c G 10
  repeat' (first|refine zQQ 8503357 ?_|refine zQW ?_|(refine stp ?_;simp only[go_sem])|(refine zXQ ?_;simp only[go_sem,hd])|(refine Pure.at (hsep) (by simp) (by simp) rfl ?_;(try simp only[go_sem]))|(refine Pure.at (hsep10) (by simp) (by simp) rfl ?_;(try simp only[go_sem]))|(simp (disch:=omega) only[zQK])|(refine spl (fun h=>?_) (fun h=>?_)<;>first|omega|((try simp only[zZQ,zJB,zRM]);(try simp only[go_sem,h])))|(refine zQT ?_ ?_;focus omega))
  all_goals (
   first
    | (have hk:zDK s pos=true:=by
        rw[hla];apply decide_eq_true
        first|exact .inl ⟨by assumption,.inl (by assumption)⟩|exact .inl ⟨by assumption,.inr (by assumption)⟩|exact .inr (.inl (by assumption))|exact .inr (.inr (by assumption))
       rw[hk] at hst
       (refine ⟨(pos+w,n+1,m+1),?_,?_,rfl,rfl,?_,?_⟩;rotate_left;(focus (first|omega|(simp only[];omega)));(focus (first|(simp only[go_sem,zQS];done)|(((repeat' apply And.intro)<;>(first|rfl|trivial|(first|rfl|omega))))));(focus (first|trivial|(simp only[go_sem,zWG];done)|(((repeat' apply And.intro)<;>(first|rfl|trivial|(first|rfl|omega))))));(try simp only[]))
       rw[hst] at h2 h3
       simp only[if_true] at h2 h3
       exact ⟨by omega,by omega,by omega⟩)
    | (have hk:zDK s pos=false:=by
        rw[hla];apply decide_eq_false
        rintro (⟨a,b | b⟩ | b | b)<;>first | contradiction | omega | (simp_all;done)
       rw[hk] at hst
       (refine ⟨(pos+w,n+1,m),?_,?_,rfl,rfl,?_,?_⟩;rotate_left;(focus (first|omega|(simp only[];omega)));(focus (first|(simp only[go_sem,zQS];done)|(((repeat' apply And.intro)<;>(first|rfl|trivial|(first|rfl|omega))))));(focus (first|trivial|(simp only[go_sem,zWG];done)|(((repeat' apply And.intro)<;>(first|rfl|trivial|(first|rfl|omega))))));(try simp only[]))
       rw[hst] at h2 h3
       simp only[Bool.false_eq_true,if_false] at h2 h3
       exact ⟨by omega,by omega,by omega⟩))
 ·obtain rfl:pos=s.length:=by omega
  rw[zSN s s.length (Nat.le_refl _)] at h2 h3
  simp only[Nat.add_zero] at h2 h3
  repeat' (first|refine zQQ 8503357 ?_|(refine stp ?_;simp only[go_sem])|(refine zXQ ?_;simp only[go_sem])|fail)
  refine zQH (by simp[EV.bel,zQX]) ?_;rw[hV,zZY,h2,h3]
end
section
def xXD (l:List UInt8):List UInt8:=l++zU (3 - l.length)
theorem yKH (s:List UInt8):(zVB s).length≤3:=by simp[zVB];omega
theorem yKK (s:List UInt8):(zXH s).length≤3:=by simp[zXH];omega
theorem yQV (l:List UInt8) (h:l.length≤3):(xXD l).length=3:=by simp[xXD];omega
def zNH (T:List UInt8) (b:Nat):List UInt8:=leB 4 (b+1)++leB 2 T.length++leB 2 (tlG T 0).1++leB 2 (tlG T 0).2++xXD (zVB T)++xXD (zXH T)
theorem zPS (T:List UInt8) (b:Nat):(zNH T b).length=16:=by simp[zNH,yQV,yKH,yKK]
theorem yDR (h:List UInt8) (hh:h.length≤3):zZH [EV.int .u8 0,EV.int .u8 0,EV.int .u8 0] 0 (List.take (min h.length 3) (zQZ h))=zQZ (xXD h):=by
 rw[List.take_of_length_le (by rw[zQY];omega)];unfold zZH xXD;rw[zWJ,zQY,List.take_zero,List.nil_append,Nat.zero_add]
 congr 1
 match h,hh with
 | [],_=>rfl
 | [_],_=>rfl
 | [_,_],_=>rfl
 | [_,_,_],_=>rfl
theorem yWJ (a b c d:List EV) (n:Nat) (ha:a.length=n) (hb:b.length=d.length):zZH (a++(b++c)) n d=a++(d++c):=by
 unfold zZH;rw[List.take_left' ha,← List.drop_drop,List.drop_left' ha,List.drop_left' hb]
theorem cell_c (G:List Gl) (T:List UInt8) (f b:Nat) (hT:T.length≤252) (hb:b<4294967295):Eff G Tryz.prog 144 [.agg [.str T,.int .i64 f,.int .i64 b]] [] 0 (.slice (some ⟨0,0⟩) 16 16) [(0,.cells (zQZ (zNH T b)) 5 0 true 0)] 1:=by
 have h1:(tlG T 0).1≤T.length∧(tlG T 0).2≤(tlG T 0).1:=xJD T (T.length - 0) 0;have ht:=tof_c G T (by omega);unfold zZY at ht
 have hcb:zNH T b=leB 4 (b+1)++leB 2 T.length++leB 2 (tlG T 0).1++leB 2 (tlG T 0).2++xXD (zVB T)++xXD (zXH T):=rfl;have hh:=yKH T;have htl:=yKK T;generalize zVB T=hd at *
 generalize zXH T=tl at *
 generalize hc:tlG T 0=tg at *
 obtain ⟨n,m⟩:=tg;simp only at h1 ht hcb
 have hp4:=xPQ G (b+1) (by omega);have c1:=yZS G (leB 4 (b+1)) (zU 4) 8 0 0 true T.length (by omega) (by simp);have c2:=yZS G (leB 4 (b+1)++leB 2 T.length) (zU 6) 12 0 0 true n (by omega) (by simp);have c3:=yZS G (leB 4 (b+1)++leB 2 T.length++leB 2 n) (zU 6) 14 0 0 true m (by omega) (by simp);simp only[zWJ,List.length_append,zXX,Nat.reduceAdd] at c1 c2 c3
 have e1:=yDR hd hh;have e2:=yDR tl htl;have l1:=yQV hd hh;have l2:=yQV tl htl;have z6:zQZ (zU 6)=zQZ (zU 3)++zQZ (zU 3):=rfl;have q1:zZH (zQZ (leB 4 (b+1))++zQZ (leB 2 T.length)++zQZ (leB 2 n)++zQZ (leB 2 m)++zQZ (zU 6)) 10 (zQZ (xXD hd))=zQZ (leB 4 (b+1))++zQZ (leB 2 T.length)++zQZ (leB 2 n)++zQZ (leB 2 m)++(zQZ (xXD hd)++zQZ (zU 3)):=by
  rw[z6];exact yWJ _ _ _ _ 10 (by simp[zQY]) (by simp[zQY,l1])
 have q2:zZH (zQZ (leB 4 (b+1))++zQZ (leB 2 T.length)++zQZ (leB 2 n)++zQZ (leB 2 m)++(zQZ (xXD hd)++zQZ (zU 3))) 13 (zQZ (xXD tl))=zQZ (leB 4 (b+1)++leB 2 T.length++leB 2 n++leB 2 m++xXD hd++xXD tl):=by
  have:=yWJ (zQZ (leB 4 (b+1))++zQZ (leB 2 T.length)++zQZ (leB 2 n)++zQZ (leB 2 m)++zQZ (xXD hd)) (zQZ (zU 3)) [] (zQZ (xXD tl)) 13 (by simp[zQY,l1]) (by simp[zQY,l2])
  simpa [zWJ] using this
 unfold Eff;refine zQV 47 [.tmp 2] Tryz.func144 ?_
 repeat' (first|refine zQQ 125829599 ?_|refine zQW ?_|(refine stp ?_;simp only[go_sem,e1,e2,l1,l2,q1,q2,zQY,yVF,List.length_append,zXX,zXV,List.take_of_length_le])|(refine zWV (id:=9) mixed [(1,[]),(0,[]),(2,[]),(3,[])] (by kernel_rfl) ?_;simp only[go_sem])|(refine zWV (id:=10) mixed [(1,[]),(0,[]),(2,[]),(3,[])] (by kernel_rfl) ?_;simp only[go_sem])|(refine zWV (id:=11) mixed [(0,[]),(1,[]),(3,[]),(2,[3]),(4,[]),(5,[])] (by kernel_rfl) ?_;simp only[go_sem])|(refine Pure.at (ht) (by simp) (by simp) rfl ?_;(try simp only[go_sem]))|(refine Eff.at2 (hp4 ) [] rfl (by first|(simp;done)|fail) rfl ?_;(try simp only[go_sem]))|(refine Eff.at2 (c1 ) [2] rfl (by first|(simp;done)|fail) rfl ?_;(try simp only[go_sem]))|(refine Eff.at2 (c2 ) [4] rfl (by first|(simp;done)|fail) rfl ?_;(try simp only[go_sem]))|(refine Eff.at2 (c3 ) [5] rfl (by first|(simp;done)|fail) rfl ?_;(try simp only[go_sem]))|(refine zZM 125829599 4 ?_;simp only[go_sem])|(simp (disch:=omega) only[zQK,zYP,zPH])|(refine zQT ?_ ?_;focus omega))
 rw[hcb];exact zWW [6] (by simp;done) (by simp;done) (by simp;done) (by simp;done) (by simp;done) (by simp;done) rfl (by simp) (by simp[zWJ])
end
section
theorem yXW (G:List Gl) (A C a b:List UInt8) (o1 o2 z1 f1 z2 f2 c1 c2:Nat) (w1 w2:Bool) (hA:(A.drop o1).take a.length=a) (hC:(C.drop o2).take b.length=b) (hal:o1+a.length≤A.length) (hbl:o2+b.length≤C.length) (ha:a.length≤70000000) (hb:b.length≤70000000):Eff G Tryz.prog 103 [.slice (some ⟨0,o1⟩) a.length c1,.slice (some ⟨1,o2⟩) b.length c2] [(0,.cells (zQZ A) 5 z1 w1 f1),(1,.cells (zQZ C) 5 z2 w2 f2)] 2 (.bool (decide (a=b))) [(0,.cells (zQZ A) 5 z1 w1 f1),(1,.cells (zQZ C) 5 z2 w2 f2)] 2:=by
 unfold Eff;refine zQV 26 [.tmp 4] Tryz.func103 ?_
 repeat' (first|refine zQQ 16806963 ?_|refine zQW ?_|(refine stp ?_;simp only[go_sem])|(refine spl (fun h=>?_) (fun h=>?_)<;>((try simp only[go_sem,h])))|fail)
 ·have e:decide (a=b)=false:=by apply decide_eq_false;intro e;subst e;omega
  rw[e];exact zWW [] (by simp) (by simp) (by simp) (by simp) (by simp) (by simp) rfl (by simp) (by simp)
 ·have hlen:a.length=b.length:=by omega
  refine zWK (fun i:Nat=>[(0,.slice (some ⟨0,o1⟩) a.length c1),(1,.slice (some ⟨1,o2⟩) b.length c2),(12,.int .i64 a.length),(13,.int .i64 i)]) (fun i:Nat=>[(0,.cells (zQZ A) 5 z1 w1 f1),(1,.cells (zQZ C) 5 z2 w2 f2)]) (fun i:Nat=>2) (fun i:Nat=>i≤a.length∧a.take i=b.take i) (fun i:Nat=>a.length - i) (0) (fun z hz=>⟨by simp[zWP],by simp,by exact Nat.le_refl _⟩) (by simp) (by simp only[go_sem,zQS];done) (by trivial) ?_
  rintro i ⟨hi,he⟩
  rcases Nat.lt_or_ge i a.length with hil | hil
  ·have g1:(zQZ A)[o1+i]? = some (.int .u8 (a.getD i 0).toNat):=by
    rw[zTB _ _ (by omega)]
    congr 3
    conv=>rhs;rw[← hA]
    simp[hil,List.getElem?_drop]
   have g2:(zQZ C)[o2+i]? = some (.int .u8 (b.getD i 0).toNat):=by
    rw[zTB _ _ (by omega)]
    congr 3
    conv=>rhs;rw[← hC]
    simp[show i<b.length by omega,List.getElem?_drop]
   repeat' (first|refine zQQ 16806963 ?_|refine zQW ?_|(refine stp ?_;simp only[go_sem])|(refine zWV (id:=6) mixed [(0,[]),(1,[]),(2,[]),(4,[]),(5,[]),(6,[]),(3,[]),(7,[]),(8,[])] (by kernel_rfl) ?_;simp only[go_sem,g1,g2])|(simp (disch:=omega) only[zQK])|(refine spl (fun h=>?_) (fun h=>?_)<;>first|omega|try simp only[go_sem,h])|(refine zQT ?_ ?_;focus omega))
   ·have e:decide (a=b)=false:=by
     apply decide_eq_false
     intro e;subst e;exact absurd rfl (by assumption)
    rw[e];exact zWW [] (by simp) (by simp) (by simp) (by simp) (by simp) (by simp) rfl (by simp) (by simp)
   ·(refine ⟨(i+1),?_,?_,rfl,rfl,?_,?_⟩;rotate_left;(focus (simp only[];omega));(focus ((try simp only[go_sem,zQS]);((repeat' apply And.intro)<;>(rfl))));(focus (trivial));(try simp only[]))
    refine ⟨hil,?_⟩;have hb1:i<b.length:=by omega
    have e3:a[i]=b[i]:=by
     have h5:((a.getD i 0).toNat:Int)=((b.getD i 0).toNat:Int):=Decidable.not_not.1 (by assumption);have h6:a.getD i 0=b.getD i 0:=UInt8.toNat_inj.1 (by omega);rw[List.getD_eq_getElem?_getD,List.getD_eq_getElem?_getD,List.getElem?_eq_getElem hil,List.getElem?_eq_getElem hb1] at h6
     exact h6
    rw[List.take_succ,List.take_succ,he,List.getElem?_eq_getElem hil,List.getElem?_eq_getElem hb1,e3]
  ·obtain rfl:i=a.length:=by omega
   have e:decide (a=b)=true:=by
    apply decide_eq_true
    rw[List.take_length,hlen,List.take_length] at he
    exact he
   rw[e]
   repeat' (first|refine zQQ 16806963 ?_|(refine stp ?_;simp only[go_sem])|(refine spl (fun h=>?_) (fun h=>?_)<;>first|omega|try simp only[go_sem,h])|fail)
   exact zWW [] (by simp) (by simp) (by simp) (by simp) (by simp) (by simp) rfl (by simp) (by simp)
abbrev ptE (T:List UInt8) (f:Nat) (b:Int):EV:=.agg [.str T,.int .i64 f,.int .i64 b]
theorem pbytes_c (G:List Gl) (T:List UInt8) (f:Nat) (b:Int) (hT:T.length≤252) (hf:f≤T.length):Eff G Tryz.prog 150 [ptE T f b] [] 0 (.tuple [.slice (some ⟨0,0⟩) 256 256,.int .i64 0]) [(0,.cells (zQZ (zKX T f)) 5 1 true 0)] 1:=by
 unfold Eff;refine zQV 25 [.tmp 2,.tmp 3] Tryz.func150 ?_
 repeat' (first|refine zQQ 2113663 ?_|(refine stp ?_;simp only[go_sem])|(refine Eff.at2 (make_c G T hT ) [] rfl (by first|(simp;done)|fail) rfl ?_;(try simp only[go_sem]))|(refine Eff.at2 (move_c G T T.length f hT (Nat.le_refl _) hf ) [1] rfl (by first|(simp;done)|fail) rfl ?_;(try simp only[go_sem]))|(refine Eff.at2 (block_c G T f hT hf ) [1] rfl (by first|(simp;done)|fail) rfl ?_;(try simp only[go_sem]))|fail)
 exact zWW [2] (by simp) (by simp) (by simp) (by simp) (by simp) (by simp) rfl (by simp) (by simp)
end
section
theorem sub_get {D l:List UInt8} {o i:Nat} (hD:(D.drop o).take l.length=l) (hl:o+l.length≤D.length) (hi:i<l.length):(zQZ D)[o+i]? = some (.int .u8 (l.getD i 0).toNat):=by
 rw[zTB _ _ (by omega)]
 congr 3
 conv=>rhs;rw[← hD]
 simp[hi,List.getElem?_drop]
theorem take32o_c (G:List Gl) (D l:List UInt8) (o p cp z0 f:Nat) (w:Bool) (hp:p≤70000000000000) (hl:l.length≤70000000000000) (hD:(D.drop o).take l.length=l) (hDl:o+l.length≤D.length):Eff G Tryz.prog 138 [.slice (some ⟨0,o⟩) l.length cp,.int .i64 p] [(0,.cells (zQZ D) 5 z0 w f)] 1 (zHY l p) [(0,.cells (zQZ D) 5 z0 w f)] 1:=by
 unfold Eff;refine zQV 39 [.tmp 4,.tmp 5] Tryz.func138 ?_
 repeat' (first|refine zQQ 8913395 ?_|refine zQW ?_|(refine stp ?_;simp only[go_sem])|(refine Pure.at (yBT _) (by simp) (by simp) rfl ?_;(try simp only[go_sem]))|(simp (disch:=omega) only[zQK])|(refine spl (fun h=>?_) (fun h=>?_)<;>first|omega|((try simp only[zZQ]);(try simp only[go_sem,h])))|fail)
 ·rw[show zHY l p=.tuple [.int .u32 0,.int .i64 6] from if_neg (by omega)];exact zWW [] (by simp) (by simp) (by simp) (by simp) (by simp) (by simp) rfl (by simp) (by simp)
 rw[show zHY l p=.tuple [.int .u32 (leN ((l.drop p).take 4):Nat),.int .i64 0] from if_pos (by omega)];refine zWK (fun z:Nat=>[(0,.slice (some ⟨0,o⟩) l.length cp),(1,.int .i64 p),(7,.int .u64 ((leN ((l.drop (p+(4 - z))).take z):Nat):Int)),(8,.int .i64 (4 - 1 - z))]) (fun z:Nat=>[(0,.cells (zQZ D) 5 z0 w f)]) (fun z:Nat=>1) (fun z:Nat=>z≤4) (fun z:Nat=>4 - z) (0) (fun z hz=>⟨by simp[zWP],by simp,by exact Nat.le_refl _⟩) (by omega) (by (try simp only[go_sem,zQS]);((repeat' apply And.intro)<;>(rfl))) (by trivial) ?_;intro j hj
 rcases Nat.lt_or_ge j 4 with hjk | hjk
 ·have hor:=yNZ l (p+(3 - j)) j (by omega) (by omega);have hsj:4 - (j+1)=3 - j:=by omega
  have hix:((p:Int)+(3 - (j:Int))).toNat=p+(3 - j):=by omega
  rw[show p+(3 - j)+1=p+(4 - j) by omega] at hor
  have hget:(zQZ D)[o+(p+(3 - j))]? = some (.int .u8 (l.getD (p+(3 - j)) 0).toNat):=sub_get hD hDl (by omega);have hc:=UInt8.toNat_lt (l.getD (p+(3 - j)) 0)
  repeat' (first|refine zQQ 8913395 ?_|refine zQW ?_|(refine stp ?_;simp only[go_sem,yBH])|(simp only[go_sem,hix,hget])|(simp (disch:=omega) only[zQK,zKG])|(refine spl (fun h=>?_) (fun h=>?_)<;>first|omega|try simp only[go_sem,h])|(refine zQT ?_ ?_;focus omega))
  (refine ⟨(j+1),?_,?_,rfl,rfl,?_,?_⟩;rotate_left;(focus (simp only[];omega));(focus ((try simp only[go_sem,zQS,hor,hsj]);((repeat' apply And.intro)<;>((try simp only[EV.int.injEq,true_and]);omega))));(focus (trivial));(try simp only[]))
  omega
 ·obtain rfl:j=4:=by omega
  have hlt:=zGW (l.drop p) 4;simp only[Nat.reducePow] at hlt
  repeat' (first|refine zQQ 8913395 ?_|(refine stp ?_;simp only[go_sem,Nat.sub_self,Nat.add_zero])|(simp (disch:=omega) only[zPH])|fail)
  exact zWW [] (by simp) (by simp) (by simp) (by simp) (by simp) (by simp) rfl (by simp) (by simp)
theorem cell_take0 (T:List UInt8) (b:Nat) (hb:b<4294967295):zHY (zNH T b) 0=.tuple [.int .u32 ((b+1:Nat):Int),.int .i64 0]:=by
 unfold zHY;rw[if_pos (by rw[zPS];omega),List.drop_zero];have:(zNH T b).take 4=leB 4 (b+1):=by
  unfold zNH;rw[List.append_assoc,List.append_assoc,List.append_assoc,List.append_assoc,List.take_left' (zXX 4 _)]
 rw[this,yQY 4 _ (by omega)]
variable {p:Gp} (B:List (Nat × EO)) {t:Nat}
theorem chread_c (G:List Gl) (s:Gs) [Big t] [h:StL p B t] (hp:p.ok) (ho:s.over=false) (v:EV) (T:List UInt8) (f b:Nat) (hv:CellV B t v (zNH T b)) (hbn:b<p.n) (hu:b∈s.taken) (hrd:rd p s b=zKX T f) (h1:1≤T.length) (hT:T.length≤252) (hf:f≤T.length) :
  EffW G Tryz.prog 111 [.ptr (some ⟨0,0⟩),v] t [] (gnd p s B) 0 (.tuple [ptE T f b,.bool true]) [] (gnd p s B) 0:=by
 have hb:=hp.big;have h2:=hp.fit;obtain ⟨d,o,cap,D,z,w,ff,rfl,hd,hol,hDo⟩:=hv;have hk:=take32o_c G D (zNH T b) o 0 cap z ff w (by omega) (by rw[zPS];omega) hDo hol;rw[cell_take0 T b (by omega)] at hk
 have hR:=xYD B G s hp ho b hbn hu;rw[show ovl s.put (p.at_+256*b) 256=zKX T f from hrd] at hR
 have hO:=open_c G T f 256 0 0 true hT hf (by omega) (.inl rfl);have hC:=cell_c G T f b hT (by omega);have hc16:=zPS T b;have hD:=hd.f (p:=p);have e1:((b+1:Nat):Int) - 1=(b:Int):=by omega
 have hE:=yXW G (zNH T b) D (zNH T b) (zNH T b) 0 o 0 0 z ff 16 cap true w (by rw[List.drop_zero,List.take_length]) hDo (by omega) hol (by omega) (by omega);rw[decide_eq_true rfl] at hE
 rw[hc16] at hk hE ⊢
 refine EffW.enter fun Q hQ=>?_
 simp only[gnd,List.nil_append,Nat.add_zero];refine zQV 55 [.cell 4 192,.tmp 5] Tryz.func111 ?_
 repeat' (first|(simp (disch:=omega) only[zQK,e1])|refine zQQ 4398583385971 ?_|(refine stp ?_;simp only[go_sem])|(refine zWV (id:=10) mixed [(3,[]),(0,[]),(1,[]),(2,[0]),(4,[0]),(5,[]),(6,[])] (by kernel_rfl) ?_;simp only[go_sem])|(refine Eff.atR (hk ) rfl [d] rfl (by first|(simp[hD];done)|fail) rfl ?_;(try simp only[go_sem]))|(refine EffW.at (hR ) [] rfl (by (simp;done)) ?_;(try simp only[go_sem]))|(refine Eff.at2 (hO ) [t+2] rfl (by first|(simp;done)|fail) rfl ?_;(try simp only[go_sem]))|(refine Eff.at2 (len_c G T f hT hf ) [t+3] rfl (by first|(simp;done)|fail) rfl ?_;(try simp only[go_sem]))|(refine Eff.at2 (text_c G T f hT hf ) [t+3] rfl (by first|(simp;done)|fail) rfl ?_;(try simp only[go_sem]))|(refine Eff.at2 (at_c G T f ) [t+3] rfl (by first|(simp;done)|fail) rfl ?_;(try simp only[go_sem]))|(refine Eff.at2 (hC ) [] rfl (by first|(simp;done)|fail) rfl ?_;(try simp only[go_sem]))|(refine Eff.atR (hE ) rfl [t+11,d] rfl (by first|(simp[hD];done)|fail) rfl ?_;(try simp only[go_sem]))|(refine spl (fun h=>?_) (fun h=>?_)<;>first|omega|try simp only[go_sem,h])|fail)
 (refine zQN hQ [] ?_ ?_ ?_<;>(simp))
end
section
structure Ck where
 T:List UInt8
 f:Nat
 b:Int
def ckC (l:List Ck):List EV:=l.flatMap fun x=>[.str x.T,.int .i64 x.f,.int .i64 x.b]
theorem zWR (l:List Ck):(ckC l).length=l.length*3:=by
 induction l with
 | nil=>rfl
 | cons x l ih=>simp only[ckC,List.flatMap_cons,List.length_append,List.length_cons,List.length_nil] at ih ⊢;omega
theorem zXJ (l m:List Ck):ckC (l++m)=ckC l++ckC m:=by simp[ckC]
theorem zRK (x:Ck):ckC [x]=[.str x.T,.int .i64 x.f,.int .i64 x.b]:=rfl
theorem yMD:ckC []=[]:=rfl
theorem zNK (l:List Ck):(ckC l).all EV.one=true:=by
 induction l with
 | nil=>rfl
 | cons x l ih=>simp only[ckC,List.flatMap_cons,List.all_append,ih] at ih ⊢;simp[EV.one]
theorem zXD (l:List Ck) (k:Nat):zQX k (ckC l):=by
 induction l with
 | nil=>trivial
 | cons x l ih=>simp only[ckC,List.flatMap_cons] at ih ⊢;rw[zQB];exact ⟨by simp[EV.bel,zQX],ih⟩
theorem xJQ (l:List Ck) (π:Nat→Nat):zZG π (ckC l)=ckC l:=by
 induction l with
 | nil=>rfl
 | cons x l ih=>simp only[ckC,List.flatMap_cons,zZT] at ih ⊢;rw[ih];rfl
theorem yQH:∀ {l:List Ck} {i:Nat} {x:Ck},l[i]? = some x→(ckC l)[i*3]? = some (.str x.T)∧(ckC l)[i*3+1]? = some (.int .i64 x.f)∧(ckC l)[i*3+2]? = some (.int .i64 x.b)
 | y::l,0,x,h=>by simp at h;subst h;exact ⟨rfl,rfl,rfl⟩
 | y::l,i+1,x,h=>by
   obtain ⟨h1,h2,h3⟩:=yQH (l:=l) (i:=i) (by simpa using h);have e:ckC (y::l)=.str y.T :: .int .i64 y.f :: .int .i64 y.b::ckC l:=rfl;rw[e];exact ⟨by rw[show (i+1)*3=i*3+3 by omega];exact h1,by rw[show (i+1)*3+1=i*3+1+3 by omega];exact h2,by rw[show (i+1)*3+2=i*3+2+3 by omega];exact h3⟩
theorem zRV {l:List Ck} {i:Nat} {x:Ck} (h:l[i]? = some x):((ckC l).drop (i*3)).take 3=[.str x.T,.int .i64 x.f,.int .i64 x.b]∧i*3+3≤(ckC l).length:=by
 have hl:=(List.getElem?_eq_some_iff.1 h).1;have e:l=l.take i++x::l.drop (i+1):=by
  conv=>lhs;rw[← List.take_append_drop i l,List.drop_eq_getElem_cons hl]
  rw[(List.getElem?_eq_some_iff.1 h).2]
 refine ⟨?_,by rw[zWR];omega⟩;rw[e,zXJ,List.drop_left' (by rw[zWR,List.length_take];omega)];rfl
theorem yMF (l:List Ck) (i:Nat):(ckC l).take (i*3)=ckC (l.take i):=by
 conv=>lhs;rw[← List.take_append_drop i l,zXJ]
 rcases Nat.le_total i l.length with h | h
 ·rw[List.take_left' (by rw[zWR,List.length_take];omega)]
 ·rw[List.drop_of_length_le h,yMD,List.append_nil,List.take_of_length_le (by rw[zWR,List.length_take];omega)]
theorem ckC_drop (l:List Ck) (i:Nat):(ckC l).drop (i*3)=ckC (l.drop i):=by
 rcases Nat.le_total i l.length with h | h
 ·conv=>lhs;rw[← List.take_append_drop i l,zXJ]
  rw[List.drop_left' (by rw[zWR,List.length_take];omega)]
 ·rw[List.drop_of_length_le h,List.drop_of_length_le (by rw[zWR];omega)];rfl
def zVM (l:List Ck):Nat:=(l.map fun x=>x.T.length).sum
def zZN (l:List Ck):List Nat:=l.map fun x=>x.b.toNat
structure PartC (p:Gp) (s:Gs) (x:Ck):Prop where
 nn:0≤x.b
 lt:x.b.toNat<p.n
 use:x.b.toNat∈s.taken
 is:rd p s x.b.toNat=zKX x.T x.f
 pos:1≤x.T.length
 fill:x.T.length≤252
 gap:x.f≤x.T.length
def noFitC:List Ck→Prop
 | []=>True
 | [_]=>True
 | x::y::l=>252<x.T.length+y.T.length∧noFitC (y::l)
structure TxOK (p:Gp) (s:Gs) (ps:List Ck) (tb:List TP):Prop where
 chain:Chain p s 16 tb
 cells:tb.flatMap (·.2)=ps.map fun x=>zNH x.T x.b.toNat
 nd:(tb.map (·.1)++zZN ps).Nodup
 part:∀ x∈ps,PartC p s x
 fit:noFitC ps
 sum:zVM ps≤1048576
theorem noFitC.get:∀ {l:List Ck} (_:noFitC l) {i:Nat} {x y:Ck},l[i]? = some x→l[i+1]? = some y→252<x.T.length+y.T.length
 | [],_,i,x,y,h,_=>by simp at h
 | [_],_,0,x,y,_,h=>by simp at h
 | [_],_,i+1,x,y,h,_=>by simp at h
 | a::b::l,hf,0,x,y,h1,h2=>by simp at h1 h2;subst h1 h2;exact hf.1
 | a::b::l,hf,i+1,x,y,h1,h2=>noFitC.get (l:=b::l) hf.2 (by simpa using h1) (by simpa using h2)
theorem zVV {l:List Ck} {i:Nat} {x:Ck} (h:l[i]? = some x):zVM (l.take (i+1))=zVM (l.take i)+x.T.length:=by
 unfold zVM;rw[List.take_succ,h,List.map_append,List.sum_append];simp
theorem zKJ (l:List Ck) (i:Nat):zVM (l.take i)≤zVM l:=by
 conv=>rhs;rw[← List.take_append_drop i l]
 unfold zVM;rw[List.map_append,List.sum_append];omega
theorem ySN {l:List Ck} {i:Nat} {x:Ck} (h:l[i]? = some x):zZN (l.take (i+1))=zZN (l.take i)++[x.b.toNat]:=by
 unfold zZN;rw[List.take_succ,h,List.map_append];rfl
theorem accE_form (r n:Nat):∃ a,zVW r n=.slice a n n∧(0<n→a=some ⟨r,0⟩)∧∀ k,r<k→(EV.slice a n n).bel k:=by
 unfold zVW
 split
 ·rename_i h;subst h;exact ⟨none,rfl,fun h=>absurd h (by omega),fun _ _=>trivial⟩
 ·exact ⟨some ⟨r,0⟩,rfl,fun _=>rfl,fun k h=>h⟩
variable {p:Gp} (B:List (Nat × EO)) {t:Nat}
theorem Chain.nodes {s:Gs} {c:Nat}:∀ {l:List TP},Chain p s c l→∀ x∈l,x.1<p.n
 | _::_,h,x,hx=>by
   cases hx with
   | head=>exact h.1.lt
   | tail _ hx=>exact Chain.nodes h.2.2 x hx
theorem TxOK.len {s:Gs} {ps:List Ck} {tb:List TP} (h:TxOK p s ps tb):tb.length+ps.length≤p.n:=by
 have:=zMR p.n _ h.nd fun b hb=>by
  rcases List.mem_append.1 hb with w | w
  ·obtain ⟨x,hx,rfl⟩:=List.mem_map.1 w;exact h.chain.nodes x hx
  ·obtain ⟨x,hx,rfl⟩:=List.mem_map.1 w;exact (h.part x hx).lt
 simpa [zZN] using this
def TxtV (B:List (Nat × EO)) (t:Nat) (v:EV) (ref:Nat) (ps:List Ck) (tb:List TP):Prop:=
 ∃ x r v2,v=.ptr (some ⟨x,0⟩)∧AtB B t x (.cells [.ptr (some ⟨0,0⟩),.int .u32 ref,zVW r ps.length,v2] 196 0 true 0)∧(ps ≠ []→AtB B t r (.cells (ckC ps) 192 3 true 0))∧r<t∧RowA B t v2 tb.length (tb.map fun x=>.int .i64 x.1) 3 1
theorem xRZ {l:List Nat} {b:Nat} (h:b ∉ l):insU l b=l++[b]:=by unfold insU;rw[if_neg h]
theorem yZG (G:List Gl) (s:Gs) [Big t] [hS0:StL p B t] (hp:p.ok) (ho:s.over=false) (hr:ovl s.put 64 8=zU 8) (ps:List Ck) (tb:List TP) (hx:TxOK p s ps tb) :
  EffR G Tryz.prog 77 [.ptr (some ⟨0,0⟩),.int .u32 (zWQ tb)] (gnd p s B) t (fun v bl nx=>∃ B' v1,v=.tuple [v1,.int .i64 0]∧bl=gnd p s B'∧StL p B' nx∧Ext B t B' nx∧TxtV B' nx v1 (zWQ tb) ps tb):=by
 have h1:=hp.big;have h2:=hp.fit;have hln:=hx.len;have hroot:=root_c B G s hp ho hr;refine EffR.enter fun Q hQ=>?_
 refine zQV 129 [.tmp 4,.tmp 5] Tryz.func77 ?_
 repeat' (first|refine zQQ 83076749775242902939390529556701107 ?_|(refine stp ?_;simp only[go_sem])|(refine EffW.at (hroot ) [] rfl (by (simp;done)) ?_;(try simp only[go_sem]))|(refine EffR.at (tcells_c B G s hp ho hr 16 (by omega) (by omega) tb hx.chain (by omega)) ?_)|(simp only[go_sem])|fail)
 rintro v bl nx ⟨B1,v1,evs,rfl,rfl,hS1,he1,hra1,hcv1⟩
 haveI:=hS1;haveI:Big nx:=⟨hS1.big⟩;have hbl:=tblocks_c (p:=p) B1 G s hp ho hr 16 (by omega) (by omega) tb hx.chain (by omega)
 repeat' (first|refine zQQ 83076749775242902939390529556701107 ?_|(refine stp ?_;simp only[go_sem])|(refine EffR.at hbl ?_)|(simp only[go_sem])|fail)
 rintro v bl nx2 ⟨B2,v2,rfl,rfl,hS2,he2,hra2⟩
 haveI:=hS2;haveI:Big nx2:=⟨hS2.big⟩;have h3:=he1.le;have h4:=he2.le;obtain ⟨r1,rfl,hl1,hr1,hat1⟩:=hra1;obtain ⟨r2,rfl,hl2,hr2,hat2⟩:=hra2;obtain ⟨a2,e2,e2p,e2b⟩:=accE_form r2 tb.length;rw[e2]
 repeat' (first|refine zQQ 83076749775242902939390529556701107 ?_|refine zQW ?_|(refine stp ?_;simp only[go_sem])|((refine zYK ?_);simp only[go_sem])|fail)
 refine zWK (fun i:Nat=>[(0,.ptr (some ⟨0,0⟩)),(8,zVW r1 evs.length),(11,.ptr (some ⟨nx2,0⟩)),(12,.map (some (nx2+1))),(52,.slice a2 tb.length tb.length),(53,.int .i64 tb.length),(54,.int .i64 i)]) (fun i:Nat=>(nx2+1,.map (usE ((tb.map (·.1)).take i)))::(nx2,.cells [.ptr (some ⟨0,0⟩),.int .u32 (zWQ tb),.slice none 0 0,.slice a2 tb.length tb.length] 196 0 true 0)::stB (zXG p s) B2) (fun i:Nat=>nx2+2) (fun i:Nat=>i≤tb.length) (fun i:Nat=>tb.length - i) (0) (fun z hz=>⟨by simp[zWP,show r1<nx2+2 by omega];exact e2b _ (by omega),by simp[zXM];exact e2b _ (by omega),by show t≤nx2+2;omega⟩) (by omega) (by simp only[go_sem,zQS];done) ?_ ?_
 ·rw[List.take_zero];simp only[go_sem,zWG,show usE []=[] from rfl]
 intro i hi;have hndt:(tb.map (·.1)).Nodup:=(List.nodup_append.1 hx.nd).1
 rcases Nat.lt_or_ge i tb.length with hil | hil
 ·have ha2:=e2p (by omega);subst ha2;have hA:=(hat2 (by omega)).f (p:=p);obtain ⟨⟨b,cs⟩,hbc⟩:∃ x,tb[i]? = some x:=⟨tb[i],by simp[hil]⟩;have hg:(tb.map fun x=>EV.int .i64 x.1)[i]? = some (.int .i64 b):=by rw[List.getElem?_map,hbc];rfl
  have hpu:=zFP b ((tb.map (·.1)).take i);have htk:(tb.map (·.1)).take (i+1)=(tb.map (·.1)).take i++[b]:=by rw[List.take_succ,List.getElem?_map,hbc];rfl
  have hnew:b ∉ (tb.map (·.1)).take i:=by
   have h5:((tb.map (·.1)).take (i+1)).Nodup:=hndt.sublist (List.take_sublist _ _);rw[htk] at h5
   intro hm;exact (List.nodup_append.1 h5).2.2 _ hm _ (List.mem_singleton.2 rfl) rfl
  rw[xRZ hnew,← htk] at hpu
  repeat' (first|refine zQQ 83076749775242902939390529556701107 ?_|refine zQW ?_|(refine stp ?_;simp only[go_sem,hA,hg])|((refine zJT ?_;unfold zTQ);simp only[go_sem,hpu,zKH])|(simp (disch:=omega) only[zQK])|(refine spl (fun h=>?_) (fun h=>?_)<;>first|omega|try simp only[go_sem,h])|(refine zQT ?_ ?_;focus omega))
  (refine ⟨(i+1),?_,?_,rfl,rfl,?_,?_⟩;rotate_left;(focus (simp only[];omega));(focus ((try simp only[go_sem,zQS]);((repeat' apply And.intro)<;>(rfl))));(focus (simp only[go_sem,zWG]));(try simp only[]))
  omega
 ·obtain rfl:i=tb.length:=by omega
  rw[List.take_of_length_le (by simp)]
  repeat' (first|refine zQQ 83076749775242902939390529556701107 ?_|refine zQW ?_|(refine stp ?_;simp only[go_sem])|(refine spl (fun h=>?_) (fun h=>?_)<;>first|omega|try simp only[go_sem,h])|fail)
  have hel:evs.length=ps.length:=by rw[hcv1.length,hx.cells,List.length_map]
  have hb2:(EV.slice a2 tb.length tb.length).bel nx2:=e2b nx2 hr2;have hb2k:∀ k,(EV.slice a2 tb.length tb.length).bel (nx2+k):=fun k=>e2b _ (by omega)
  have hb2r:∀ k q,(EV.slice a2 tb.length tb.length).ren (nam (nx2+k) q)=EV.slice a2 tb.length tb.length:=fun k q=>by
   have:=zWB (i:=k) (q:=q) (l:=[EV.slice a2 tb.length tb.length]) ⟨hb2,trivial⟩
   simpa only[zZG,List.cons.injEq,and_true] using this
  have hc0:(ckC []).length=0:=rfl;have hr1n:r1<nx2:=by omega
  refine zQM (fun i:Nat=>[(0,.ptr (some ⟨0,0⟩)),(8,zVW r1 evs.length),(11,.ptr (some ⟨nx2,0⟩)),(12,.map (some (nx2+1))),(15,.int .i64 (zVM (ps.take i))),(61,zVW r1 evs.length),(62,.int .i64 evs.length),(63,.int .i64 i)]) (fun i:Nat=>zVY (nx2+2) (ckC (ps.take i)) 192 3++((nx2+1,.map (usE (tb.map (·.1)++zZN (ps.take i))))::(nx2,.cells [.ptr (some ⟨0,0⟩),.int .u32 (zWQ tb),zVW (nx2+2) (ps.take i).length,.slice a2 tb.length tb.length] 196 0 true 0)::stB (zXG p s) B2)) (fun i:Nat=>nx2+3) (fun i:Nat=>i≤ps.length) (fun i:Nat=>ps.length - i) (0) ?_ ?_ ?_ ?_ ?_
  ·intro i hi;refine ⟨by simp[zWP,show r1<nx2+3 by omega],?_,by show t≤nx2+3;omega⟩;rw[zXS (by simp) (zXD _ _)];simp[zXM,hb2k]
  ·exact Nat.zero_le _
  ·simp only[go_sem,zQS,zVM,List.map_nil,List.sum_nil]
  ·simp only[List.take_zero,yMD,zVT,List.nil_append,zZN,List.map_nil,List.append_nil,List.length_nil,zWY];simp only[go_sem,zWG]
  ·intro i hi
   rcases Nat.lt_or_ge i ps.length with hil | hil
   ·obtain ⟨x,hxi⟩:∃ x,ps[i]? = some x:=⟨ps[i],by simp[hil]⟩;have hpx:=hx.part x (List.mem_of_getElem? hxi);obtain ⟨b,hb⟩:=Int.eq_ofNat_of_zero_le hpx.nn;have hbt:x.b.toNat=b:=by omega
    have hcb:(tb.flatMap (·.2))[i]? = some (zNH x.T b):=by rw[hx.cells,List.getElem?_map,hxi,← hbt];rfl
    obtain ⟨v,hv,hcv⟩:=hcv1.get hcb;have hA:=((hat1 (by omega)).mono he2).f (p:=p);have hae:=zWZ (b:=r1) (n:=evs.length) (by omega);have q1:=hpx.lt;have q2:=hpx.use;have q3:=hpx.is;have q4:=hpx.pos;have q5:=hpx.fill;rw[hbt] at q1 q2 q3
    have hrd:=chread_c B2 G s hp ho v x.T x.f b (hcv.mono he2) q1 q2 q3 q4 q5 hpx.gap;obtain ⟨d,od,capd,D,zd,wd,fd,rfl,hd1,-,-⟩:=hcv;have hdlt:=(hd1.mono he2).lt;have hdf:=(hd1.mono he2).f (p:=p);have hbk:=ySN hxi;rw[hbt] at hbk
    have hnew:b ∉ tb.map (·.1)++zZN (ps.take i):=by
     have h5:(tb.map (·.1)++zZN (ps.take (i+1))).Nodup:=hx.nd.sublist (List.Sublist.append (List.Sublist.refl _) ((List.take_sublist _ _).map _));rw[hbk,← List.append_assoc] at h5
     intro hm;exact (List.nodup_append.1 h5).2.2 _ hm _ (List.mem_singleton.2 rfl) rfl
    have hfd:=zGZ b (tb.map (·.1)++zZN (ps.take i));rw[if_neg hnew] at hfd
    have hpu:=zFP b (tb.map (·.1)++zZN (ps.take i));rw[xRZ hnew,List.append_assoc,← hbk,hfd] at hpu
    have hts:=zVV hxi;have htl:=zKJ ps (i+1);have htb:=hx.sum;have hckl:=zWR (ps.take i);rw[List.length_take,Nat.min_eq_left hi] at hckl
    rw[List.length_take,Nat.min_eq_left hi,hae]
    rcases i with _ | j
    ·rw[List.take_zero,yMD,zVT,zWY,List.nil_append];rw[List.take_zero] at hfd hpu hts
     have ht0:zVM []=0:=rfl;have hck1:ckC (ps.take 1)=[.str x.T,.int .i64 x.f,.int .i64 b]:=by
      rw[List.take_succ,hxi,List.take_zero,← hb];rfl
     have hl1:(ps.take 1).length=1:=by rw[List.length_take];omega
     have hae1:∀ k,zVW k 1=.slice (some ⟨k,0⟩) 1 1:=fun k=>rfl
     have hab1:∀ k a b c,zVY k [a,b,c] 192 3=[(k,.cells [a,b,c] 192 3 true 0)]:=fun k a b c=>rfl
     rw[ht0] at hts
     repeat' (first|refine zQQ 83076749775242902939390529556701107 ?_|refine zQW ?_|(refine stp ?_;simp only[go_sem,hA,hv,ht0,Int.natCast_zero,Int.zero_add])|(refine zWV (id:=27) mixed [(0,[]),(1,[]),(2,[]),(3,[]),(4,[]),(5,[]),(6,[]),(7,[]),(8,[]),(10,[]),(11,[]),(16,[]),(9,[]),(12,[]),(13,[]),(14,[]),(15,[]),(17,[]),(18,[]),(19,[]),(20,[]),(21,[]),(22,[])] (by kernel_rfl) ?_;simp only[go_sem])|(refine zWV (id:=29) mixed [(0,[]),(1,[]),(2,[]),(3,[]),(4,[]),(5,[]),(6,[]),(7,[]),(8,[]),(9,[]),(10,[])] (by kernel_rfl) ?_;simp only[go_sem])|(refine EffW.at (hrd ) [] rfl (by first|(simp[hdf,zQR hdlt];done)|fail) ?_;(try simp only[go_sem]))|((first|(refine zJT ?_;unfold zTQ)|(refine zXN ?_;unfold zGR));simp only[go_sem,hfd,zKH,hpu])|(simp (disch:=omega) only[zQK])|(refine spl (fun h=>?_) (fun h=>?_)<;>first|omega|((try simp only[zKN]);(try simp only[go_sem,h])))|(refine zQT ?_ ?_;focus omega))
     (refine ⟨1,nx2+2,[nx2+38],?_,?_,rfl,rfl,?_,⟨?_,rfl,?_,?_,?_,?_,?_⟩⟩;rotate_left;(focus (simp only[];omega));(focus (simp only[go_sem,zQS,hts,hr1n]));(focus (omega));(focus simp);(focus (simp));(focus (simp only[];omega));(focus (simp[hck1,hl1,hae1,hab1,hb2k,zXM]));(focus (simp[hck1,hl1,hae1,hab1,hb2r,zPB]));(try simp only[]))
     omega
    ·have hjl:j<ps.length:=by omega
     obtain ⟨y,hyj⟩:∃ y,ps[j]? = some y:=⟨ps[j],by simp[hjl]⟩;have hgy:=(yQH (l:=ps.take (j+1)) (i:=j) (x:=y) (by rw[List.getElem?_take,if_pos (by omega)];exact hyj)).1;have hfit:=noFitC.get hx.fit hyj hxi;have hy5:=(hx.part y (List.mem_of_getElem? hyj)).fill;rw[zXR (b:=nx2+2) (by rw[hckl];omega),zWZ (b:=nx2+2) (n:=j+1) (by omega),List.cons_append,List.nil_append];have hji:(((j+1:Nat):Int) - 1).toNat=j:=by omega
     have hti:List.take ((j+1)*3) (ckC (ps.take (j+1)))=ckC (ps.take (j+1)):=List.take_of_length_le (by omega);have hck1:ckC (ps.take (j+2))=ckC (ps.take (j+1))++[.str x.T,.int .i64 x.f,.int .i64 b]:=by
      rw[show j+2=j+1+1 from rfl,List.take_succ,hxi,zXJ,← hb];rfl
     have hl1:(ps.take (j+2)).length=j+2:=by rw[List.length_take];omega
     have hae1:∀ k,zVW k (j+2)=.slice (some ⟨k,0⟩) (j+2) (j+2):=fun k=>zWZ (by omega)
     repeat' (first|refine zQQ 83076749775242902939390529556701107 ?_|refine zQW ?_|(refine stp ?_;simp only[go_sem,hA,hv,hti,hckl])|(refine zWV (id:=27) mixed [(0,[]),(1,[]),(2,[]),(3,[]),(4,[]),(5,[]),(6,[]),(7,[]),(8,[]),(10,[]),(11,[]),(16,[]),(9,[]),(12,[]),(13,[]),(14,[]),(15,[]),(17,[]),(18,[]),(19,[]),(20,[]),(21,[]),(22,[])] (by kernel_rfl) ?_;simp only[go_sem])|(refine zWV (id:=29) mixed [(0,[]),(1,[]),(2,[]),(3,[]),(4,[]),(5,[]),(6,[]),(7,[]),(8,[]),(9,[]),(10,[])] (by kernel_rfl) ?_;simp only[go_sem])|(refine EffW.at (hrd ) [] rfl (by first|(simp[hdf,zQR hdlt];done)|fail) ?_;(try simp only[go_sem]))|((first|(refine zJT ?_;unfold zTQ)|(refine zXN ?_;unfold zGR));simp only[go_sem,hfd,zKH,hpu])|(simp only[go_sem,hgy,hji])|(simp (disch:=omega) only[zQK])|(refine spl (fun h=>?_) (fun h=>?_)<;>first|omega|((try simp only[zKN]);(try simp only[go_sem,h])))|(refine zQT ?_ ?_;focus omega))
     have hab2:∀ k,zVY k (ckC (ps.take (j+1))++[.str x.T,.int .i64 x.f,.int .i64 b]) 192 3=[(k,.cells (ckC (ps.take (j+1))++[.str x.T,.int .i64 x.f,.int .i64 b]) 192 3 true 0)]:=fun k=>zXR (by simp)
     have hcr:∀ q,zZG q (ckC (ps.take (j+1)))=ckC (ps.take (j+1)):=fun q=>xJQ _ _
     have hcb2:∀ k,zQX k (ckC (ps.take (j+1)))=True:=fun k=>eq_true (zXD _ _)
     (refine ⟨(j+2),nx2+2,[nx2+38],?_,?_,rfl,rfl,?_,⟨?_,rfl,?_,?_,?_,?_,?_⟩⟩;rotate_left;(focus (simp only[];omega));(focus ((try simp only[go_sem,zQS,hts,hr1n]);((repeat' apply And.intro)<;>(rfl))));(focus (omega));(focus simp);(focus (simp));(focus (simp only[];omega));(focus (simp[hck1,hl1,hae1,hab2,hcb2,hb2k,zXM]));(focus (simp[hck1,hl1,hae1,hab2,hcr,hb2r,zPB]));(try simp only[]))
     omega
   ·obtain rfl:i=ps.length:=by omega
    repeat' (first|refine zQQ 83076749775242902939390529556701107 ?_|(refine stp ?_;simp only[go_sem])|(refine spl (fun h=>?_) (fun h=>?_)<;>first|omega|try simp only[go_sem,h])|fail)
    rw[List.take_length];have hT:nx2 ≥ 11:=hS2.big;haveI hBig:Big (nx2+2):=⟨by omega⟩;have hxx:=StL.above (p:=p) (B:=B2) (t:=nx2) (t':=nx2+3) (X:=zVY (nx2+2) (ckC ps) 192 3++[(nx2+1,.map (usE (tb.map (·.1)++zZN ps))),(nx2,.cells [.ptr (some ⟨0,0⟩),.int .u32 (zWQ tb),zVW (nx2+2) ps.length,.slice a2 tb.length tb.length] 196 0 true 0)]) (by omega) ?_ ?_ ?_;rw[List.append_assoc] at hxx
    simp only[List.cons_append,List.nil_append] at hxx
    haveI:=hxx.1;have e:stB (zXG p s) (zVY (nx2+2) (ckC ps) 192 3++(nx2+1,.map (usE (tb.map (·.1)++zZN ps)))::(nx2,.cells [.ptr (some ⟨0,0⟩),.int .u32 (zWQ tb),zVW (nx2+2) ps.length,.slice a2 tb.length tb.length] 196 0 true 0)::B2)=zVY (nx2+2) (ckC ps) 192 3++(nx2+1,.map (usE (tb.map (·.1)++zZN ps)))::(nx2,.cells [.ptr (some ⟨0,0⟩),.int .u32 (zWQ tb),zVW (nx2+2) ps.length,.slice a2 tb.length tb.length] 196 0 true 0)::stB (zXG p s) B2:=by
     rw[zTN,zXK,if_neg (by omega),zXK,if_neg (by omega)]
    rw[← e];refine zWX hQ (by omega) (Bg.below (t:=nx2+3)) (by simp[EV.bel]) ⟨_,_,rfl,rfl,hxx.1,(he1.trans he2).trans hxx.2,nx2,nx2+2,_,rfl,⟨by omega,by omega,?_⟩,fun hne=>⟨by omega,by omega,?_⟩,by omega,⟨r2,e2.symm,hl2,by omega,fun hn=>((hat2 hn).mono hxx.2)⟩⟩
    ·rw[zXW,zVF (zST (Nat.le_refl _)) (show nx2<nx2+2 by omega)];simp[lkp]
    ·rw[zXR (by rw[zWR];have:=List.length_pos_iff.2 hne;omega)];simp[lkp]
    ·refine zKP (p:=fun x=>zXT nx2 (x++[(nx2+1,.map (usE (tb.map (·.1)++zZN ps))),(nx2,.cells [.ptr (some ⟨0,0⟩),.int .u32 (zWQ tb),zVW (nx2+2) ps.length,.slice a2 tb.length tb.length] 196 0 true 0)])) (fun _=>?_) ?_<;>simp[zXT]
    ·refine zKP (p:=fun x=>zWN (x++[(nx2+1,.map (usE (tb.map (·.1)++zZN ps))),(nx2,.cells [.ptr (some ⟨0,0⟩),.int .u32 (zWQ tb),zVW (nx2+2) ps.length,.slice a2 tb.length tb.length] 196 0 true 0)])) (fun _=>?_) ?_<;>simp[zWN,lkp]
    ·rw[zXS (by simp) (zXD _ _)];simp[zXM,hb2k]
end
section
variable {p:Gp} (B:List (Nat × EO)) {t:Nat}
theorem yYR (G:List Gl) (s:Gs) [Big t] [hS0:StL p B t] (v:EV) (ref:Nat) (ps:List Ck) (tb:List TP) (hv:TxtV B t v ref ps tb) (hs:zVM ps≤1048576) (hn:ps.length≤1000000) :
  EffW G Tryz.prog 79 [v] t [] (gnd p s B) 0 (.int .i64 (zVM ps)) [] (gnd p s B) 0:=by
 refine EffR.toW _ ?_;obtain ⟨x,r,v2,rfl,hx,hat,hr,h2⟩:=hv;have hX:=hx.f (p:=p);refine EffR.enter fun Q hQ=>?_
 refine zQV 22 [.tmp 2] Tryz.func79 ?_
 repeat' (first|refine zQQ 7725 ?_|refine zQW ?_|(refine stp ?_;simp only[go_sem,hX])|fail)
 refine zWK (fun i:Nat=>[(3,.int .i64 (zVM (ps.take i))),(9,zVW r ps.length),(10,.int .i64 ps.length),(11,.int .i64 i)]) (fun i:Nat=>stB (zXG p s) B) (fun i:Nat=>t) (fun i:Nat=>i≤ps.length) (fun i:Nat=>ps.length - i) (0) (fun z hz=>⟨by simp[zWP,hr],Bg.below,Nat.le_refl _⟩) (by exact Nat.zero_le _) (by (try simp only[go_sem,zQS]);((repeat' apply And.intro)<;>(rfl))) ?_ ?_
 ·simp only[go_sem]
 intro i hi
 rcases Nat.lt_or_ge i ps.length with hil | hil
 ·have hA:=(hat (List.ne_nil_of_length_pos (by omega))).f (p:=p);obtain ⟨y,hy⟩:∃ x,ps[i]? = some x:=⟨ps[i],by simp[hil]⟩;have hpc:=zWR ps;have hg3:=zRV hy;have hae:=zWZ (b:=r) (n:=ps.length) (by omega);have hts:=zVV hy;have htl:=zKJ ps (i+1);have e1:(zVM (ps.take i):Int)+(y.T.length:Int)=(zVM (ps.take (i+1)):Nat):=by omega
  rw[hae]
  repeat' (first|(simp (disch:=omega) only[zQK])|refine zQQ 7725 ?_|refine zQW ?_|(refine stp ?_;simp only[go_sem,hA,hg3,e1])|(refine spl (fun h=>?_) (fun h=>?_)<;>first|omega|try simp only[go_sem,h])|(refine zQT ?_ ?_;focus omega))
  (refine ⟨(i+1),?_,?_,rfl,rfl,?_,?_⟩;rotate_left;(focus (simp only[];omega));(focus ((try simp only[go_sem,zQS]);((repeat' apply And.intro)<;>(rfl))));(focus (simp only[go_sem]));(try simp only[]))
  exact hil
 ·obtain rfl:i=ps.length:=by omega
  rw[List.take_length]
  repeat' (first|refine zQQ 7725 ?_|(refine stp ?_;simp only[go_sem])|(refine spl (fun h=>?_) (fun h=>?_)<;>first|omega|try simp only[go_sem,h])|fail)
  exact zWX hQ (Nat.le_refl _) Bg.below (by simp[EV.bel]) ⟨rfl,rfl,rfl⟩
end
section
theorem noesc {x:EV} {S:ES} {Q:ER→ES→Prop} (h:Q (.ret x) S):ECalls Tryz.prog 174 [x] S Q:=by
 refine yXZ (e:=Extern.AbiNoEscape.same) Tryz.func174 (by kernel_rfl) (by kernel_rfl) (by kernel_rfl) (by kernel_rfl) fun ρ w args' hR hA=>?_
 obtain ⟨x',e,hx⟩:=yPT hA;obtain ⟨l⟩:=args';simp only at e
 subst e;exact RunV.pure hR rfl hx h
theorem liesB:liesAt Tryz.prog Tryz.prog.depth 235 (2 / Tryz.prog.cellsOf 235) 0 235 1=true:=by kernel_rfl
theorem undPB:Tryz.prog.underlying 233=some (.pointer 235):=by kernel_rfl
theorem undPU:Tryz.prog.underlying 268=some (.pointer 5):=by kernel_rfl
theorem cellsU:Tryz.prog.cellsOf 5=1:=by kernel_rfl
theorem undUP:Tryz.prog.underlying 296=some .unsafePointer:=by kernel_rfl
abbrev bld (p:Option EA) (b:EV):EO:=.cells [.ptr p,b] 235 0 true 0
theorem cc_new (G:List Gl):Eff G Tryz.prog 145 [.ptr (some ⟨0,0⟩)] [(0,bld none (.slice none 0 0))] 1 (.tuple []) [(0,bld (some ⟨0,0⟩) (.slice none 0 0))] 1:=by
 unfold Eff bld;refine zQV 20 [] Tryz.func145 ?_
 repeat' (first|refine zQQ 524353 ?_|(refine stp ?_;simp only[go_sem])|(refine noesc ?_;simp only[go_sem])|(refine eop_toU ⟨235,_,undPB,undUP,T235,(by decide),?_⟩;simp only[go_sem])|(refine eop_fromU ⟨235,_,undUP,undPB,T235,(by decide),?_⟩;simp only[go_sem,liesB])|fail)
 all_goals exact zWW [] (by simp) (by simp) (by simp) (by simp) (by simp) (by simp) rfl (by simp) (by simp)
theorem cc_old (G:List Gl):Eff G Tryz.prog 145 [.ptr (some ⟨0,0⟩)] [(0,bld (some ⟨0,0⟩) (.slice none 0 0))] 1 (.tuple []) [(0,bld (some ⟨0,0⟩) (.slice none 0 0))] 1:=by
 unfold Eff bld;refine zQV 20 [] Tryz.func145 ?_
 repeat' (first|refine zQQ 524353 ?_|(refine stp ?_;simp only[go_sem])|(refine ⟨(eqS_ptr T233 rfl T235 (by decide)).2,?_⟩)|fail)
 all_goals exact zWW [] (by simp) (by simp) (by simp) (by simp) (by simp) (by simp) rfl (by simp) (by simp)
theorem cc_full (G:List Gl) (n m:Nat):Eff G Tryz.prog 145 [.ptr (some ⟨0,0⟩)] [(0,bld (some ⟨0,0⟩) (.slice (some ⟨1,0⟩) n m))] 2 (.tuple []) [(0,bld (some ⟨0,0⟩) (.slice (some ⟨1,0⟩) n m))] 2:=by
 unfold Eff bld;refine zQV 20 [] Tryz.func145 ?_
 repeat' (first|refine zQQ 524353 ?_|(refine stp ?_;simp only[go_sem])|(refine ⟨(eqS_ptr T233 rfl T235 (by decide)).2,?_⟩)|fail)
 all_goals exact zWW [] (by simp) (by simp) (by simp) (by simp) (by simp) (by simp) rfl (by simp) (by simp)
abbrev full (i j:Nat) (l:List UInt8):List (Nat × EO):=[(i,bld (some ⟨i,0⟩) (.slice (some ⟨j,0⟩) l.length l.length)),(j,.cells (zQZ l) 5 1 true 0)]
theorem ws_new (G:List Gl) (l:List UInt8) (h0:0<l.length) (hl:l.length≤70000000000000):Eff G Tryz.prog 112 [.ptr (some ⟨0,0⟩),.str l] [(0,bld none (.slice none 0 0))] 1 (.tuple [.int .i64 l.length,.nilIface]) (full 0 1 l) 2:=by
 have h1:(l.length=0)=False:=by simp;intro h;subst h;simp at h0
 unfold Eff full bld;refine zQV 19 [.tmp 4,.tmp 5] Tryz.func112 ?_
 repeat' (first|refine zQQ 51 ?_|(refine stp ?_;simp only[go_sem])|(refine Eff.at2 (cc_new _ ) [0] rfl (by first|(simp;done)|fail) rfl ?_;(try simp only[go_sem]))|(refine spl (fun h=>?_) (fun h=>?_)<;>first|omega|((try simp only[zZQ,zJB,zKN,zRM])))|(refine zQT ?_ ?_;focus omega))
 all_goals exact zWW [1] (by simp) (by simp) (by simp) (by simp) (by simp) (by simp) rfl (by simp) (by simp)
theorem ws_old (G:List Gl) (l:List UInt8) (h0:0<l.length) (hl:l.length≤70000000000000):Eff G Tryz.prog 112 [.ptr (some ⟨0,0⟩),.str l] [(0,bld (some ⟨0,0⟩) (.slice none 0 0))] 1 (.tuple [.int .i64 l.length,.nilIface]) (full 0 1 l) 2:=by
 have h1:(l.length=0)=False:=by simp;intro h;subst h;simp at h0
 unfold Eff full bld;refine zQV 19 [.tmp 4,.tmp 5] Tryz.func112 ?_
 repeat' (first|refine zQQ 51 ?_|(refine stp ?_;simp only[go_sem])|(refine Eff.at2 (cc_old _ ) [0] rfl (by first|(simp;done)|fail) rfl ?_;(try simp only[go_sem]))|(refine spl (fun h=>?_) (fun h=>?_)<;>first|omega|((try simp only[zZQ,zJB,zKN,zRM])))|(refine zQT ?_ ?_;focus omega))
 all_goals exact zWW [1] (by simp) (by simp) (by simp) (by simp) (by simp) (by simp) rfl (by simp) (by simp)
theorem ws_full (G:List Gl) (k l:List UInt8) (h0:0<l.length) (hl:k.length+l.length≤70000000000000):Eff G Tryz.prog 112 [.ptr (some ⟨0,0⟩),.str l] (full 0 1 k) 2 (.tuple [.int .i64 l.length,.nilIface]) (full 0 2 (k++l)) 3:=by
 have h1:(l.length=0)=False:=by simp;intro h;subst h;simp at h0
 unfold Eff full bld;refine zQV 19 [.tmp 4,.tmp 5] Tryz.func112 ?_
 repeat' (first|refine zQQ 51 ?_|(refine stp ?_;simp only[go_sem])|(refine Eff.at2 (cc_full _ k.length k.length ) [0,1] rfl (by first|(simp;done)|fail) rfl ?_;(try simp only[go_sem]))|(refine spl (fun h=>?_) (fun h=>?_)<;>first|omega|((try simp only[zZQ,zJB,zKN,zRM])))|(refine zQT ?_ ?_;focus omega))
 all_goals exact zWW [2] (by simp) (by simp) (by simp) (by simp) (by simp) (by simp) rfl (by simp) (by simp)
theorem ws_new0 (G:List Gl):Eff G Tryz.prog 112 [.ptr (some ⟨0,0⟩),.str []] [(0,bld none (.slice none 0 0))] 1 (.tuple [.int .i64 0,.nilIface]) [(0,bld (some ⟨0,0⟩) (.slice none 0 0))] 1:=by
 unfold Eff bld;refine zQV 19 [.tmp 4,.tmp 5] Tryz.func112 ?_
 repeat' (first|refine zQQ 51 ?_|(refine stp ?_;simp only[go_sem])|(refine Eff.at2 (cc_new _ ) [0] rfl (by first|(simp;done)|fail) rfl ?_;(try simp only[go_sem]))|fail)
 all_goals exact zWW [] (by simp) (by simp) (by simp) (by simp) (by simp) (by simp) rfl (by simp) (by simp)
theorem ws_old0 (G:List Gl):Eff G Tryz.prog 112 [.ptr (some ⟨0,0⟩),.str []] [(0,bld (some ⟨0,0⟩) (.slice none 0 0))] 1 (.tuple [.int .i64 0,.nilIface]) [(0,bld (some ⟨0,0⟩) (.slice none 0 0))] 1:=by
 unfold Eff bld;refine zQV 19 [.tmp 4,.tmp 5] Tryz.func112 ?_
 repeat' (first|refine zQQ 51 ?_|(refine stp ?_;simp only[go_sem])|(refine Eff.at2 (cc_old _ ) [0] rfl (by first|(simp;done)|fail) rfl ?_;(try simp only[go_sem]))|fail)
 all_goals exact zWW [] (by simp) (by simp) (by simp) (by simp) (by simp) (by simp) rfl (by simp) (by simp)
theorem yBY (G:List Gl) (p:Option EA) (hp:p=none∨p=some ⟨0,0⟩):Eff G Tryz.prog 113 [.ptr (some ⟨0,0⟩)] [(0,bld p (.slice none 0 0))] 1 (.str []) [] 1:=by
 unfold Eff bld
 rcases hp with rfl | rfl
 all_goals
  refine zQV 14 [.tmp 2] Tryz.func113 ?_
  repeat' (first|refine zQQ 5 ?_|(refine stp ?_;simp only[go_sem])|(refine zWV (id:=1) mixed [(0,[]),(1,[]),(2,[]),(5,[]),(6,[]),(7,[]),(3,[]),(8,[]),(9,[]),(4,[8,9]),(10,[]),(11,[])] (by kernel_rfl) ?_;simp only[go_sem])|(refine xRS ?_;simp only[go_sem])|(refine xRR ?_;simp only[go_sem])|fail)
  all_goals exact zWW [] (by simp) (by simp) (by simp) (by simp) (by simp) (by simp) rfl (by simp) (by simp)
theorem xYX (G:List Gl) (l:List UInt8) (h0:0<l.length) (hl:l.length≤70000000000000):Eff G Tryz.prog 113 [.ptr (some ⟨0,0⟩)] (full 0 1 l) 2 (.str l) [] 2:=by
 have h1:(l.length=0)=False:=by simp;intro h;subst h;simp at h0
 unfold Eff full bld;refine zQV 14 [.tmp 2] Tryz.func113 ?_
 repeat' (first|refine zQQ 5 ?_|(refine stp ?_;simp only[go_sem])|(refine zWV (id:=1) mixed [(0,[]),(1,[]),(2,[]),(5,[]),(6,[]),(7,[]),(3,[]),(8,[]),(9,[]),(4,[8,9]),(10,[]),(11,[])] (by kernel_rfl) ?_;simp only[go_sem])|(refine xRS ?_;simp only[go_sem,h1])|(refine xRR ?_;simp only[go_sem,undPU,cellsU])|(refine zQT ?_ ?_;focus omega))
 all_goals exact zWW [] (by simp) (by simp) (by simp) (by simp) (by simp) (by simp) rfl (by simp) (by simp)
end
section
theorem zPG (l:List UInt8) (k:Nat):zQX k (zQZ l):=zTZ fun v hv=>by
 simp only[zQZ,List.mem_map] at hv
 obtain ⟨_,_,rfl⟩:=hv;trivial
theorem zSG (l:List UInt8) (π:Nat→Nat):zZG π (zQZ l)=zQZ l:=by
 induction l with
 | nil=>rfl
 | cons x l ih=>rw[zJW,zZG,ih];rfl
theorem zJQ {P:Program} {k:Nat} {Q:X→Fr→ES→Prop} {fr:Fr} {s:ES} (m:List (Nat × EV)) {g:Operand} {ps:Array Tmp} {asg body:Code} (f:FuncId) (first cap:List EV) {fn:Func} {c:Code}
  (hg:ev fr g=.fn (.func f) first cap) (hf:P.funcs[f]? = some fn) (hb:fn.body=some c) (hname:(fn.name == "runtime.NumGoroutine")=false) (hm:zQS fr m)
  (h:∀ cd,cd=Code.rangeFunc g ps asg body→∀ D,ECalls P f (first++[.fn (.yield (D+1)) [] []]++cap) ((s.new (.raw D (.deferred (some [])))).new (.rng (D+1) (tlM fr.n m) .ready none cd)) (rngPost (s.nx+1) (D+1) (tlM fr.n m) cd Q ⟨fr.m,fr.d,fr.n,xQY D::fr.ds⟩)) :
  ESem P k (.rangeFunc g ps asg body) Q fr s:=esem_range m _ rfl hg hf hb hname hm (h _ rfl)
def zQP (l:List Ck):List UInt8:=l.flatMap (·.T)
theorem zQD (l:List Ck):(zQP l).length=zVM l:=by simp[zQP,zVM,List.length_flatMap]
theorem zMT {l:List Ck} {i:Nat} {x:Ck} (h:l[i]? = some x):zQP (l.take (i+1))=zQP (l.take i)++x.T:=by
 unfold zQP;rw[List.take_succ,h,List.flatMap_append];simp
theorem piece_step (P T:List UInt8) (a b:Nat) (hb:P.length<b):((P++T).drop a).take (b - a)=(P.drop a).take (b - a)++(T.drop (a - P.length)).take (min (b - P.length) T.length - (a - P.length)):=by
 rw[List.drop_append,List.take_append,List.length_drop]
 congr 1
 rcases Nat.le_total (b - P.length) T.length with h | h
 ·rw[Nat.min_eq_left h];congr 1;omega
 ·rw[Nat.min_eq_right h,List.take_of_length_le (by rw[List.length_drop];omega),List.take_of_length_le (by rw[List.length_drop];omega)]
theorem piece_end (P R:List UInt8) (a b:Nat) (hb:b≤P.length):((P++R).drop a).take (b - a)=(P.drop a).take (b - a):=by
 rw[List.drop_append,List.take_append_of_le_length (by rw[List.length_drop];omega)]
variable {p:Gp} (B:List (Nat × EO)) {t:Nat}
theorem all_c (G:List Gl) (s:Gs) [Big t] [hS0:StL p B t] (x:Nat) (hx:x<t) :
  EffW G Tryz.prog 81 [.ptr (some ⟨x,0⟩)] t [] (gnd p s B) 0 (.fn (.func 115) [] [.ptr (some ⟨t,0⟩)]) [(t,.cells [.ptr (some ⟨x,0⟩)] 182 0 true 0)] (gnd p s B) 1:=by
 refine EffW.enter fun Q hQ=>?_
 simp only[gnd,List.nil_append,Nat.add_zero];refine zQV 4 [.tmp 2] Tryz.func81 ?_
 repeat' (first|refine zQQ 7 ?_|(refine stp ?_;simp only[go_sem])|fail)
 (refine zQN hQ [t] ?_ ?_ ?_<;>(first|(simp;done)|(simp;omega)))
theorem xZF (G:List Gl) (s:Gs) [Big t] [hS0:StL p B t] (v:EV) (ref:Nat) (ps:List Ck) (tb:List TP) (hv:TxtV B t v ref ps tb) (hs:zVM ps≤1048576) (hn:ps.length≤1000000) (hpos:∀ x∈ps,1≤x.T.length) (a b:Nat) (hab:a≤b) (hb:b≤zVM ps) :
  EffW G Tryz.prog 78 [v,.int .i64 a,.int .i64 b] t [] (gnd p s B) 0 (.str (((zQP ps).drop a).take (b - a))) [] (gnd p s B) 0:=by
 obtain ⟨x,r,v2,rfl,hx,hat,hr,h2⟩:=hv;have hxt:=hx.lt;have hrx:(r<t+6)∧x<t+6:=by omega
 have hxk:∀ k,x<t+k:=fun k=>by omega
 have hX:=hx.f (p:=p);have hall:=all_c (p:=p) B G s x hxt;refine EffW.enter fun Q hQ=>?_
 simp only[gnd,List.nil_append,Nat.add_zero];refine zQV 42 [.tmp 6] Tryz.func78 ?_
 repeat' (first|refine zQQ 293879 ?_|refine zQW ?_|(refine stp ?_;simp only[go_sem])|(refine yQS 0 ?_)|(refine EffW.at (hall ) [] rfl (by simp[hxt,zQR hxt];omega) ?_;(try simp only[go_sem,zQR hxt]))|fail)
 refine zJQ [(4,.ptr (some ⟨t,0⟩)),(5,.ptr (some ⟨t+1,0⟩)),(7,.ptr (some ⟨t+2,0⟩))] 115 [] [.ptr (some ⟨t+3,0⟩)] (by simp only[go_sem]) Tryz.func115 rfl rfl (by simp only[go_sem,zQS]) ?_;intro cd hcd D;simp only[go_sem,List.nil_append,List.cons_append];refine zQV 26 [] Tryz.func115 ?_
 repeat' (first|refine zQQ 532011 ?_|refine zQW ?_|(refine stp ?_;simp only[go_sem,hX])|fail)
 obtain ⟨tl,htm⟩:∃ l,l=tlM 42 [(4,.ptr (some ⟨t,0⟩)),(5,.ptr (some ⟨t+1,0⟩)),(7,.ptr (some ⟨t+2,0⟩))]:=⟨_,rfl⟩;have htlb:zQX (t+3) tl:=by rw[htm];exact zDH (by simp[zWP])
 have htlk:∀ k,zQX (t+3+k) tl=True:=fun k=>eq_true (zQJ (Nat.le_add_right _ _) _ htlb)
 have htlr:∀ q,zZG (nam (t+6) q) tl=tl:=fun q=>zWB (k:=t+3) (i:=3) htlb
 have htl7:zQX (t+7) tl=True:=htlk 4;rw[← htm];obtain ⟨W,hW⟩:∃ W:Nat→List UInt8,W=fun i=>((zQP (ps.take i)).drop a).take (b - a):=⟨_,rfl⟩
 have hWl:∀ i,(W i).length≤1048576:=fun i=>by rw[hW];simp;omega
 refine zQM (fun z:Nat × Bool=>[(11,.int .i64 z.1),(10,.int .i64 ps.length),(9,zVW r ps.length),(3,.int .i64 (zVM (ps.take z.1))),(0,.fn (.yield (D+1)) [] [])]) (fun z:Nat × Bool=>zVY (t+6) (zQZ (W z.1)) 5 1++((t+5,.rng (D+1) tl .ready none cd)::(t+4,.raw D (.deferred (some [])))::(t+3,.cells [.ptr (some ⟨x,0⟩)] 182 0 true 0)::(t+2,.cells [.ptr (if z.2 then some ⟨t+2,0⟩ else none),zVW (t+6) (W z.1).length] 235 0 true 0)::(t+1,.cells [.int .i64 b] 3 0 true 0)::(t,.cells [.int .i64 a] 3 0 true 0)::stB (zXG p s) B)) (fun z:Nat × Bool=>t+7) (fun z:Nat × Bool=>z.1≤ps.length∧(z.2=false→W z.1=[])) (fun z:Nat × Bool=>ps.length - z.1) ((0,false)) ?_ ?_ ?_ ?_ ?_
 ·rintro ⟨i,u⟩ ⟨hi,hu⟩
  refine ⟨by simp[zWP,show r<t+7 by omega],?_,by show t+6≤t+7;omega⟩;rw[zXS (by simp) (zPG _ _)]
  cases u<;>simp[htl7,show x<t+7 by omega]
 ·exact ⟨Nat.zero_le _,fun _=>by simp[hW,zQP]⟩
 ·simp only[go_sem,zQS,zVM,List.map_nil,List.sum_nil]
 ·have hW0:W 0=[]:=by simp[hW,zQP]
  simp only[hW0,zWH,zVT,List.nil_append,List.length_nil,zWY];simp only[go_sem,zWG]
 ·rintro ⟨i,u⟩ ⟨hi,hu⟩
  simp only at hi hu ⊢
  rcases Nat.lt_or_ge i ps.length with hil | hil
  ·obtain ⟨y,hy⟩:∃ x,ps[i]? = some x:=⟨ps[i],by simp[hil]⟩;have hA:=(hat (List.ne_nil_of_length_pos (by omega))).f (p:=p);have hg3:=zRV hy;have hae:=zWZ (b:=r) (n:=ps.length) (by omega);have hts:=zVV hy;have htl:=zKJ ps (i+1);rw[hae];have e1:(max ((a:Int) - (zVM (ps.take i):Int)) 0).toNat=a - zVM (ps.take i):=by omega
   have e2:(min ((b:Int) - (zVM (ps.take i):Int)) (y.T.length:Int)).toNat=min (b - zVM (ps.take i)) y.T.length:=by omega
   have hP:=zQD (ps.take i);have hyp:=hpos y (List.mem_of_getElem? hy);have hWs:∀ k,W k=((zQP (ps.take k)).drop a).take (b - a):=fun k=>by rw[hW]
   obtain ⟨S,hSd⟩:∃ S,List.take (min (b - zVM (ps.take i)) y.T.length - (a - zVM (ps.take i))) (List.drop (a - zVM (ps.take i)) y.T)=S:=⟨_,rfl⟩;have hSl:S.length=min (b - zVM (ps.take i)) y.T.length - (a - zVM (ps.take i)):=by rw[← hSd,List.length_take,List.length_drop];omega
   have hW1:zVM (ps.take i)<b→W (i+1)=W i++S:=fun h=>by
    rw[hWs,hWs,zMT hy,← hSd,← hP];exact piece_step _ _ _ _ (by rw[hP];exact h)
   have hfin:b≤zVM (ps.take i)→W i=((zQP ps).drop a).take (b - a):=fun h=>by
    rw[hWs]
    conv=>rhs;rw[show zQP ps=zQP (ps.take i)++zQP (ps.drop i) by unfold zQP;rw[← List.flatMap_append,List.take_append_drop]]
    rw[piece_end _ _ _ _ (by rw[hP];exact h)]
   have hWi:=hWl i;have htlk2:∀ k,3≤k→zQX (t+k) tl=True:=fun k hk=>eq_true (zQJ (by omega) _ htlb)
   have hdW:(W i).length=min (b - a) (zVM (ps.take i) - a):=by rw[hWs,List.length_take,List.length_drop,hP]
   have hbeR:∀ (l:List UInt8) π,zZG π (zQZ l)=zQZ l:=zSG;have hbeB:∀ (l:List UInt8) k,zQX k (zQZ l)=True:=fun l k=>eq_true (zPG l k)
   by_cases hw:W i=[]
   ·cases u with
    | true=>
      rw[hw,zWH,zVT,List.length_nil,zWY,List.nil_append,if_pos rfl]
      by_cases hSe:S=[]
      ·rw[hSe] at hSd hW1
       rw[hw,List.append_nil] at hW1
       repeat' (first|refine zQQ 532011 ?_|refine zQW ?_|(refine stp ?_;simp only[go_sem,hA,hg3])|(refine spl (fun h=>?_) (fun h=>?_)<;>first|omega|try simp only[go_sem,h])|(refine zQT ?_ ?_;focus omega))
       refine zWD (t+5) 42 [(4,.ptr (some ⟨t,0⟩)),(5,.ptr (some ⟨t+1,0⟩)),(7,.ptr (some ⟨t+2,0⟩))] cd (by simp only[go_sem,← htm]) hcd rfl rfl rfl rfl rfl ?_;rw[← htm];simp only[go_sem,putArgs]
       repeat' (first|refine zQQ 293879 ?_|refine zQW ?_|(refine stp ?_;simp only[go_sem])|(refine Eff.at2 (ws_old0 G ) [t+2] rfl (by first|(simp;done)|fail) rfl ?_;(try simp only[go_sem]))|(simp only[zPD,go_sem])|(simp only[zKZ,go_sem])|(simp only[go_sem,e1,e2,hSd])|(simp (disch:=omega) only[zQK])|(refine spl (fun h=>?_) (fun h=>?_)<;>((try simp only[go_sem,h])))|(refine zQT ?_ ?_;focus omega))
       ·skip
        refine zZZ ?_ ?_ ?_ ⟨.done,some (.exit 0),?_,by simp,?_⟩
        ·simp[htlk2,hxk]
        ·simp only[];omega
        ·simp[EV.bel,zQX]
        ·simp only[go_sem]
        ·simp only[zGG,go_sem]
         repeat' (first|refine zQQ 293879 ?_|(refine stp ?_;simp only[go_sem])|(refine Eff.at2 (yBY G _ (.inr rfl) ) [t+2] rfl (by first|(simp;done)|fail) rfl ?_;(try simp only[go_sem]))|fail)
         refine ⟨t+4,D,rfl,by simp only[go_sem],?_⟩;simp only[go_sem];rw[← hfin (by omega),hw] at hQ
         (refine zQN hQ [] ?_ ?_ ?_<;>(simp))
       ·have hW2:=hW1 (by omega)
        (refine ⟨(i+1,true),t+6,[t+7],?_,?_,rfl,rfl,?_,⟨?_,rfl,?_,?_,?_,?_,?_⟩⟩;rotate_left;(focus (simp only[];omega));(focus (simp only[go_sem,zQS,hts,hrx,Int.natCast_add]));(focus (omega));(focus simp);(focus (simp));(focus (simp only[];omega));(focus (simp[hW2,htl7,zWH,zVT,zWY];omega));(focus (simp[hW2,hrx,htlr,zWH,zVT,zWY]));(try simp only[]))
        exact ⟨hil,fun h=>by cases h⟩
       ·have hW2:=hW1 (by omega)
        (refine ⟨(i+1,true),t+6,[t+7],?_,?_,rfl,rfl,?_,⟨?_,rfl,?_,?_,?_,?_,?_⟩⟩;rotate_left;(focus (simp only[];omega));(focus (simp only[go_sem,zQS,hts,hrx,Int.natCast_add]));(focus (omega));(focus simp);(focus (simp));(focus (simp only[];omega));(focus (simp[hW2,htl7,zWH,zVT,zWY];omega));(focus (simp[hW2,hrx,htlr,zWH,zVT,zWY]));(try simp only[]))
        all_goals exact And.intro hil (fun h=>hW2)
      ·have hSp:0<S.length:=List.length_pos_iff.2 hSe;rw[hw,List.nil_append] at hW1
       have hab:∀ k,zVY k (zQZ S) 5 1=[(k,.cells (zQZ S) 5 1 true 0)]:=fun k=>zXR (by rw[zQY];omega)
       have haw:∀ k,zVW k S.length=.slice (some ⟨k,0⟩) S.length S.length:=fun k=>zWZ (by omega)
       repeat' (first|refine zQQ 532011 ?_|refine zQW ?_|(refine stp ?_;simp only[go_sem,hA,hg3])|(refine spl (fun h=>?_) (fun h=>?_)<;>first|omega|try simp only[go_sem,h])|(refine zQT ?_ ?_;focus omega))
       refine zWD (t+5) 42 [(4,.ptr (some ⟨t,0⟩)),(5,.ptr (some ⟨t+1,0⟩)),(7,.ptr (some ⟨t+2,0⟩))] cd (by simp only[go_sem,← htm]) hcd rfl rfl rfl rfl rfl ?_;rw[← htm];simp only[go_sem,putArgs]
       repeat' (first|refine zQQ 293879 ?_|refine zQW ?_|(refine stp ?_;simp only[go_sem])|(refine Eff.at2 (ws_old G S (by omega) (by omega) ) [t+2] rfl (by first|(simp;done)|fail) rfl ?_;(try simp only[go_sem]))|(simp only[zPD,go_sem])|(simp only[zKZ,go_sem])|(simp only[go_sem,e1,e2,hSd])|(simp (disch:=omega) only[zQK])|(refine spl (fun h=>?_) (fun h=>?_)<;>first|omega|try simp only[go_sem,h])|(refine zQT ?_ ?_;focus omega))
       have hW2:=hW1 (by omega)
       (refine ⟨(i+1,true),t+6,[t+9],?_,?_,rfl,rfl,?_,⟨?_,rfl,?_,?_,?_,?_,?_⟩⟩;rotate_left;(focus (simp only[];omega));(focus (simp only[go_sem,zQS,hts,hrx,Int.natCast_add]));(focus (omega));(focus simp);(focus (simp));(focus (simp only[];omega));(focus (simp[hW2,hab,haw,htl7,hbeB];omega));(focus (simp[hW2,hab,haw,hrx,htlr,hbeR]));(try simp only[]))
       exact And.intro hil (fun h=>by cases h)
    | false=>
      rw[hw,zWH,zVT,List.length_nil,zWY,List.nil_append,if_neg Bool.false_ne_true]
      by_cases hSe:S=[]
      ·rw[hSe] at hSd hW1
       rw[hw,List.append_nil] at hW1
       repeat' (first|refine zQQ 532011 ?_|refine zQW ?_|(refine stp ?_;simp only[go_sem,hA,hg3])|(refine spl (fun h=>?_) (fun h=>?_)<;>first|omega|try simp only[go_sem,h])|(refine zQT ?_ ?_;focus omega))
       refine zWD (t+5) 42 [(4,.ptr (some ⟨t,0⟩)),(5,.ptr (some ⟨t+1,0⟩)),(7,.ptr (some ⟨t+2,0⟩))] cd (by simp only[go_sem,← htm]) hcd rfl rfl rfl rfl rfl ?_;rw[← htm];simp only[go_sem,putArgs]
       repeat' (first|refine zQQ 293879 ?_|refine zQW ?_|(refine stp ?_;simp only[go_sem])|(refine Eff.at2 (ws_new0 G ) [t+2] rfl (by first|(simp;done)|fail) rfl ?_;(try simp only[go_sem]))|(simp only[zPD,go_sem])|(simp only[zKZ,go_sem])|(simp only[go_sem,e1,e2,hSd])|(simp (disch:=omega) only[zQK])|(refine spl (fun h=>?_) (fun h=>?_)<;>((try simp only[go_sem,h])))|(refine zQT ?_ ?_;focus omega))
       ·skip
        refine zZZ ?_ ?_ ?_ ⟨.done,some (.exit 0),?_,by simp,?_⟩
        ·simp[htlk2,hxk]
        ·simp only[];omega
        ·simp[EV.bel,zQX]
        ·simp only[go_sem]
        ·simp only[zGG,go_sem]
         repeat' (first|refine zQQ 293879 ?_|(refine stp ?_;simp only[go_sem])|(refine Eff.at2 (yBY G _ (.inl rfl) ) [t+2] rfl (by first|(simp;done)|fail) rfl ?_;(try simp only[go_sem]))|fail)
         refine ⟨t+4,D,rfl,by simp only[go_sem],?_⟩;simp only[go_sem];rw[← hfin (by omega),hw] at hQ
         (refine zQN hQ [] ?_ ?_ ?_<;>(simp))
       ·have hW2:=hW1 (by omega)
        (refine ⟨(i+1,true),t+6,[t+7],?_,?_,rfl,rfl,?_,⟨?_,rfl,?_,?_,?_,?_,?_⟩⟩;rotate_left;(focus (simp only[];omega));(focus (simp only[go_sem,zQS,hts,hrx,Int.natCast_add]));(focus (omega));(focus simp);(focus (simp));(focus (simp only[];omega));(focus (simp[hW2,htl7,zWH,zVT,zWY];omega));(focus (simp[hW2,hrx,htlr,zWH,zVT,zWY]));(try simp only[]))
        exact ⟨hil,fun h=>by cases h⟩
       ·have hW2:=hW1 (by omega)
        (refine ⟨(i+1,false),t+6,[t+7],?_,?_,rfl,rfl,?_,⟨?_,rfl,?_,?_,?_,?_,?_⟩⟩;rotate_left;(focus (simp only[];omega));(focus (simp only[go_sem,zQS,hts,hrx,Int.natCast_add]));(focus (omega));(focus simp);(focus (simp));(focus (simp only[];omega));(focus (simp[hW2,htl7,zWH,zVT,zWY];omega));(focus (simp[hW2,hrx,htlr,zWH,zVT,zWY]));(try simp only[]))
        all_goals exact And.intro hil (fun h=>hW2)
      ·have hSp:0<S.length:=List.length_pos_iff.2 hSe;rw[hw,List.nil_append] at hW1
       have hab:∀ k,zVY k (zQZ S) 5 1=[(k,.cells (zQZ S) 5 1 true 0)]:=fun k=>zXR (by rw[zQY];omega)
       have haw:∀ k,zVW k S.length=.slice (some ⟨k,0⟩) S.length S.length:=fun k=>zWZ (by omega)
       repeat' (first|refine zQQ 532011 ?_|refine zQW ?_|(refine stp ?_;simp only[go_sem,hA,hg3])|(refine spl (fun h=>?_) (fun h=>?_)<;>first|omega|try simp only[go_sem,h])|(refine zQT ?_ ?_;focus omega))
       refine zWD (t+5) 42 [(4,.ptr (some ⟨t,0⟩)),(5,.ptr (some ⟨t+1,0⟩)),(7,.ptr (some ⟨t+2,0⟩))] cd (by simp only[go_sem,← htm]) hcd rfl rfl rfl rfl rfl ?_;rw[← htm];simp only[go_sem,putArgs]
       repeat' (first|refine zQQ 293879 ?_|refine zQW ?_|(refine stp ?_;simp only[go_sem])|(refine Eff.at2 (ws_new G S (by omega) (by omega) ) [t+2] rfl (by first|(simp;done)|fail) rfl ?_;(try simp only[go_sem]))|(simp only[zPD,go_sem])|(simp only[zKZ,go_sem])|(simp only[go_sem,e1,e2,hSd])|(simp (disch:=omega) only[zQK])|(refine spl (fun h=>?_) (fun h=>?_)<;>first|omega|try simp only[go_sem,h])|(refine zQT ?_ ?_;focus omega))
       have hW2:=hW1 (by omega)
       (refine ⟨(i+1,true),t+6,[t+9],?_,?_,rfl,rfl,?_,⟨?_,rfl,?_,?_,?_,?_,?_⟩⟩;rotate_left;(focus (simp only[];omega));(focus (simp only[go_sem,zQS,hts,hrx,Int.natCast_add]));(focus (omega));(focus simp);(focus (simp));(focus (simp only[];omega));(focus (simp[hW2,hab,haw,htl7,hbeB];omega));(focus (simp[hW2,hab,haw,hrx,htlr,hbeR]));(try simp only[]))
       exact And.intro hil (fun h=>by cases h)
   ·have hwl:0<(W i).length:=List.length_pos_iff.2 hw;obtain rfl:u=true:=by
     cases u with
     | false=>exact absurd (hu rfl) hw
     | true=>rfl
    have hab:∀ k S,zVY k (zQZ (W i++S)) 5 1=[(k,.cells (zQZ (W i++S)) 5 1 true 0)]:=fun k S=>zXR (by rw[zQY,List.length_append];omega)
    have haw:∀ k S,zVW k (W i++S).length=.slice (some ⟨k,0⟩) (W i++S).length (W i++S).length:=fun k S=>zWZ (by rw[List.length_append];omega)
    have hab0:∀ k,zVY k (zQZ (W i)) 5 1=[(k,.cells (zQZ (W i)) 5 1 true 0)]:=fun k=>zXR (by rw[zQY];omega)
    have haw0:∀ k,zVW k (W i).length=.slice (some ⟨k,0⟩) (W i).length (W i).length:=fun k=>zWZ (by omega)
    have haw2:∀ k,zVW k ((W i).length+S.length)=.slice (some ⟨k,0⟩) ((W i).length+S.length) ((W i).length+S.length):=fun k=>zWZ (by omega)
    rw[hab0,haw0,if_pos rfl,List.cons_append,List.nil_append]
    repeat' (first|refine zQQ 532011 ?_|refine zQW ?_|(refine stp ?_;simp only[go_sem,hA,hg3])|(refine spl (fun h=>?_) (fun h=>?_)<;>first|omega|try simp only[go_sem,h])|(refine zQT ?_ ?_;focus omega))
    refine zWD (t+5) 42 [(4,.ptr (some ⟨t,0⟩)),(5,.ptr (some ⟨t+1,0⟩)),(7,.ptr (some ⟨t+2,0⟩))] cd (by simp only[go_sem,← htm]) hcd rfl rfl rfl rfl rfl ?_;rw[← htm];simp only[go_sem,putArgs]
    repeat' (first|refine zQQ 293879 ?_|refine zQW ?_|(refine stp ?_;simp only[go_sem])|(refine Eff.at2 (ws_full G (W i) S (by omega) (by omega) ) [t+2,t+6] rfl (by first|(simp;done)|fail) rfl ?_;(try simp only[go_sem]))|(simp only[zPD,go_sem])|(simp only[zKZ,go_sem])|(simp only[go_sem,e1,e2,hSd])|(simp (disch:=omega) only[zQK])|(refine spl (fun h=>?_) (fun h=>?_)<;>first|omega|try simp only[go_sem,h])|(refine zQT ?_ ?_;focus omega))
    ·skip
     refine zZZ ?_ ?_ ?_ ⟨.done,some (.exit 0),?_,by simp,?_⟩
     ·simp[htlk2,hxk]
     ·simp only[];omega
     ·simp[EV.bel,zQX]
     ·simp only[go_sem]
     ·simp only[zGG,go_sem]
      repeat' (first|refine zQQ 293879 ?_|(refine stp ?_;simp only[go_sem])|(refine Eff.at2 (xYX G (W i) hwl (by omega) ) [t+2,t+6] rfl (by first|(simp;done)|fail) rfl ?_;(try simp only[go_sem]))|fail)
      refine ⟨t+4,D,rfl,by simp only[go_sem],?_⟩;simp only[go_sem];rw[← hfin (by omega)] at hQ
      (refine zQN hQ [] ?_ ?_ ?_<;>(simp))
    ·have hW2:=hW1 (by omega)
     (refine ⟨(i+1,true),t+6,[t+9],?_,?_,rfl,rfl,?_,⟨?_,rfl,?_,?_,?_,?_,?_⟩⟩;rotate_left;(focus (simp only[];omega));(focus (simp only[go_sem,zQS,hts,hrx,Int.natCast_add]));(focus (omega));(focus simp);(focus (simp));(focus (simp only[];omega));(focus (simp[hW2,haw2,htl7,hbeB,zWJ];omega));(focus (simp[hW2,haw2,hrx,htlr,hbeR,zWJ]));(try simp only[]))
     exact ⟨hil,fun h=>by cases h⟩
  ·obtain rfl:i=ps.length:=by omega
   have hWf:W ps.length=((zQP ps).drop a).take (b - a):=by rw[hW];simp
   have htlk2:∀ k,3≤k→zQX (t+k) tl=True:=fun k hk=>eq_true (zQJ (by omega) _ htlb)
   repeat' (first|refine zQQ 532011 ?_|(refine stp ?_;simp only[go_sem])|(refine spl (fun h=>?_) (fun h=>?_)<;>first|omega|try simp only[go_sem,h])|fail)
   have hWi:=hWl ps.length
   by_cases hw:W ps.length=[]
   ·cases u with
    | true=>
      rw[hw,zWH,zVT,List.length_nil,zWY,List.nil_append,if_pos rfl];refine zZZ ?_ ?_ ?_ ⟨.ready,none,?_,by simp,?_⟩
      ·simp[htlk2,hxk]
      ·simp only[];omega
      ·simp[EV.bel,zQX]
      ·simp only[go_sem]
      ·simp only[zGG,go_sem]
       repeat' (first|refine zQQ 293879 ?_|(refine stp ?_;simp only[go_sem])|(refine Eff.at2 (yBY G _ (.inr rfl) ) [t+2] rfl (by first|(simp;done)|fail) rfl ?_;(try simp only[go_sem]))|fail)
       refine ⟨t+4,D,rfl,by simp only[go_sem],?_⟩;simp only[go_sem];rw[← hWf,hw] at hQ
       (refine zQN hQ [] ?_ ?_ ?_<;>(simp))
    | false=>
      rw[hw,zWH,zVT,List.length_nil,zWY,List.nil_append,if_neg Bool.false_ne_true];refine zZZ ?_ ?_ ?_ ⟨.ready,none,?_,by simp,?_⟩
      ·simp[htlk2,hxk]
      ·simp only[];omega
      ·simp[EV.bel,zQX]
      ·simp only[go_sem]
      ·simp only[zGG,go_sem]
       repeat' (first|refine zQQ 293879 ?_|(refine stp ?_;simp only[go_sem])|(refine Eff.at2 (yBY G _ (.inl rfl) ) [t+2] rfl (by first|(simp;done)|fail) rfl ?_;(try simp only[go_sem]))|fail)
       refine ⟨t+4,D,rfl,by simp only[go_sem],?_⟩;simp only[go_sem];rw[← hWf,hw] at hQ
       (refine zQN hQ [] ?_ ?_ ?_<;>(simp))
   ·have hwl:0<(W ps.length).length:=List.length_pos_iff.2 hw;obtain rfl:u=true:=by
     cases u with
     | false=>exact absurd (hu rfl) hw
     | true=>rfl
    rw[zXR (b:=t+6) (by rw[zQY];exact hwl),zWZ (b:=t+6) hwl,if_pos rfl,List.cons_append,List.nil_append];refine zZZ ?_ ?_ ?_ ⟨.ready,none,?_,by simp,?_⟩
    ·simp[htlk2,hxk]
    ·simp only[];omega
    ·simp[EV.bel,zQX]
    ·simp only[go_sem]
    ·simp only[zGG,go_sem]
     repeat' (first|refine zQQ 293879 ?_|(refine stp ?_;simp only[go_sem])|(refine Eff.at2 (xYX G (W ps.length) hwl (by omega) ) [t+2,t+6] rfl (by first|(simp;done)|fail) rfl ?_;(try simp only[go_sem]))|fail)
     refine ⟨t+4,D,rfl,by simp only[go_sem],?_⟩;simp only[go_sem];rw[← hWf] at hQ
     (refine zQN hQ [] ?_ ?_ ?_<;>(simp))
end
end Go.Proofs.YtncphnpndkjkaaaGreatDoor
